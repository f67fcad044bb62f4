/- DERIVED by an AI agent. -/
import Derived.Test.YtpnknaaehcljoaaGreatQ5
import Derived.Test.YtpnknaaehcljoaaGreatQ4
import Derived.Test.YtpnknaaehcljoaaGreatQ2
import Derived.Test.YtpnknaaehcljoaaGreatQ1
namespace Go.Proofs.YtpnknaaehcljoaaGreat
open Go.Abs
open Nat (reduceEqDiff reduceMod reduceAdd reduceLT reduceLeDiff reduceSub reduceMul)
set_option linter.unusedSimpArgs false
set_option linter.unusedVariables false
theorem zzQ (xs:List Int) (m:Nat) (h:2 ^ m ≤ 64):zda (fun s=>decide (s < 2 ^ m) && (zaD s == 2 && !decide ((s:Int) ∈ xs))) = zdS xs (2 ^ m):=by
 generalize hf:(fun s:Nat=>decide (s < 2 ^ m) && (zaD s == 2 && !decide ((s:Int) ∈ xs))) = f
 have hf':∀ s,f s = (decide (s < 2 ^ m) && (zaD s == 2 && !decide ((s:Int) ∈ xs))):=fun s=>by rw [← hf]
 have e1:zda f = za8 f 2 64:=by
  rw [← zgi f 2]
  refine (List.filter_eq_self.2 fun s hs=>?_).symm
  have:=(zcQ.1 hs).2
  rw [hf'] at this
  simp only [Bool.and_eq_true] at this
  exact this.2.1
 have e2:List.range 64 = List.range (2 ^ m) ++ (List.range (64 - 2 ^ m)).map (2 ^ m + ·):=by rw [← List.range_add];congr 1;omega
 rw [e1]
 unfold za8 zdS
 have e3:((List.range (64 - 2 ^ m)).map (2 ^ m + ·)).filter (fun s=>f s && zaD s == 2) = []:=by
  refine List.filter_eq_nil_iff.2 ?_
  intro s hs h
  obtain ⟨t,_,rfl⟩:=List.mem_map.1 hs
  rw [hf',decide_eq_false (by omega),Bool.false_and,Bool.false_and] at h
  cases h
 rw [e2,List.filter_append,e3,List.append_nil]
 ·refine List.filter_congr fun s hs=>?_
  rw [hf',decide_eq_true (List.mem_range.1 hs),Bool.true_and]
  cases (zaD s == 2) <;> simp
theorem zf9 (F s:Nat) (hF:F < 18446744073709551616) (hs:s < 64):AC Tryz.prog 96 [int s,.eref false [u64 F] 0] (.im (bool (zaD s == 2 && !F.testBit s))):=by
 refine AC.go (rs:=[.tmp 3]) zbg zay Tryz.func96 rfl rfl rfl (by kernel_rfl) fun hl=>?_
 simp (maxSteps:=5000000) -dsimp only [↓gp,gq,reduceCtorEq,reduceEqDiff,reduceLT,reduceLeDiff,reduceAdd,reduceMul,reduceSub,Nat.reduceBEq,Int.reduceToNat,Int.reduceLE,Int.reduceLT,Int.reduceNeg,reduceMod,zac,zad,zab,zaa,gT,TK.isInt,TK.agg,Array.toList]
 refine zaf (zbb _) ?_
 simp (maxSteps:=5000000) -dsimp only [↓gp,gq,reduceCtorEq,reduceEqDiff,reduceLT,reduceLeDiff,reduceAdd,reduceMul,reduceSub,Nat.reduceBEq,Int.reduceToNat,Int.reduceLE,Int.reduceLT,Int.reduceNeg,reduceMod,zac,zad,zab,zaa,gT,TK.isInt,TK.agg,Array.toList,zez hs]
 refine ⟨fun h=>zaf (zdb F s hF hs) ?_,fun h=>?_⟩
 ·have h:zaD s = 2:=by
   have:((zaD s:Nat):Int) = 2:=by simpa using h
   omega
  rw [h]
  simp (maxSteps:=5000000) -dsimp only [↓gp,gq,reduceCtorEq,reduceEqDiff,reduceLT,reduceLeDiff,reduceAdd,reduceMul,reduceSub,Nat.reduceBEq,Int.reduceToNat,Int.reduceLE,Int.reduceLT,Int.reduceNeg,reduceMod,zac,zad,zab,zaa,gT,TK.isInt,TK.agg,Array.toList]
 ·have h:¬ zaD s = 2:=fun e=>by rw [e] at h;simp at h
  rw [beq_false_of_ne h];rfl
theorem zEh {n:Int} {xs:List Int} (h:zap n xs = true):xs = ofN (xs.map Int.toNat)∧(∀ s ∈ xs.map Int.toNat,s < 64)∧xs.length ≤ 1000000:=by
 have hx:=zfF h
 refine ⟨?_,fun s hs=>?_,?_⟩
 ·unfold ofN
  rw [List.map_map]
  conv=>lhs;rw [← List.map_id xs]
  exact List.map_congr_left fun x hx'=>by have:=hx x hx';show x = ((x.toNat:Nat):Int);omega
 ·obtain ⟨x,hx',rfl⟩:=List.mem_map.1 hs
  have:=hx x hx';omega
 ·obtain ⟨_,_,hp⟩:=zao.1 h
  have hge:∀ k,k < xs.length→(k:Int) ≤ xs.getD k 0:=by
   intro k
   induction k with
   | zero=>intro h0;exact (hx _ (zax 0 h0)).1
   | succ k ih =>
     intro hk
     have h1:=(hp (k + 1) hk).2.2 (by omega)
     rw [Nat.add_sub_cancel] at h1
     have:=ih (by omega)
     omega
  by_cases h0:xs.length = 0
  ·omega
  ·have:=hge (xs.length - 1) (by omega)
   have:=hx _ (zax 0 (show xs.length - 1 < xs.length by omega))
   omega
theorem zbE (n:Int) (xs:List Int):AC Tryz.prog 20 [.ag [int n,zbj xs]] (.tup [.ag [.im (int (zeJ n xs)),.fr 3 1 (iL (zhi n xs))],.im (bool (zap n xs))]):=by
 refine AC.go (rs:=[.cell 2 36,.tmp 3]) zbg zay Tryz.func20 rfl rfl rfl (by kernel_rfl) fun hl=>?_
 simp (maxSteps:=5000000) -dsimp only [↓gp,gq,reduceCtorEq,reduceEqDiff,reduceLT,reduceLeDiff,reduceAdd,reduceMul,reduceSub,Nat.reduceBEq,Int.reduceToNat,Int.reduceLE,Int.reduceLT,Int.reduceNeg,reduceMod,zac,zad,zab,zaa,gT,TK.isInt,TK.agg,Array.toList]
 refine zaf (zbC n xs) ?_
 simp (maxSteps:=5000000) -dsimp only [↓gp,gq,reduceCtorEq,reduceEqDiff,reduceLT,reduceLeDiff,reduceAdd,reduceMul,reduceSub,Nat.reduceBEq,Int.reduceToNat,Int.reduceLE,Int.reduceLT,Int.reduceNeg,reduceMod,zac,zad,zab,zaa,gT,TK.isInt,TK.agg,Array.toList]
 unfold zeJ zhi
 refine ⟨fun hg=>?_,fun hg=>?_⟩
 ·have hg:zap n xs = false:=by simpa using hg
  rw [hg];exact ⟨rfl,rfl,rfl⟩
 ·have hg:zap n xs = true:=by simpa using hg
  obtain ⟨m,rfl,h1,h6,_⟩:=zaS (zao.1 hg)
  rw [if_pos hg,if_pos hg,hg,Int.toNat_natCast]
  have h64:=zam h6
  obtain ⟨e1,e2,e3⟩:=zEh hg
  have hfam:=zky (xs.map Int.toNat) e2 (by rw [List.length_map];exact e3)
  rw [← e1] at hfam
  refine zaf hfam ?_
  have hF:=zyL e2
  simp (maxSteps:=5000000) -dsimp only [↓gp,gq,reduceCtorEq,reduceEqDiff,reduceLT,reduceLeDiff,reduceAdd,reduceMul,reduceSub,Nat.reduceBEq,Int.reduceToNat,Int.reduceLE,Int.reduceLT,Int.reduceNeg,reduceMod,zac,zad,zab,zaa,gT,TK.isInt,TK.agg,Array.toList]
  refine zaf (zcD m h6 _ [.eref false [u64 (zuq (xs.map Int.toNat):Nat)] 0] (fun s=>zaD s == 2 && !(zuq (xs.map Int.toNat)).testBit s) (fun rw=>rfl) fun s hs=>zf9 _ s hF (by omega)) ?_
  simp (maxSteps:=5000000) -dsimp only [↓gp,gq,reduceCtorEq,reduceEqDiff,reduceLT,reduceLeDiff,reduceAdd,reduceMul,reduceSub,Nat.reduceBEq,Int.reduceToNat,Int.reduceLE,Int.reduceLT,Int.reduceNeg,reduceMod,zac,zad,zab,zaa,gT,TK.isInt,TK.agg,Array.toList]
  refine ⟨by kernel_rfl,zaf (zg7 _ (zg6 _ h6)) ?_⟩
  have e:zda (zaW (fun s=>zaD s == 2 && !(zuq (xs.map Int.toNat)).testBit s) (2 ^ m)).testBit = zdS xs (2 ^ m):=by
   rw [← zzQ xs m h64]
   refine zhA fun s hs=>?_
   rw [zci,zur]
   have hd:decide (s ∈ xs.map Int.toNat) = decide ((s:Int) ∈ xs):=decide_eq_decide.2 (by
    conv=>rhs;rw [e1]
    exact ⟨fun h=>List.mem_map.2 ⟨s,h,rfl⟩,fun h=>by
     obtain ⟨t,a,b⟩:=List.mem_map.1 h
     have:=Int.ofNat.inj b
     subst this;exact a⟩)
   rw [hd]
  rw [e]
  simp (maxSteps:=5000000) -dsimp only [↓gp,gq,reduceCtorEq,reduceEqDiff,reduceLT,reduceLeDiff,reduceAdd,reduceMul,reduceSub,Nat.reduceBEq,Int.reduceToNat,Int.reduceLE,Int.reduceLT,Int.reduceNeg,reduceMod,zac,zad,zab,zaa,gT,TK.isInt,TK.agg,Array.toList]
  kernel_rfl
def pwB (xs:List Int) (s:Nat):Bool:=(pts s).all fun i=>s ^^^ (s &&& (nbr xs i ||| 2 ^ i)) == 0
theorem zzR {xs:List Int} {s k:Nat} (hk:k < (pts s).length):((pts s).take (k + 1)).all (fun i=>s ^^^ (s &&& (nbr xs i ||| 2 ^ i)) == 0) = (((pts s).take k).all (fun i=>s ^^^ (s &&& (nbr xs i ||| 2 ^ i)) == 0) && (s ^^^ (s &&& (nbr xs ((pts s).getD k 0) ||| 2 ^ ((pts s).getD k 0))) == 0)):=by
 rw [zaT 0 hk,List.all_append];simp
theorem zr3 {n s:Nat} (hs:s < 2 ^ n) (hn:n ≤ 6):∀ i ∈ pts s,i < n:=fun i hi=>by
 have h1:s.testBit i = true:=by
  unfold pts at hi
  exact (List.mem_filter.1 hi).2
 refine Nat.lt_of_not_le fun hle=>?_
 rw [Nat.testBit_lt_two_pow (Nat.lt_of_lt_of_le hs (Nat.pow_le_pow_right (by decide) hle))] at h1;cases h1
theorem zd1 (n:Nat) (hn:n ≤ 6) (xs:List Int) (u:Nat) (hs:u < 2 ^ n):AC Tryz.prog 104 [int u,zbj (zdU xs n)] (.im (bool (pwB xs u))):=by
 refine AC.go (rs:=[.tmp 4]) zbg zay Tryz.func104 rfl rfl rfl (by kernel_rfl) fun hl=>?_
 have h64:=zam hn
 have hnl:(zdU xs n).length = n:=by simp [zdU]
 have hpi:zBk (u:Int) = ofN (pts u):=by
  unfold zBk
  rw [if_pos (by omega),Int.toNat_natCast]
 have hpl:(pts u).length ≤ 6:=ziD u 6
 have hin:=zr3 hs hn
 simp (maxSteps:=5000000) -dsimp only [↓gp,gq,reduceCtorEq,reduceEqDiff,reduceLT,reduceLeDiff,reduceAdd,reduceMul,reduceSub,Nat.reduceBEq,Int.reduceToNat,Int.reduceLE,Int.reduceLT,Int.reduceNeg,reduceMod,zac,zad,zab,zaa,gT,TK.isInt,TK.agg,Array.toList]
 refine zaf (zdj _) ?_
 rw [hpi]
 simp (maxSteps:=5000000) -dsimp only [↓gp,gq,reduceCtorEq,reduceEqDiff,reduceLT,reduceLeDiff,reduceAdd,reduceMul,reduceSub,Nat.reduceBEq,Int.reduceToNat,Int.reduceLE,Int.reduceLT,Int.reduceNeg,reduceMod,zac,zad,zab,zaa,gT,TK.isInt,TK.agg,Array.toList,hnl,zaj]
 refine zaq (fun (k:Nat) s=>s.sl 0 = int u∧s.sl 1 = zbj (zdU xs n)∧s.sl 8 = .own 8 1∧s.rw 8 = ⟨1,.sli 3 1 false (iL (ofN (pts u)))⟩∧s.sl 9 = int (pts u).length∧s.sl 10 = int k∧(k ≤ (pts u).length∧((pts u).take k).all (fun i=>u ^^^ (u &&& (nbr xs i ||| 2 ^ i)) == 0) = true)) (fun k=>(pts u).length - k) (0) (by refine ⟨?_,?_,?_,?_,?_,?_,⟨Nat.zero_le _,rfl⟩⟩ <;> (first | (simp (maxSteps:=5000000) -dsimp only [gr,reduceEqDiff,reduceLT,reduceAdd,reduceMod,Nat.reduceBEq,zaa,zac,zad,zab];first | done | rfl | (simp;done)) | assumption | rfl)) ?_
 intro k sa ⟨h0a,h1a,h8a,r8a,h9a,h10a,hIa⟩
 obtain ⟨hk,hall⟩:=hIa
 simp (maxSteps:=5000000) -dsimp only [↓gp,gq,reduceCtorEq,reduceEqDiff,reduceLT,reduceLeDiff,reduceAdd,reduceMul,reduceSub,Nat.reduceBEq,Int.reduceToNat,Int.reduceLE,Int.reduceLT,Int.reduceNeg,reduceMod,zac,zad,zab,zaa,gT,TK.isInt,TK.agg,Array.toList,h0a,h1a,h8a,r8a,h9a,h10a,hnl,zaj]
 refine ⟨fun h=>?_,fun h=>?_⟩
 ·have hge:(ofN (pts u)).getD k 0 = (((pts u).getD k 0:Nat):Int):=zaM h
  have hm:=zax 0 h
  have hi:=hin _ hm
  have htk:=zzR (xs:=xs) h
  rw [hall,Bool.true_and] at htk
  have hnb:=zqd xs ((pts u).getD k 0)
  have hpwb:pwB xs u = true→(u ^^^ (u &&& (nbr xs ((pts u).getD k 0) ||| 2 ^ ((pts u).getD k 0))) == 0) = true:=fun hp=>List.all_eq_true.1 hp _ hm
  generalize (pts u).getD k 0 = i at *
  have hun:IntKind.u64.wrap (i:Int) = (i:Int):=zaL (by omega)
  have hi6:i < 6:=by omega
  have h2i:2 ^ i < 64:=Nat.pow_lt_pow_right (n:=6) (by decide) hi6
  have hsh:zgs .i64 1 (i:Int) = ((2 ^ i:Nat):Int):=zaJ (by omega)
  have hor:ior .i64 ((nbr xs i:Nat):Int) ((2 ^ i:Nat):Int) = ((nbr xs i ||| 2 ^ i:Nat):Int):=zhz (by omega) (by omega)
  have hol:nbr xs i ||| 2 ^ i < 64:=zAM hnb h2i
  have han:zdr .i64 (u:Int) ((nbr xs i ||| 2 ^ i:Nat):Int) = ((u ^^^ (u &&& (nbr xs i ||| 2 ^ i)):Nat):Int):=zcJ (by omega) (by omega)
  have hna:(zdU xs n).getD i 0 = ((nbr xs i:Nat):Int):=zmL hi
  simp (maxSteps:=5000000) -dsimp only [↓gp,gq,reduceCtorEq,reduceEqDiff,reduceLT,reduceLeDiff,reduceAdd,reduceMul,reduceSub,Nat.reduceBEq,Int.reduceToNat,Int.reduceLE,Int.reduceLT,Int.reduceNeg,reduceMod,zac,zad,zab,zaa,gT,TK.isInt,TK.agg,Array.toList,h0a,h1a,h8a,r8a,h9a,h10a,hnl,zaj,hge,hun,hsh,hna,hor,han]
  refine ⟨h,h,hi,hi,fun h0=>?_,fun h0=>?_⟩
  ·cases hpb:pwB xs u with
   | false=>rfl
   | true =>
     have:=beq_iff_eq.1 (hpwb hpb)
     rw [this] at h0;simp at h0
  ·have h0:u ^^^ (u &&& (nbr xs i ||| 2 ^ i)) = 0:=by
    have:((u ^^^ (u &&& (nbr xs i ||| 2 ^ i)):Nat):Int) = 0:=by simpa using h0
    omega
   rw [h0] at htk
   exact zag (k + 1) (by refine ⟨?_,?_,?_,?_,?_,?_,⟨by omega,htk⟩⟩ <;> (first | (simp (maxSteps:=5000000) -dsimp only [gr,reduceEqDiff,reduceLT,reduceAdd,reduceMod,Nat.reduceBEq,zaa,zac,zad,zab,h0a,h1a,h8a,r8a,h9a,h10a,zae h (by omega)];first | done | rfl | (simp;done)) | assumption | rfl)) (by first | omega | (simp only;omega) | (dsimp only;omega) | (show _ < _;simp;omega))
 ·have:k = (pts u).length:=by omega
  rw [this,List.take_length] at hall
  exact hall
theorem zeI (n:Nat) (hn:n ≤ 6) (xs:List Int) (u:Nat) (hs:u < 2 ^ n):AC Tryz.prog 103 [int u,.eref false [zbj (zdU xs n)] 0] (.im (bool (pwB xs u))):=by
 refine AC.go (rs:=[.tmp 3]) zbg zay Tryz.func103 rfl rfl rfl (by kernel_rfl) fun hl=>?_
 simp (maxSteps:=5000000) -dsimp only [↓gp,gq,reduceCtorEq,reduceEqDiff,reduceLT,reduceLeDiff,reduceAdd,reduceMul,reduceSub,Nat.reduceBEq,Int.reduceToNat,Int.reduceLE,Int.reduceLT,Int.reduceNeg,reduceMod,zac,zad,zab,zaa,gT,TK.isInt,TK.agg,Array.toList]
 refine zaf (zd1 n hn xs u hs) ?_
 simp (maxSteps:=5000000) -dsimp only [↓gp,gq,reduceCtorEq,reduceEqDiff,reduceLT,reduceLeDiff,reduceAdd,reduceMul,reduceSub,Nat.reduceBEq,Int.reduceToNat,Int.reduceLE,Int.reduceLT,Int.reduceNeg,reduceMod,zac,zad,zab,zaa,gT,TK.isInt,TK.agg,Array.toList]
noncomputable def nbO (n:Int) (xs:List Int) (p:Int):Int:=if zap n xs = true∧0 ≤ p∧p < n then ((nbr xs p.toNat:Nat):Int) else 0
theorem zgu (n:Int) (xs:List Int) (p:Int):AC Tryz.prog 33 [.ag [int n,zbj xs],int p] (.im (int (nbO n xs p))):=by
 refine AC.go (rs:=[.tmp 4]) zbg zay Tryz.func33 rfl rfl rfl (by kernel_rfl) fun hl=>?_
 simp (maxSteps:=5000000) -dsimp only [↓gp,gq,reduceCtorEq,reduceEqDiff,reduceLT,reduceLeDiff,reduceAdd,reduceMul,reduceSub,Nat.reduceBEq,Int.reduceToNat,Int.reduceLE,Int.reduceLT,Int.reduceNeg,reduceMod,zac,zad,zab,zaa,gT,TK.isInt,TK.agg,Array.toList]
 refine zaf (zbC n xs) ?_
 simp (maxSteps:=5000000) -dsimp only [↓gp,gq,reduceCtorEq,reduceEqDiff,reduceLT,reduceLeDiff,reduceAdd,reduceMul,reduceSub,Nat.reduceBEq,Int.reduceToNat,Int.reduceLE,Int.reduceLT,Int.reduceNeg,reduceMod,zac,zad,zab,zaa,gT,TK.isInt,TK.agg,Array.toList]
 unfold nbO
 refine ⟨fun hg=>⟨fun h0=>⟨fun h1=>?_,fun h1=>?_⟩,fun h0=>?_⟩,fun hg=>?_⟩
 ·rw [if_neg (fun h=>by omega)]
 ·have hg:zap n xs = true:=by simpa using hg
  obtain ⟨m,rfl,_,h6,_⟩:=zaS (zao.1 hg)
  obtain ⟨v,rfl⟩:∃ v:Nat,p = v:=⟨p.toNat,by omega⟩
  have hv:v < m:=by omega
  have hnl:(zdU xs m).length = m:=by simp [zdU]
  rw [if_pos ⟨hg,by omega,by omega⟩,Int.toNat_natCast]
  refine zaf (zcy m h6 xs (zgv (zao.1 hg))) ?_
  simp (maxSteps:=5000000) -dsimp only [↓gp,gq,reduceCtorEq,reduceEqDiff,reduceLT,reduceLeDiff,reduceAdd,reduceMul,reduceSub,Nat.reduceBEq,Int.reduceToNat,Int.reduceLE,Int.reduceLT,Int.reduceNeg,reduceMod,zac,zad,zab,zaa,gT,TK.isInt,TK.agg,Array.toList,hnl]
  exact ⟨by omega,by omega,by rw [zmL hv]⟩
 ·rw [if_neg (fun h=>by omega)]
 ·rw [if_neg (fun h=>by rw [h.1] at hg;cases hg)]
theorem zga (n:Int) (xs:List Int) (p:Int):AC Tryz.prog 34 [.ag [int n,zbj xs],int p] (.im (int (nbO n xs p))):=by
 unfold nbO
 by_cases hc:zap n xs = true∧0 ≤ p∧p < n
 ·rw [if_pos hc]
  obtain ⟨hg,h0,h1⟩:=hc
  obtain ⟨m,rfl,_,h6,_⟩:=zaS (zao.1 hg)
  obtain ⟨v,rfl⟩:∃ v:Nat,p = v:=⟨p.toNat,by omega⟩
  rw [Int.toNat_natCast]
  exact zdD m xs (zao.1 hg) v (by omega)
 ·rw [if_neg hc]
  refine AC.go (rs:=[.tmp 4]) zbg zay Tryz.func34 rfl rfl rfl (by kernel_rfl) fun hl=>?_
  simp (maxSteps:=5000000) -dsimp only [↓gp,gq,reduceCtorEq,reduceEqDiff,reduceLT,reduceLeDiff,reduceAdd,reduceMul,reduceSub,Nat.reduceBEq,Int.reduceToNat,Int.reduceLE,Int.reduceLT,Int.reduceNeg,reduceMod,zac,zad,zab,zaa,gT,TK.isInt,TK.agg,Array.toList]
  refine zaq (fun (k:Nat) s=>s.sl 2 = .ref 2 1 0∧s.rw 2 = ⟨1,.box 36 [int n,zbj xs]⟩∧s.sl 1 = int p∧s.sl 5 = int 0∧s.sl 6 = int 0∧(k = 0)) (fun k=>0) (0) (by refine ⟨?_,?_,?_,?_,?_,rfl⟩ <;> (first | (simp (maxSteps:=5000000) -dsimp only [gr,reduceEqDiff,reduceLT,reduceAdd,reduceMod,Nat.reduceBEq,zaa,zac,zad,zab];first | done | rfl | (simp;done)) | assumption | rfl)) ?_
  intro k sa ⟨h2a,r2a,h1a,h5a,h6a,hIa⟩
  simp (maxSteps:=5000000) -dsimp only [↓gp,gq,reduceCtorEq,reduceEqDiff,reduceLT,reduceLeDiff,reduceAdd,reduceMul,reduceSub,Nat.reduceBEq,Int.reduceToNat,Int.reduceLE,Int.reduceLT,Int.reduceNeg,reduceMod,zac,zad,zab,zaa,gT,TK.isInt,TK.agg,Array.toList,h2a,r2a,h1a,h5a,h6a]
  refine fun _=>zaf (zbn n xs) ?_
  simp (maxSteps:=5000000) -dsimp only [↓gp,gq,reduceCtorEq,reduceEqDiff,reduceLT,reduceLeDiff,reduceAdd,reduceMul,reduceSub,Nat.reduceBEq,Int.reduceToNat,Int.reduceLE,Int.reduceLT,Int.reduceNeg,reduceMod,zac,zad,zab,zaa,gT,TK.isInt,TK.agg,Array.toList,h2a,r2a,h1a,h5a,h6a]
  intro hg
  obtain ⟨h1,h6,_⟩:=zao.1 hg
  have hw:IntKind.i64.wrap (n - 1) = n - 1:=zat (by omega) (by omega)
  rw [hw]
  refine zaf (zbo _ _ _) ?_
  have hd:decide (0 ≤ p) = false ∨ decide (p ≤ n - 1) = false:=by
   by_cases h0:0 ≤ p
   ·exact .inr (decide_eq_false fun h=>hc ⟨hg,h0,by omega⟩)
   ·exact .inl (decide_eq_false h0)
  simp (maxSteps:=5000000) -dsimp only [↓gp,gq,reduceCtorEq,reduceEqDiff,reduceLT,reduceLeDiff,reduceAdd,reduceMul,reduceSub,Nat.reduceBEq,Int.reduceToNat,Int.reduceLE,Int.reduceLT,Int.reduceNeg,reduceMod,zac,zad,zab,zaa,gT,TK.isInt,TK.agg,Array.toList,h2a,r2a,h1a,h5a,h6a]
  intro h
  rcases hd with h2 | h2 <;> rw [h2] at h <;> simp at h
noncomputable def clL (n:Int) (xs:List Int):List Int:=apL (zeJ n xs) (zhi n xs)
theorem zjb (n:Int) (xs:List Int):zap (zeJ n xs) (zhi n xs) = zap n xs:=by
 unfold zeJ zhi
 cases hg:zap n xs with
 | false=>exact zbV fun h=>absurd h.1 (by rw [if_neg (by decide)];decide)
 | true =>
   obtain ⟨m,rfl,h1,h6,_⟩:=zaS (zao.1 hg)
   rw [if_pos rfl,if_pos rfl,Int.toNat_natCast]
   exact zcc h1 h6
theorem zfJ (n:Int) (xs:List Int):AC Tryz.prog 23 [.ag [int n,zbj xs]] (.tup [.ag [.im (int (zeJ n xs)),.fr 3 1 (iL (clL n xs))],.im (bool (zap n xs))]):=by
 refine AC.go (rs:=[.cell 2 27,.tmp 3]) zbg zay Tryz.func23 rfl rfl rfl (by kernel_rfl) fun hl=>?_
 simp (maxSteps:=5000000) -dsimp only [↓gp,gq,reduceCtorEq,reduceEqDiff,reduceLT,reduceLeDiff,reduceAdd,reduceMul,reduceSub,Nat.reduceBEq,Int.reduceToNat,Int.reduceLE,Int.reduceLT,Int.reduceNeg,reduceMod,zac,zad,zab,zaa,gT,TK.isInt,TK.agg,Array.toList]
 refine zaf (zd2 n xs) ?_
 simp (maxSteps:=5000000) -dsimp only [↓gp,gq,reduceCtorEq,reduceEqDiff,reduceLT,reduceLeDiff,reduceAdd,reduceMul,reduceSub,Nat.reduceBEq,Int.reduceToNat,Int.reduceLE,Int.reduceLT,Int.reduceNeg,reduceMod,zac,zad,zab,zaa,gT,TK.isInt,TK.agg,Array.toList]
 refine ⟨fun hg=>?_,fun hg=>?_⟩
 ·have hg:zap n xs = false:=by simpa using hg
  have e1:zeJ n xs = 0:=if_neg (fun h=>by rw [h] at hg;cases hg)
  have e2:clL n xs = []:=if_neg (fun h=>by rw [zjb,hg] at h;cases h)
  rw [hg,e1,e2];exact ⟨rfl,rfl,rfl⟩
 ·have hg:zap n xs = true:=by simpa using hg
  have hgo:=zjb n xs
  rw [hg] at hgo
  have e2:clL n xs = ofN (zfz (apF (zeJ n xs) (zhi n xs)) true):=if_pos hgo
  rw [e2,hg]
  have hx:=zfF hgo
  obtain ⟨m,em,_,h6,_⟩:=zaS (zao.1 hgo)
  generalize zhi n xs = ys at *
  rw [em]
  refine zaf (zey m ys h6 hx) ?_
  simp (maxSteps:=5000000) -dsimp only [↓gp,gq,reduceCtorEq,reduceEqDiff,reduceLT,reduceLeDiff,reduceAdd,reduceMul,reduceSub,Nat.reduceBEq,Int.reduceToNat,Int.reduceLE,Int.reduceLT,Int.reduceNeg,reduceMod,zac,zad,zab,zaa,gT,TK.isInt,TK.agg,Array.toList]
section
variable {m:Nat} {xs:List Int}
theorem zEi {n:Int} {xs:List Int} (hg:zap n xs = true):xs.Pairwise (· < ·):=by
 obtain ⟨_,_,h⟩:=zao.1 hg
 have hlt:∀ j,j < xs.length→∀ i,i < j→xs.getD i 0 < xs.getD j 0:=by
  intro j
  induction j with
  | zero=>intro _ i hi;omega
  | succ j ih =>
    intro hj i hi
    have h1:=(h (j + 1) hj).2.2 (by omega)
    rw [Nat.add_sub_cancel] at h1
    by_cases e:i = j
    ·rw [e];exact h1
    ·have:=ih (by omega) i (by omega);omega
 refine List.pairwise_iff_getElem.2 fun i j hi hj hij=>?_
 have:=hlt j hj i hij
 have a:xs.getD i 0 = xs[i]:=by simp [List.getD,hi]
 have b:xs.getD j 0 = xs[j]:=by simp [List.getD,hj]
 rw [a,b] at this
 exact this
theorem zqS (hg:zap (m:Int) xs = true):ofN (zdS (ofN (zdS xs (2 ^ m))) (2 ^ m)) = xs:=by
 obtain ⟨m',e,h1,h6,hx⟩:=zaS (zao.1 hg)
 have e:=Int.ofNat.inj e
 subst e
 have hnd:∀ {l:List Int},l.Pairwise (· < ·)→l.Nodup:=fun h=>h.imp fun h=>by omega
 have p1:=zEi (zcc (xs:=ofN (zdS xs (2 ^ m))) h1 h6)
 have p2:=zEi hg
 refine List.Perm.eq_of_pairwise (fun a b _ _ h1 h2=>by omega) p1 p2 ((List.perm_ext_iff_of_nodup (hnd p1) (hnd p2)).2 fun x=>?_)
 constructor
 ·intro h
  obtain ⟨s,hs,rfl⟩:=List.mem_map.1 h
  have q:=(zeR (m:=m) (xs:=ofN (zdS xs (2 ^ m))) s).1 h
  refine Classical.byContradiction fun hn=>q.2.2 ((zeR s).2 ⟨q.1,q.2.1,hn⟩)
 ·intro h
  obtain ⟨a,b,c⟩:=hx x h
  obtain ⟨s,rfl⟩:=Int.eq_ofNat_of_zero_le a
  refine (zeR s).2 ⟨by omega,by simpa using c,fun h2=>((zeR s).1 h2).2.2 h⟩
theorem ziA {n:Int} {xs:List Int} (hg:zap n xs = true):zeJ (zeJ n xs) (zhi n xs) = n∧zhi (zeJ n xs) (zhi n xs) = xs:=by
 obtain ⟨m,rfl,h1,h6,_⟩:=zaS (zao.1 hg)
 have e1:zeJ (m:Int) xs = m:=if_pos hg
 have e2:zhi (m:Int) xs = ofN (zdS xs (2 ^ m)):=if_pos hg
 have hg2:=zcc (xs:=xs) h1 h6
 rw [e1,e2]
 exact ⟨if_pos hg2,by rw [zhi,if_pos hg2];exact zqS hg⟩
noncomputable def clF (m:Nat) (xs:List Int):Nat→Bool:=grF m (ofN (zdS xs (2 ^ m)))
theorem zv5 (hg:zap (m:Int) xs = true) {v:Nat} (hv:v < m):nbr xs v = zif (clF m xs) v:=by
 obtain ⟨m',e,h1,h6,hx⟩:=zaS (zao.1 hg)
 have e:=Int.ofNat.inj e
 subst e
 have:=zCH (zcc (xs:=xs) h1 h6) hv
 rw [zqS hg] at this
 exact this
theorem zr4 (hg:zap (m:Int) xs = true):Flg (clF m xs) m:=by
 obtain ⟨m',e,h1,h6,hx⟩:=zaS (zao.1 hg)
 have e:=Int.ofNat.inj e
 subst e
 exact znW (zcc (xs:=xs) h1 h6)
theorem zzS (hg:zap (m:Int) xs = true) {u:Nat} (hu:u < 2 ^ m):pwB xs u = clF m xs u:=by
 have hf:=zr4 hg
 have h6:=hf.n6
 have h64:=zam h6
 have hin:=zr3 hu h6
 rw [Bool.eq_iff_iff]
 unfold pwB
 rw [List.all_eq_true]
 have hb:∀ i,i ∈ pts u ↔ u.testBit i = true:=fun i=>zni (by omega)
 constructor
 ·intro h
  refine hf.flag u hu fun i j hi hj=>?_
  have him:=hin i ((hb i).2 hi)
  have hjm:=hin j ((hb j).2 hj)
  by_cases e:i = j
  ·subst e;rw [Nat.or_self];exact hf.pts _ him
  ·have h1:=beq_iff_eq.1 (h i ((hb i).2 hi))
   have h2:=(za3 (w:=nbr xs i ||| 2 ^ i) (t:=u)).1 (by rw [Nat.and_comm];exact zcV.1 h1) j hj
   rw [Nat.testBit_or,zcW,decide_eq_false e,Bool.or_false,zv5 hg him] at h2
   rw [zbT]
   exact (zcE.1 h2).2.2
 ·intro h i hi
  have hi':=(hb i).1 hi
  have him:=hin i hi
  rw [beq_iff_eq,zcV,Nat.and_comm]
  refine za3.2 fun j hj=>?_
  rw [Nat.testBit_or,zcW,Bool.or_eq_true,decide_eq_true_eq]
  by_cases e:i = j
  ·exact .inr e
  ·refine .inl ?_
   rw [zv5 hg him]
   exact zcE.2 ⟨by have:=hin j ((hb j).2 hj);omega,fun q=>e q.symm,zqg hf.down h hj hi'⟩
theorem zBi (hg:zap (m:Int) xs = true):ofN (zfz (fun u=>decide (u < 2 ^ m) && pwB xs u) true) = clL m xs:=by
 have e1:zeJ (m:Int) xs = m:=if_pos hg
 have e2:zhi (m:Int) xs = ofN (zdS xs (2 ^ m)):=if_pos hg
 obtain ⟨h1,h6,_⟩:=zao.1 hg
 have h64:=zam (m:=m) (by omega)
 have hg2:=zcc (m:=m) (xs:=xs) (by omega) (by omega)
 have e3:apL (m:Int) (ofN (zdS xs (2 ^ m))) = ofN (zfz (apF m (ofN (zdS xs (2 ^ m)))) true):=if_pos hg2
 unfold clL
 rw [e1,e2,e3]
 refine congrArg ofN (congrArg (zfz · true) (funext fun s=>?_))
 by_cases hs:s < 2 ^ m
 ·rw [zzS hg hs,decide_eq_true hs,Bool.true_and]
  show _ = _
  rw [Bool.eq_iff_iff]
  unfold clF
  rw [zjd hg2 (by omega)]
  unfold apF zbK
  rw [Int.toNat_natCast,Bool.and_eq_true,decide_eq_true_eq,List.all_eq_true]
  refine and_congr Iff.rfl ⟨fun h x hx=>?_,fun h x hx=>?_⟩
  ·have:=h x hx
   rw [Nat.and_comm];simpa using this
  ·have:=h x hx
   rw [Nat.and_comm] at this;simpa using this
 ·unfold apF
  rw [Int.toNat_natCast,decide_eq_false hs];rfl
end
theorem zc1 (n:Int) (xs:List Int):AC Tryz.prog 22 [.ag [int n,zbj xs]] (.tup [.ag [.im (int (zeJ n xs)),.fr 3 1 (iL (clL n xs))],.im (bool (zap n xs))]):=by
 refine AC.go (rs:=[.cell 2 27,.tmp 3]) zbg zay Tryz.func22 rfl rfl rfl (by kernel_rfl) fun hl=>?_
 simp (maxSteps:=5000000) -dsimp only [↓gp,gq,reduceCtorEq,reduceEqDiff,reduceLT,reduceLeDiff,reduceAdd,reduceMul,reduceSub,Nat.reduceBEq,Int.reduceToNat,Int.reduceLE,Int.reduceLT,Int.reduceNeg,reduceMod,zac,zad,zab,zaa,gT,TK.isInt,TK.agg,Array.toList]
 refine zaf (zbC n xs) ?_
 simp (maxSteps:=5000000) -dsimp only [↓gp,gq,reduceCtorEq,reduceEqDiff,reduceLT,reduceLeDiff,reduceAdd,reduceMul,reduceSub,Nat.reduceBEq,Int.reduceToNat,Int.reduceLE,Int.reduceLT,Int.reduceNeg,reduceMod,zac,zad,zab,zaa,gT,TK.isInt,TK.agg,Array.toList]
 refine ⟨fun hg=>?_,fun hg=>?_⟩
 ·have hg:zap n xs = false:=by simpa using hg
  have e1:zeJ n xs = 0:=if_neg (fun h=>by rw [h] at hg;cases hg)
  have e2:clL n xs = []:=if_neg (fun h=>by rw [zjb,hg] at h;cases h)
  rw [hg,e1,e2];exact ⟨rfl,rfl,rfl⟩
 ·have hg:zap n xs = true:=by simpa using hg
  obtain ⟨m,rfl,_,h6,_⟩:=zaS (zao.1 hg)
  have e1:zeJ (m:Int) xs = m:=if_pos hg
  have h64:=zam h6
  rw [hg,e1,← zBi hg]
  refine zaf (zcy m h6 xs (zgv (zao.1 hg))) ?_
  simp (maxSteps:=5000000) -dsimp only [↓gp,gq,reduceCtorEq,reduceEqDiff,reduceLT,reduceLeDiff,reduceAdd,reduceMul,reduceSub,Nat.reduceBEq,Int.reduceToNat,Int.reduceLE,Int.reduceLT,Int.reduceNeg,reduceMod,zac,zad,zab,zaa,gT,TK.isInt,TK.agg,Array.toList]
  refine zaf (zcD m h6 _ [.eref false [zbj (zdU xs m)] 0] (pwB xs) (fun rw=>rfl) fun s hs=>zeI m h6 xs s hs) ?_
  simp (maxSteps:=5000000) -dsimp only [↓gp,gq,reduceCtorEq,reduceEqDiff,reduceLT,reduceLeDiff,reduceAdd,reduceMul,reduceSub,Nat.reduceBEq,Int.reduceToNat,Int.reduceLE,Int.reduceLT,Int.reduceNeg,reduceMod,zac,zad,zab,zaa,gT,TK.isInt,TK.agg,Array.toList]
  refine zaf (zc0 m _ (zg6 _ h6)) ?_
  have e:(zaW (pwB xs) (2 ^ m)).testBit = fun u=>decide (u < 2 ^ m) && pwB xs u:=funext fun s=>zci _ _ _
  rw [e]
  simp (maxSteps:=5000000) -dsimp only [↓gp,gq,reduceCtorEq,reduceEqDiff,reduceLT,reduceLeDiff,reduceAdd,reduceMul,reduceSub,Nat.reduceBEq,Int.reduceToNat,Int.reduceLE,Int.reduceLT,Int.reduceNeg,reduceMod,zac,zad,zab,zaa,gT,TK.isInt,TK.agg,Array.toList]
def chP (xs:List Int) (S v:Nat):Bool:=pwB xs (nbr xs v &&& S)
theorem zv3 {m S:Nat} (hS:S < 2 ^ m) (h6:m ≤ 6) (q:Nat→Bool):(List.range m).find? (fun v=>S.testBit v && q v) = (pts S).find? q:=by
 unfold pts
 rw [List.find?_filter]
 have e:List.range 6 = List.range m ++ (List.range (6 - m)).map (m + ·):=by rw [← List.range_add];congr 1;omega
 have e2:((List.range (6 - m)).map (m + ·)).find? (fun v=>S.testBit v && q v) = none:=by
  rw [List.find?_eq_none]
  intro x hx
  obtain ⟨t,_,rfl⟩:=List.mem_map.1 hx
  rw [Nat.testBit_lt_two_pow (Nat.lt_of_lt_of_le hS (Nat.pow_le_pow_right (by decide) (by omega)))]
  rw [Bool.false_and];decide
 have e3:(fun a=>decide (S.testBit a = true∧q a = true)) = fun v=>S.testBit v && q v:=funext fun v=>by
  cases S.testBit v <;> cases q v <;> rfl
 rw [e3,e,List.find?_append,e2,Option.or_none]
theorem zv4:∀ S,S < 64→∀ v,v < 6→S.testBit v = true→S ^^^ (S &&& 2 ^ v) = S ^^^ 2 ^ v:=by decide +kernel
theorem zBh {m:Nat} {xs:List Int} (hg:zap (m:Int) xs = true) (S:Nat) (hS:S < 2 ^ m):chL m (chQ xs m) 6 S = chL m (chP xs) 6 S:=by
 obtain ⟨m',e,h1,h6,hx⟩:=zaS (zao.1 hg)
 have e:=Int.ofNat.inj e
 subst e
 refine zkz (fun S v hS hv _=>?_) 6 S hS
 have hT:nbr xs v &&& S < 2 ^ m:=Nat.lt_of_le_of_lt Nat.and_le_right hS
 have:=zzT (zcc (xs:=xs) h1 h6) hT
 rw [zqS hg] at this
 unfold chQ chP
 rw [this,zzS hg hT];rfl
theorem zaU (n:Int) (xs:List Int):AC Tryz.prog 35 [.ag [int n,zbj xs]] (.im (bool (chR n xs))):=by
 refine AC.go (rs:=[.tmp 2]) zbg zay Tryz.func35 rfl rfl rfl (by kernel_rfl) fun hl=>?_
 simp (maxSteps:=5000000) -dsimp only [↓gp,gq,reduceCtorEq,reduceEqDiff,reduceLT,reduceLeDiff,reduceAdd,reduceMul,reduceSub,Nat.reduceBEq,Int.reduceToNat,Int.reduceLE,Int.reduceLT,Int.reduceNeg,reduceMod,zac,zad,zab,zaa,gT,TK.isInt,TK.agg,Array.toList]
 refine zaf (zbC n xs) ?_
 simp (maxSteps:=5000000) -dsimp only [↓gp,gq,reduceCtorEq,reduceEqDiff,reduceLT,reduceLeDiff,reduceAdd,reduceMul,reduceSub,Nat.reduceBEq,Int.reduceToNat,Int.reduceLE,Int.reduceLT,Int.reduceNeg,reduceMod,zac,zad,zab,zaa,gT,TK.isInt,TK.agg,Array.toList]
 unfold chR
 refine ⟨fun hg=>?_,fun hg=>?_⟩
 ·have hg:zap n xs = false:=by simpa using hg
  rw [hg];rfl
 ·have hg:zap n xs = true:=by simpa using hg
  have hgp:=zao.1 hg
  obtain ⟨m,rfl,h1,h6,_⟩:=zaS hgp
  rw [hg,Int.toNat_natCast,Bool.true_and]
  have h64:=zam h6
  have hsh:zgs .i64 1 (m:Int) = ((2 ^ m:Nat):Int):=zaJ (by omega)
  have hun:IntKind.u64.wrap (m:Int) = (m:Int):=zaL (by omega)
  have hp0:0 < 2 ^ m:=Nat.pow_pos (by decide)
  have hw:IntKind.i64.wrap (((2 ^ m:Nat):Int) - 1) = ((2 ^ m - 1:Nat):Int):=by rw [zat (by omega) (by omega)];omega
  rw [zBh hg _ (by omega)]
  have hnl:(zdU xs m).length = m:=by simp [zdU]
  refine zaf (zcy m h6 xs (zgv hgp)) ?_
  have hres:chL m (chP xs) 6 (2 ^ m - 1) = chL m (chP xs) 6 (2 ^ m - 1):=rfl
  generalize hR:chL m (chP xs) 6 (2 ^ m - 1) = R at hres ⊢
  simp (maxSteps:=5000000) -dsimp only [↓gp,gq,reduceCtorEq,reduceEqDiff,reduceLT,reduceLeDiff,reduceAdd,reduceMul,reduceSub,Nat.reduceBEq,Int.reduceToNat,Int.reduceLE,Int.reduceLT,Int.reduceNeg,reduceMod,zac,zad,zab,zaa,gT,TK.isInt,TK.agg,Array.toList,hsh,hun,hw]
  refine zaq (fun (za:Nat × Nat) s=>match za with | (k,S)=>s.sl 3 = .own 12 1∧s.rw 12 = ⟨1,.sli 3 1 false (iL (zdU xs m))⟩∧s.sl 4 = int S∧(S < 2 ^ m∧zaD S ≤ k∧chL m (chP xs) k S = R)) (fun (k,S)=>k) ((6,2 ^ m - 1)) (by refine ⟨?_,?_,?_,⟨by omega,zcp (by omega),hR⟩⟩ <;> (first | (simp (maxSteps:=5000000) -dsimp only [gr,reduceEqDiff,reduceLT,reduceAdd,reduceMod,Nat.reduceBEq,zaa,zac,zad,zab];first | done | rfl | (simp;done)) | assumption | rfl)) ?_
  intro (k,S) sa ⟨h3a,r12a,h4a,hIa⟩
  obtain ⟨hS,hpk,hch⟩:=hIa
  have hS6:S < 64:=by omega
  simp (maxSteps:=5000000) -dsimp only [↓gp,gq,reduceCtorEq,reduceEqDiff,reduceLT,reduceLeDiff,reduceAdd,reduceMul,reduceSub,Nat.reduceBEq,Int.reduceToNat,Int.reduceLE,Int.reduceLT,Int.reduceNeg,reduceMod,zac,zad,zab,zaa,gT,TK.isInt,TK.agg,Array.toList,h3a,r12a,h4a]
  refine ⟨fun hpos=>zaf (zdj _) ?_,fun hpos=>?_⟩
  ·have hS0:S ≠ 0:=fun e=>by rw [e] at hpos;simp at hpos
   obtain ⟨k',rfl⟩:∃ k',k = k' + 1:=⟨k - 1,by
    have:zaD S ≠ 0:=fun e=>hS0 (zed S hS6 e)
    omega⟩
   rw [chL,if_neg hS0,zv3 hS h6] at hch
   have hpi:zBk (S:Int) = ofN (pts S):=by
    unfold zBk
    rw [if_pos (by omega),Int.toNat_natCast]
   have hpl:(pts S).length ≤ 6:=ziD S 6
   have hin:=zr3 hS h6
   rw [hpi]
   simp (maxSteps:=5000000) -dsimp only [↓gp,gq,reduceCtorEq,reduceEqDiff,reduceLT,reduceLeDiff,reduceAdd,reduceMul,reduceSub,Nat.reduceBEq,Int.reduceToNat,Int.reduceLE,Int.reduceLT,Int.reduceNeg,reduceMod,zac,zad,zab,zaa,gT,TK.isInt,TK.agg,Array.toList,h3a,r12a,h4a,hnl,zaj]
   refine zaq (fun (zb:Nat × Nat) s=>match zb with | (i,w)=>s.sl 3 = .own 12 1∧s.rw 12 = ⟨1,.sli 3 1 false (iL (zdU xs m))⟩∧s.sl 4 = int S∧s.sl 5 = int 0∧s.sl 21 = .own 21 w∧s.rw 21 = ⟨w,.sli 3 1 false (iL (ofN (pts S)))⟩∧s.sl 22 = int (pts S).length∧s.sl 23 = int i∧(i ≤ (pts S).length∧((pts S).take i).find? (chP xs S) = none)) (fun (i,w)=>(pts S).length - i) ((0,(sa.rw 21).ver + 1)) (by refine ⟨?_,?_,?_,?_,?_,?_,?_,?_,⟨Nat.zero_le _,rfl⟩⟩ <;> (first | (simp (maxSteps:=5000000) -dsimp only [gr,reduceEqDiff,reduceLT,reduceAdd,reduceMod,Nat.reduceBEq,zaa,zac,zad,zab,h3a,r12a,h4a];first | done | rfl | (simp;done)) | assumption | rfl)) ?_
   intro (i,w) sb ⟨h3b,r12b,h4b,h5b,h21b,r21b,h22b,h23b,hIb⟩
   obtain ⟨hi,hfn⟩:=hIb
   simp (maxSteps:=5000000) -dsimp only [↓gp,gq,reduceCtorEq,reduceEqDiff,reduceLT,reduceLeDiff,reduceAdd,reduceMul,reduceSub,Nat.reduceBEq,Int.reduceToNat,Int.reduceLE,Int.reduceLT,Int.reduceNeg,reduceMod,zac,zad,zab,zaa,gT,TK.isInt,TK.agg,Array.toList,h3b,r12b,h4b,h5b,h21b,r21b,h22b,h23b,hnl,zaj]
   refine ⟨fun h=>?_,fun h=>?_⟩
   ·have hge:(ofN (pts S)).getD i 0 = (((pts S).getD i 0:Nat):Int):=zaM h
    have hm:=zax 0 h
    have hv:=hin _ hm
    have hbit:S.testBit ((pts S).getD i 0) = true:=(zni hS6).1 hm
    have hyes:chP xs S ((pts S).getD i 0) = true→(pts S).find? (chP xs S) = some ((pts S).getD i 0):=fun hq=>by
     rw [congrArg (List.find? (chP xs S)) (zum h),List.find?_append,hfn,Option.none_or,List.find?_cons,hq]
    have hno:chP xs S ((pts S).getD i 0) = false→((pts S).take (i + 1)).find? (chP xs S) = none:=fun hq=>by
     rw [zaT 0 h,List.find?_append,hfn,Option.none_or,List.find?_cons,hq];rfl
    generalize (pts S).getD i 0 = v at *
    have hnb:=zqd xs v
    have hna:(zdU xs m).getD v 0 = ((nbr xs v:Nat):Int):=zmL hv
    have hand:zdL .i64 ((nbr xs v:Nat):Int) (S:Int) = ((nbr xs v &&& S:Nat):Int):=zbt (by omega) (by omega)
    have hT:nbr xs v &&& S < 2 ^ m:=Nat.lt_of_le_of_lt Nat.and_le_right hS
    have hunv:IntKind.u64.wrap (v:Int) = (v:Int):=zaL (by omega)
    have hshv:zgs .i64 1 (v:Int) = ((2 ^ v:Nat):Int):=zaJ (by omega)
    simp (maxSteps:=5000000) -dsimp only [↓gp,gq,reduceCtorEq,reduceEqDiff,reduceLT,reduceLeDiff,reduceAdd,reduceMul,reduceSub,Nat.reduceBEq,Int.reduceToNat,Int.reduceLE,Int.reduceLT,Int.reduceNeg,reduceMod,zac,zad,zab,zaa,gT,TK.isInt,TK.agg,Array.toList,h3b,r12b,h4b,h5b,h21b,r21b,h22b,h23b,hnl,zaj,hge,hna,hand]
    refine ⟨by omega,by omega,by omega,by omega,zaf (zd1 m h6 xs _ hT) ?_⟩
    have hcp:pwB xs (nbr xs v &&& S) = chP xs S v:=rfl
    rw [hcp]
    simp (maxSteps:=5000000) -dsimp only [↓gp,gq,reduceCtorEq,reduceEqDiff,reduceLT,reduceLeDiff,reduceAdd,reduceMul,reduceSub,Nat.reduceBEq,Int.reduceToNat,Int.reduceLE,Int.reduceLT,Int.reduceNeg,reduceMod,zac,zad,zab,zaa,gT,TK.isInt,TK.agg,Array.toList,h3b,r12b,h4b,h5b,h21b,r21b,h22b,h23b,hnl,zaj,hge,hna,hand,hunv,hshv]
    refine ⟨fun hq=>?_,fun hq=>?_⟩
    ·rw [hyes hq] at hch
     obtain ⟨x1,_⟩:=zkA hS hbit
     have x3:=zut hS6 hbit
     have h2v:2 ^ v < 64:=Nat.pow_lt_pow_right (n:=6) (by decide) (by omega)
     have h2p:0 < 2 ^ v:=Nat.pow_pos (by decide)
     have han:zdr .i64 (S:Int) ((2 ^ v:Nat):Int) = ((S ^^^ 2 ^ v:Nat):Int):=by
      rw [zcJ (by omega) (by omega),zv4 S hS6 v (by omega) hbit]
     exact ⟨fun h0=>by
      have:((2 ^ v:Nat):Int) = 0:=beq_iff_eq.1 h0
      omega,fun _=>zag ((k',S ^^^ 2 ^ v)) (by refine ⟨?_,?_,?_,⟨x1,by dsimp only;omega,hch⟩⟩ <;> (first | (simp (maxSteps:=5000000) -dsimp only [gr,reduceEqDiff,reduceLT,reduceAdd,reduceMod,Nat.reduceBEq,zaa,zac,zad,zab,h3a,r12a,h4a,h3b,r12b,h4b,h5b,h21b,r21b,h22b,h23b,han];first | done | rfl | (simp;done)) | assumption | rfl)) (by first | omega | (simp only;omega) | (dsimp only;omega) | (show _ < _;simp;omega))⟩
    ·exact zag ((i + 1,w)) (by refine ⟨?_,?_,?_,?_,?_,?_,?_,?_,⟨by omega,hno hq⟩⟩ <;> (first | (simp (maxSteps:=5000000) -dsimp only [gr,reduceEqDiff,reduceLT,reduceAdd,reduceMod,Nat.reduceBEq,zaa,zac,zad,zab,h3b,r12b,h4b,h5b,h21b,r21b,h22b,h23b,zae h (by omega)];first | done | rfl | (simp;done)) | assumption | rfl)) (by first | omega | (simp only;omega) | (dsimp only;omega) | (show _ < _;simp;omega))
   ·have:i = (pts S).length:=by omega
    rw [this,List.take_length] at hfn
    rw [hfn] at hch
    exact hch.symm
  ·have:S = 0:=by simpa using hpos
   rw [← hch,this]
   cases k <;> rfl
def edA (xs:List Int) (i:Nat):Nat:=(xs.getD i 0).toNat
def usK (xs:List Int) (l:List Nat) (k:Nat):Nat:=(l.take k).foldl (fun u i=>u ||| edA xs i) 0
theorem zmJ {xs:List Int} {l:List Nat} {k:Nat} (h:k < l.length):usK xs l (k + 1) = usK xs l k ||| edA xs (l.getD k 0):=by
 unfold usK;rw [zaT 0 h,List.foldl_append];rfl
def djK (xs:List Int) (l:List Nat) (k:Nat):Bool:=(List.range k).all fun j=>edA xs (l.getD j 0) &&& usK xs l j == 0
theorem zzP (xs:List Int) (l:List Nat) (k:Nat):djK xs l (k + 1) = (djK xs l k && (edA xs (l.getD k 0) &&& usK xs l k == 0)):=by
 unfold djK;rw [List.range_succ,List.all_append];simp
def mtB (xs:List Int) (s:Nat):Bool:=djK xs (pts s) (pts s).length
theorem zrZ {xs:List Int} (hx:okS xs) {i:Nat} (hi:i < xs.length):edA xs i < 64:=by
 have:=zfi hx hi
 unfold edA;omega
theorem zBg {xs:List Int} (hx:okS xs) {l:List Nat} (hl:∀ i ∈ l,i < xs.length):∀ k,k ≤ l.length→usK xs l k < 64
 | 0,_=>by show 0 < 64;omega
 | k + 1,h=>by
   rw [zmJ (by omega)]
   exact zAM (zBg hx hl k (by omega)) (zrZ hx (hl _ (zax 0 (by omega))))
theorem zEg {xs:List Int} {l:List Nat} {k:Nat} (h:k < l.length) (hz:(edA xs (l.getD k 0) &&& usK xs l k == 0) = false):djK xs l l.length = false:=by
 unfold djK
 rw [List.all_eq_false]
 exact ⟨k,List.mem_range.2 h,by rw [hz];decide⟩
theorem zeQ (n:Int) (xs:List Int) (hx:okS xs) (h6:xs.length ≤ 6) (u:Nat) (hs:u < 2 ^ xs.length):AC Tryz.prog 109 [int u,.eref false [int n,zbj xs] 0] (.im (bool (mtB xs u))):=by
 refine AC.go (rs:=[.tmp 3]) zbg zay Tryz.func109 rfl rfl rfl (by kernel_rfl) fun hl=>?_
 have h64:=zam h6
 have hpi:zBk (u:Int) = ofN (pts u):=by
  unfold zBk
  rw [if_pos (by omega),Int.toNat_natCast]
 have hpl:(pts u).length ≤ 6:=ziD u 6
 have hin:=zr3 hs h6
 simp (maxSteps:=5000000) -dsimp only [↓gp,gq,reduceCtorEq,reduceEqDiff,reduceLT,reduceLeDiff,reduceAdd,reduceMul,reduceSub,Nat.reduceBEq,Int.reduceToNat,Int.reduceLE,Int.reduceLT,Int.reduceNeg,reduceMod,zac,zad,zab,zaa,gT,TK.isInt,TK.agg,Array.toList]
 refine zaf (zdj _) ?_
 rw [hpi]
 simp (maxSteps:=5000000) -dsimp only [↓gp,gq,reduceCtorEq,reduceEqDiff,reduceLT,reduceLeDiff,reduceAdd,reduceMul,reduceSub,Nat.reduceBEq,Int.reduceToNat,Int.reduceLE,Int.reduceLT,Int.reduceNeg,reduceMod,zac,zad,zab,zaa,gT,TK.isInt,TK.agg,Array.toList,zaj]
 refine zaq (fun (k:Nat) s=>s.sl 1 = .eref false [int n,zbj xs] 0∧s.sl 4 = int (usK xs (pts u) k:Nat)∧s.sl 8 = .own 8 1∧s.rw 8 = ⟨1,.sli 3 1 false (iL (ofN (pts u)))⟩∧s.sl 9 = int (pts u).length∧s.sl 10 = int k∧(k ≤ (pts u).length∧djK xs (pts u) k = true)) (fun k=>(pts u).length - k) (0) (by refine ⟨?_,?_,?_,?_,?_,?_,⟨Nat.zero_le _,rfl⟩⟩ <;> (first | (simp (maxSteps:=5000000) -dsimp only [gr,reduceEqDiff,reduceLT,reduceAdd,reduceMod,Nat.reduceBEq,zaa,zac,zad,zab];first | done | rfl | (simp;done)) | assumption | rfl)) ?_
 intro k sa ⟨h1a,h4a,h8a,r8a,h9a,h10a,hIa⟩
 obtain ⟨hk,hdj⟩:=hIa
 have hul:=zBg hx hin k hk
 simp (maxSteps:=5000000) -dsimp only [↓gp,gq,reduceCtorEq,reduceEqDiff,reduceLT,reduceLeDiff,reduceAdd,reduceMul,reduceSub,Nat.reduceBEq,Int.reduceToNat,Int.reduceLE,Int.reduceLT,Int.reduceNeg,reduceMod,zac,zad,zab,zaa,gT,TK.isInt,TK.agg,Array.toList,h1a,h4a,h8a,r8a,h9a,h10a,zaj]
 refine ⟨fun h=>?_,fun h=>?_⟩
 ·have hge:(ofN (pts u)).getD k 0 = (((pts u).getD k 0:Nat):Int):=zaM h
  have hi:=hin _ (zax 0 h)
  have hus:=zmJ (xs:=xs) h
  have hds:=zzP xs (pts u) k
  have hno:=zEg (xs:=xs) h
  rw [hdj,Bool.true_and] at hds
  have hea:=zrZ hx hi
  have hxi:xs.getD ((pts u).getD k 0) 0 = ((edA xs ((pts u).getD k 0):Nat):Int):=by
   have:=zfi hx hi
   unfold edA;omega
  generalize (pts u).getD k 0 = i at *
  generalize usK xs (pts u) k = w at *
  have hand:zdL .i64 ((edA xs i:Nat):Int) (w:Int) = ((edA xs i &&& w:Nat):Int):=zbt (by omega) (by omega)
  have hor:ior .i64 (w:Int) ((edA xs i:Nat):Int) = ((w ||| edA xs i:Nat):Int):=zhz (by omega) (by omega)
  simp (maxSteps:=5000000) -dsimp only [↓gp,gq,reduceCtorEq,reduceEqDiff,reduceLT,reduceLeDiff,reduceAdd,reduceMul,reduceSub,Nat.reduceBEq,Int.reduceToNat,Int.reduceLE,Int.reduceLT,Int.reduceNeg,reduceMod,zac,zad,zab,zaa,gT,TK.isInt,TK.agg,Array.toList,h1a,h4a,h8a,r8a,h9a,h10a,zaj,hge,hxi,hand,hor]
  refine ⟨h,h,hi,hi,fun h0=>?_,fun h0=>⟨hi,hi,?_⟩⟩
  ·refine hno ?_
   cases hz:(edA xs i &&& w == 0) with
   | false=>rfl
   | true=>rw [beq_iff_eq.1 hz] at h0;simp at h0
  ·have h0:edA xs i &&& w = 0:=by
    have:((edA xs i &&& w:Nat):Int) = 0:=by simpa using h0
    omega
   rw [h0] at hds
   exact zag (k + 1) (by refine ⟨?_,?_,?_,?_,?_,?_,⟨by omega,hds⟩⟩ <;> (first | (simp (maxSteps:=5000000) -dsimp only [gr,reduceEqDiff,reduceLT,reduceAdd,reduceMod,Nat.reduceBEq,zaa,zac,zad,zab,h1a,h4a,h8a,r8a,h9a,h10a,zae h (by omega),hus];first | done | rfl | (simp;done)) | assumption | rfl)) (by first | omega | (simp only;omega) | (dsimp only;omega) | (show _ < _;simp;omega))
 ·have:k = (pts u).length:=by omega
  rw [this] at hdj
  exact hdj
def zr0 (xs:List Int) (i k:Nat):List Nat:=((List.range k).filter fun k=>!(edA xs i &&& edA xs k == 0)).map fun k=>2 ^ i + 2 ^ k
def znP (xs:List Int) (i:Nat):List Nat:=(List.range i).flatMap fun i=>zr0 xs i i
theorem zv2 (xs:List Int) (i k:Nat):zr0 xs i (k + 1) = if edA xs i &&& edA xs k = 0 then zr0 xs i k else zr0 xs i k ++ [2 ^ i + 2 ^ k]:=by
 unfold zr0
 rw [List.range_succ,List.filter_append,List.map_append]
 split <;> rename_i h <;> simp [h]
theorem znV (xs:List Int) (i:Nat):znP xs (i + 1) = znP xs i ++ zr0 xs i i:=by
 unfold znP;rw [List.range_succ,List.flatMap_append];simp
theorem zr1 (xs:List Int) (i k:Nat):(zr0 xs i k).length ≤ k:=by
 unfold zr0;rw [List.length_map];exact Nat.le_trans (List.length_filter_le _ _) (by simp)
theorem zr2 (xs:List Int):∀ i,i ≤ 6→(znP xs i).length ≤ 6 * i
 | 0,_=>Nat.le_refl _
 | i + 1,h=>by
   rw [znV,List.length_append]
   have:=zr2 xs i (by omega)
   have:=zr1 xs i i
   omega
noncomputable def mtO (n:Int) (xs:List Int):Bool:=zap n xs && (decide (1 ≤ xs.length) && decide (xs.length ≤ 6))
noncomputable def mtN (n:Int) (xs:List Int):Int:=if mtO n xs = true then (xs.length:Int) else 0
noncomputable def mtL (n:Int) (xs:List Int):List Int:=if mtO n xs = true then ofN (zfz (apF xs.length (ofN (znP xs xs.length))) true) else []
theorem zCG (xs:List Int) {i:Nat} (hi:i ≤ 6):∀ s ∈ znP xs i,s < 64:=fun s hs=>by
 unfold znP at hs
 obtain ⟨a,ha,h⟩:=List.mem_flatMap.1 hs
 have ha:=List.mem_range.1 ha
 unfold zr0 at h
 obtain ⟨b,hb,rfl⟩:=List.mem_map.1 h
 have hb:=List.mem_range.1 (List.mem_filter.1 hb).1
 have h1:2 ^ a ≤ 2 ^ 5:=Nat.pow_le_pow_right (by decide) (by omega)
 have h2:2 ^ b ≤ 2 ^ 4:=Nat.pow_le_pow_right (by decide) (by omega)
 omega
theorem zf7 (n:Int) (xs:List Int):AC Tryz.prog 27 [.ag [int n,zbj xs]] (.tup [.ag [.im (int (mtN n xs)),.fr 3 1 (iL (mtL n xs))],.im (bool (mtO n xs))]):=by
 refine AC.go (rs:=[.cell 2 27,.tmp 3]) zbg zay Tryz.func27 rfl rfl rfl (by kernel_rfl) fun hl=>?_
 simp (maxSteps:=5000000) -dsimp only [↓gp,gq,reduceCtorEq,reduceEqDiff,reduceLT,reduceLeDiff,reduceAdd,reduceMul,reduceSub,Nat.reduceBEq,Int.reduceToNat,Int.reduceLE,Int.reduceLT,Int.reduceNeg,reduceMod,zac,zad,zab,zaa,gT,TK.isInt,TK.agg,Array.toList]
 refine zaf (zbn n xs) ?_
 simp (maxSteps:=5000000) -dsimp only [↓gp,gq,reduceCtorEq,reduceEqDiff,reduceLT,reduceLeDiff,reduceAdd,reduceMul,reduceSub,Nat.reduceBEq,Int.reduceToNat,Int.reduceLE,Int.reduceLT,Int.reduceNeg,reduceMod,zac,zad,zab,zaa,gT,TK.isInt,TK.agg,Array.toList]
 unfold mtN mtL
 refine ⟨fun hg=>?_,fun hg=>?_⟩
 ·refine zaf (zbo _ _ _) ?_
  have hd:(decide (1 ≤ (xs.length:Int)) && decide ((xs.length:Int) ≤ 6)) = mtO n xs:=by
   unfold mtO
   rw [show zap n xs = true by simpa using hg,Bool.true_and,decide_eq_decide.2 (show 1 ≤ (xs.length:Int) ↔ 1 ≤ xs.length by omega),decide_eq_decide.2 (show (xs.length:Int) ≤ 6 ↔ xs.length ≤ 6 by omega)]
  rw [hd]
  simp (maxSteps:=5000000) -dsimp only [↓gp,gq,reduceCtorEq,reduceEqDiff,reduceLT,reduceLeDiff,reduceAdd,reduceMul,reduceSub,Nat.reduceBEq,Int.reduceToNat,Int.reduceLE,Int.reduceLT,Int.reduceNeg,reduceMod,zac,zad,zab,zaa,gT,TK.isInt,TK.agg,Array.toList]
  refine ⟨fun hm=>?_,fun hm=>?_⟩
  ·rw [show mtO n xs = false by simpa using hm];exact ⟨rfl,rfl,rfl⟩
  ·have hm:mtO n xs = true:=by simpa using hm
   rw [if_pos hm,if_pos hm,hm]
   have hx:=zfF (show zap n xs = true by simpa using hg)
   have h6:1 ≤ xs.length∧xs.length ≤ 6:=by
    unfold mtO at hm
    simp only [Bool.and_eq_true,decide_eq_true_eq] at hm
    exact hm.2
   have hz:iL (ofN []) = []:=rfl
   refine zaq (fun (za:Nat × Nat) s=>match za with | (i,v)=>s.sl 1 = .ref 1 1 0∧s.rw 1 = ⟨1,.box 36 [int n,zbj xs]⟩∧s.sl 2 = .ref 2 1 0∧s.rw 2 = ⟨1,.box 27 [int 0,.v (.slice none 0 0)]⟩∧s.sl 4 = .own 18 v∧s.rw 18 = ⟨v,.sli 3 1 false (iL (ofN (znP xs i)))⟩∧s.sl 5 = int i∧(i ≤ xs.length)) (fun (i,v)=>xs.length - i) ((0,1)) (by refine ⟨?_,?_,?_,?_,?_,?_,?_,Nat.zero_le _⟩ <;> (first | (simp (maxSteps:=5000000) -dsimp only [gr,reduceEqDiff,reduceLT,reduceAdd,reduceMod,Nat.reduceBEq,zaa,zac,zad,zab,znP,List.range_zero,List.flatMap_nil,hz];first | done | rfl | (simp;done)) | assumption | rfl)) ?_
   intro (i,v) sa ⟨h1a,r1a,h2a,r2a,h4a,r18a,h5a,hIa⟩
   simp (maxSteps:=5000000) -dsimp only [↓gp,gq,reduceCtorEq,reduceEqDiff,reduceLT,reduceLeDiff,reduceAdd,reduceMul,reduceSub,Nat.reduceBEq,Int.reduceToNat,Int.reduceLE,Int.reduceLT,Int.reduceNeg,reduceMod,zac,zad,zab,zaa,gT,TK.isInt,TK.agg,Array.toList,h1a,r1a,h2a,r2a,h4a,r18a,h5a]
   refine ⟨fun h=>?_,fun h=>?_⟩
   ·refine zaq (fun (zb:Nat × Nat) s=>match zb with | (k,w)=>s.sl 1 = .ref 1 1 0∧s.rw 1 = ⟨1,.box 36 [int n,zbj xs]⟩∧s.sl 2 = .ref 2 1 0∧s.rw 2 = ⟨1,.box 27 [int 0,.v (.slice none 0 0)]⟩∧s.sl 4 = .own 18 w∧s.rw 18 = ⟨w,.sli 3 1 false (iL (ofN (znP xs i ++ zr0 xs i k)))⟩∧s.sl 5 = int i∧s.sl 6 = int k∧(k ≤ i)) (fun (k,w)=>i - k) ((0,v)) (by refine ⟨?_,?_,?_,?_,?_,?_,?_,?_,Nat.zero_le _⟩ <;> (first | (simp (maxSteps:=5000000) -dsimp only [gr,reduceEqDiff,reduceLT,reduceAdd,reduceMod,Nat.reduceBEq,zaa,zac,zad,zab,h1a,r1a,h2a,r2a,h4a,r18a,h5a,zr0,List.range_zero,List.filter_nil,List.map_nil,List.append_nil];first | done | rfl | (simp;done)) | assumption | rfl)) ?_
    intro (k,w) sb ⟨h1b,r1b,h2b,r2b,h4b,r18b,h5b,h6b,hIb⟩
    have hl1:=zr2 xs i (by omega)
    have hl2:=zr1 xs i k
    have hms:=zv2 xs i k
    have hmL:=znV xs i
    simp (maxSteps:=5000000) -dsimp only [↓gp,gq,reduceCtorEq,reduceEqDiff,reduceLT,reduceLeDiff,reduceAdd,reduceMul,reduceSub,Nat.reduceBEq,Int.reduceToNat,Int.reduceLE,Int.reduceLT,Int.reduceNeg,reduceMod,zac,zad,zab,zaa,gT,TK.isInt,TK.agg,Array.toList,h1b,r1b,h2b,r2b,h4b,r18b,h5b,h6b,zaj,List.length_append]
    refine ⟨fun hk=>?_,fun hk=>?_⟩
    ·have hk:k < i:=by omega
     have hi6:i ≤ 5:=by omega
     have hei:=zrZ hx (show i < xs.length by omega)
     have hek:=zrZ hx (show k < xs.length by omega)
     have hxi:xs.getD i 0 = ((edA xs i:Nat):Int):=by
      have:=zfi hx (show i < xs.length by omega)
      unfold edA;omega
     have hxk:xs.getD k 0 = ((edA xs k:Nat):Int):=by
      have:=zfi hx (show k < xs.length by omega)
      unfold edA;omega
     have hand:zdL .i64 ((edA xs i:Nat):Int) ((edA xs k:Nat):Int) = ((edA xs i &&& edA xs k:Nat):Int):=zbt (by omega) (by omega)
     have hun:IntKind.u64.wrap (i:Int) = (i:Int):=zaL (by omega)
     have hun2:IntKind.u64.wrap (k:Int) = (k:Int):=zaL (by omega)
     have hp1:2 ^ i ≤ 2 ^ 5:=Nat.pow_le_pow_right (by decide) (by omega)
     have hp2:2 ^ k ≤ 2 ^ 5:=Nat.pow_le_pow_right (by decide) (by omega)
     have hsh:zgs .i64 1 (i:Int) = ((2 ^ i:Nat):Int):=zaJ (by omega)
     have hsh2:zgs .i64 1 (k:Int) = ((2 ^ k:Nat):Int):=zaJ (by omega)
     have hw:IntKind.i64.wrap (((2 ^ i:Nat):Int) + ((2 ^ k:Nat):Int)) = ((2 ^ i + 2 ^ k:Nat):Int):=by
      clear hsh hsh2 hms
      generalize 2 ^ i = a at *
      generalize 2 ^ k = b at *
      rw [zat (by omega) (by omega)];omega
     simp (maxSteps:=5000000) -dsimp only [↓gp,gq,reduceCtorEq,reduceEqDiff,reduceLT,reduceLeDiff,reduceAdd,reduceMul,reduceSub,Nat.reduceBEq,Int.reduceToNat,Int.reduceLE,Int.reduceLT,Int.reduceNeg,reduceMod,zac,zad,zab,zaa,gT,TK.isInt,TK.agg,Array.toList,h1b,r1b,h2b,r2b,h4b,r18b,h5b,h6b,hxi,hxk,hand,hun,hun2,hsh,hsh2,hw,zaj,List.length_append]
     refine ⟨by kernel_rfl,by omega,by omega,by omega,by omega,fun h0=>⟨by omega,?_⟩,fun h0=>?_⟩
     ·rw [if_neg (fun e=>by rw [e] at h0;simp at h0)] at hms
      have hap:ofN (znP xs i ++ zr0 xs i (k + 1)) = ofN (znP xs i ++ zr0 xs i k) ++ [((2 ^ i + 2 ^ k:Nat):Int)]:=by rw [hms,← List.append_assoc,zaR,zcK]
      exact zag ((k + 1,w + 1)) (by refine ⟨?_,?_,?_,?_,?_,?_,?_,?_,by dsimp only;omega⟩ <;> (first | (simp (maxSteps:=5000000) -dsimp only [gr,reduceEqDiff,reduceLT,reduceAdd,reduceMod,Nat.reduceBEq,zaa,zac,zad,zab,h1b,r1b,h2b,r2b,h4b,r18b,h5b,h6b,hap,zae hk (by omega)];first | done | rfl | (simp;done)) | assumption | rfl)) (by first | omega | (simp only;omega) | (dsimp only;omega) | (show _ < _;simp;omega))
     ·have h0:edA xs i &&& edA xs k = 0:=by
       have:((edA xs i &&& edA xs k:Nat):Int) = 0:=by simpa using h0
       omega
      rw [if_pos h0] at hms
      exact zag ((k + 1,w)) (by refine ⟨?_,?_,?_,?_,?_,?_,?_,?_,by dsimp only;omega⟩ <;> (first | (simp (maxSteps:=5000000) -dsimp only [gr,reduceEqDiff,reduceLT,reduceAdd,reduceMod,Nat.reduceBEq,zaa,zac,zad,zab,h1b,r1b,h2b,r2b,h4b,r18b,h5b,h6b,hms,zae hk (by omega)];first | done | rfl | (simp;done)) | assumption | rfl)) (by first | omega | (simp only;omega) | (dsimp only;omega) | (show _ < _;simp;omega))
    ·have:k = i:=by omega
     rw [this,← hmL] at r18b
     exact zag ((i + 1,w)) (by refine ⟨?_,?_,?_,?_,?_,?_,?_,by dsimp only;omega⟩ <;> (first | (simp (maxSteps:=5000000) -dsimp only [gr,reduceEqDiff,reduceLT,reduceAdd,reduceMod,Nat.reduceBEq,zaa,zac,zad,zab,h1a,r1a,h2a,r2a,h4a,r18a,h5a,h1b,r1b,h2b,r2b,h4b,r18b,h5b,h6b,zae (show i < 7 by omega) (by omega)];first | done | rfl | (simp;done)) | assumption | rfl)) (by first | omega | (simp only;omega) | (dsimp only;omega) | (show _ < _;simp;omega))
   ·have:i = xs.length:=by omega
    rw [this]
    refine zaf (zey xs.length (ofN (znP xs xs.length)) h6.2 (zqz fun j hj=>zCG xs h6.2 _ hj)) ?_
    simp (maxSteps:=5000000) -dsimp only [↓gp,gq,reduceCtorEq,reduceEqDiff,reduceLT,reduceLeDiff,reduceAdd,reduceMul,reduceSub,Nat.reduceBEq,Int.reduceToNat,Int.reduceLE,Int.reduceLT,Int.reduceNeg,reduceMod,zac,zad,zab,zaa,gT,TK.isInt,TK.agg,Array.toList,h1a,r1a,h2a,r2a,h4a,r18a,h5a]
 ·have hm:mtO n xs = false:=by unfold mtO;rw [show zap n xs = false by simpa using hg];rfl
  rw [hm];exact ⟨rfl,rfl,rfl⟩
theorem zfI (n:Int) (xs:List Int):AC Tryz.prog 26 [.ag [int n,zbj xs]] (.tup [.ag [.im (int (mtN n xs)),.fr 3 1 (iL (if mtO n xs = true then ofN (zfz (fun s=>decide (s < 2 ^ xs.length) && mtB xs s) true) else []))],.im (bool (mtO n xs))]):=by
 refine AC.go (rs:=[.cell 2 27,.tmp 3]) zbg zay Tryz.func26 rfl rfl rfl (by kernel_rfl) fun hl=>?_
 simp (maxSteps:=5000000) -dsimp only [↓gp,gq,reduceCtorEq,reduceEqDiff,reduceLT,reduceLeDiff,reduceAdd,reduceMul,reduceSub,Nat.reduceBEq,Int.reduceToNat,Int.reduceLE,Int.reduceLT,Int.reduceNeg,reduceMod,zac,zad,zab,zaa,gT,TK.isInt,TK.agg,Array.toList]
 refine zaf (zbC n xs) ?_
 simp (maxSteps:=5000000) -dsimp only [↓gp,gq,reduceCtorEq,reduceEqDiff,reduceLT,reduceLeDiff,reduceAdd,reduceMul,reduceSub,Nat.reduceBEq,Int.reduceToNat,Int.reduceLE,Int.reduceLT,Int.reduceNeg,reduceMod,zac,zad,zab,zaa,gT,TK.isInt,TK.agg,Array.toList]
 have hno:mtO n xs = false→mtN n xs = 0∧iL (if mtO n xs = true then ofN (zfz (fun s=>decide (s < 2 ^ xs.length) && mtB xs s) true) else []) = []∧mtO n xs = false:=fun h=>by
  rw [h]
  exact ⟨if_neg (fun e=>by rw [h] at e;cases e),rfl,rfl⟩
 refine ⟨fun hg=>⟨fun h0=>⟨fun h6=>hno ?_,fun h6=>?_⟩,fun h0=>hno ?_⟩,fun hg=>hno ?_⟩
 ·unfold mtO;rw [decide_eq_false (show ¬ xs.length ≤ 6 by omega)];simp
 ·have hg:zap n xs = true:=by simpa using hg
  have hp:1 ≤ xs.length:=Nat.pos_of_ne_zero fun e=>by rw [e] at h0;simp at h0
  have h6:xs.length ≤ 6:=by omega
  have hm:mtO n xs = true:=by unfold mtO;rw [hg,decide_eq_true hp,decide_eq_true h6];rfl
  have hx:=zfF hg
  have e1:mtN n xs = (xs.length:Int):=if_pos hm
  rw [e1,if_pos hm,hm]
  refine zaf (zcD xs.length h6 _ [.eref false [int n,zbj xs] 0] (mtB xs) (fun rw=>rfl) fun s hs=>zeQ n xs hx h6 s hs) ?_
  simp (maxSteps:=5000000) -dsimp only [↓gp,gq,reduceCtorEq,reduceEqDiff,reduceLT,reduceLeDiff,reduceAdd,reduceMul,reduceSub,Nat.reduceBEq,Int.reduceToNat,Int.reduceLE,Int.reduceLT,Int.reduceNeg,reduceMod,zac,zad,zab,zaa,gT,TK.isInt,TK.agg,Array.toList]
  refine zaf (zc0 xs.length _ (zg6 _ h6)) ?_
  have e:(zaW (mtB xs) (2 ^ xs.length)).testBit = fun u=>decide (u < 2 ^ xs.length) && mtB xs u:=funext fun s=>zci _ _ _
  rw [e]
  simp (maxSteps:=5000000) -dsimp only [↓gp,gq,reduceCtorEq,reduceEqDiff,reduceLT,reduceLeDiff,reduceAdd,reduceMul,reduceSub,Nat.reduceBEq,Int.reduceToNat,Int.reduceLE,Int.reduceLT,Int.reduceNeg,reduceMod,zac,zad,zab,zaa,gT,TK.isInt,TK.agg,Array.toList]
 ·unfold mtO;rw [decide_eq_false (show ¬ 1 ≤ xs.length from fun h=>by
   have:(xs.length:Int) = 0:=by simpa using h0
   omega)];simp
 ·unfold mtO;rw [show zap n xs = false by simpa using hg];rfl
noncomputable def goL (n:Int) (xs:List Int):List Int:=if zef n xs = true then ofN (za8 (zaZ xs) 2 64) else []
noncomputable def goN (n:Int) (xs:List Int):Int:=if zef n xs = true then n else 0
theorem zkY (n:Int) (xs:List Int):AC Tryz.prog 30 [.ag [int n,zbj xs]] (.tup [.ag [.im (int (goN n xs)),.fr 3 1 (iL (goL n xs))],.im (bool (zef n xs))]):=by
 refine AC.go (rs:=[.cell 2 36,.tmp 3]) zbg zay Tryz.func30 rfl rfl rfl (by kernel_rfl) fun hl=>?_
 simp (maxSteps:=5000000) -dsimp only [↓gp,gq,reduceCtorEq,reduceEqDiff,reduceLT,reduceLeDiff,reduceAdd,reduceMul,reduceSub,Nat.reduceBEq,Int.reduceToNat,Int.reduceLE,Int.reduceLT,Int.reduceNeg,reduceMod,zac,zad,zab,zaa,gT,TK.isInt,TK.agg,Array.toList]
 refine zaf (zbi n xs) ?_
 simp (maxSteps:=5000000) -dsimp only [↓gp,gq,reduceCtorEq,reduceEqDiff,reduceLT,reduceLeDiff,reduceAdd,reduceMul,reduceSub,Nat.reduceBEq,Int.reduceToNat,Int.reduceLE,Int.reduceLT,Int.reduceNeg,reduceMod,zac,zad,zab,zaa,gT,TK.isInt,TK.agg,Array.toList]
 unfold goN goL
 have h2:AC Tryz.prog 115 [.ag [int n,zbj xs],int 2] (.fr 3 1 (iL (ofN (za8 (zca n xs) 2 64)))):=zcr n xs 2
 refine ⟨fun hg=>?_,fun hg=>⟨by kernel_rfl,zaf h2 ?_⟩⟩
 ·rw [show zef n xs = false by simpa using hg];exact ⟨rfl,rfl,rfl⟩
 ·have hg:zef n xs = true:=by simpa using hg
  rw [if_pos hg,if_pos hg,hg]
  have e:zca n xs = zaZ xs:=funext fun s=>by unfold zca;rw [hg,Bool.true_and]
  rw [e]
  simp (maxSteps:=5000000) -dsimp only [↓gp,gq,reduceCtorEq,reduceEqDiff,reduceLT,reduceLeDiff,reduceAdd,reduceMul,reduceSub,Nat.reduceBEq,Int.reduceToNat,Int.reduceLE,Int.reduceLT,Int.reduceNeg,reduceMod,zac,zad,zab,zaa,gT,TK.isInt,TK.agg,Array.toList]
  kernel_rfl
theorem zf8 (n:Int) (xs:List Int):AC Tryz.prog 113 [.ag [int n,zbj xs],int 2] (.fr 3 1 (iL (goL n xs))):=by
 refine AC.go (rs:=[.tmp 4]) zbg zay Tryz.func113 rfl rfl rfl (by kernel_rfl) fun hl=>?_
 simp (maxSteps:=5000000) -dsimp only [↓gp,gq,reduceCtorEq,reduceEqDiff,reduceLT,reduceLeDiff,reduceAdd,reduceMul,reduceSub,Nat.reduceBEq,Int.reduceToNat,Int.reduceLE,Int.reduceLT,Int.reduceNeg,reduceMod,zac,zad,zab,zaa,gT,TK.isInt,TK.agg,Array.toList]
 refine zaf (zeG n xs) ?_
 simp (maxSteps:=5000000) -dsimp only [↓gp,gq,reduceCtorEq,reduceEqDiff,reduceLT,reduceLeDiff,reduceAdd,reduceMul,reduceSub,Nat.reduceBEq,Int.reduceToNat,Int.reduceLE,Int.reduceLT,Int.reduceNeg,reduceMod,zac,zad,zab,zaa,gT,TK.isInt,TK.agg,Array.toList]
 unfold goL
 refine ⟨fun hg=>?_,fun hg=>?_⟩
 ·rw [show zef n xs = false by simpa using hg];rfl
 ·have hg:zef n xs = true:=by simpa using hg
  rw [if_pos hg]
  refine zaf (zk7 n xs (zrO hg)) ?_
  simp (maxSteps:=5000000) -dsimp only [↓gp,gq,reduceCtorEq,reduceEqDiff,reduceLT,reduceLeDiff,reduceAdd,reduceMul,reduceSub,Nat.reduceBEq,Int.reduceToNat,Int.reduceLE,Int.reduceLT,Int.reduceNeg,reduceMod,zac,zad,zab,zaa,gT,TK.isInt,TK.agg,Array.toList]
  have hE:AC Tryz.prog 179 [u64 (zaW (zaZ xs) 64:Nat)] (.tb 25 3 ((zij (zaZ xs)).map iL)):=by
   have:=zk9 (zaZ xs)
   unfold zij
   rw [List.map_map]
   exact this
  have hsl:=znE (zaZ xs)
  have hd:=zhB (zaZ xs)
  refine zyC hE (fun i hi=>by simp (maxSteps:=5000000) -dsimp only [gr,reduceEqDiff,reduceLT,reduceAdd,reduceMod,Nat.reduceBEq,zaa,zac,zad,zab]) fun S hS0 hSd0 hSs hSr=>?_
  simp only [u64,zc4] at hS0 hSd0
  have hS:TabI S.rw 11 1 25 3 (List.range (zij (zaZ xs)).length) (zij (zaZ xs)):=hS0
  have hSd:S.sl 11 = .own 11 1:=hSd0
  have u1:S.sl 1 = int 2:=by rw [hSs 1 (by decide)];simp (maxSteps:=5000000) -dsimp only [gr,reduceEqDiff,reduceLT,reduceAdd,reduceMod,Nat.reduceBEq,zaa,zac,zad,zab]
  have u4:S.sl 4 = .own 4 1:=by rw [hSs 4 (by decide)];simp (maxSteps:=5000000) -dsimp only [gr,reduceEqDiff,reduceLT,reduceAdd,reduceMod,Nat.reduceBEq,zaa,zac,zad,zab]
  have w4:S.rw 4 = ⟨1,.sli 3 1 false []⟩:=by rw [hSr 4 (by decide)];simp (maxSteps:=5000000) -dsimp only [gr,reduceEqDiff,reduceLT,reduceAdd,reduceMod,Nat.reduceBEq,zaa,zac,zad,zab]
  rw [hsl] at hS
  have htop:=hS.top
  simp (maxSteps:=5000000) -dsimp only [↓gp,gq,reduceCtorEq,reduceEqDiff,reduceLT,reduceLeDiff,reduceAdd,reduceMul,reduceSub,Nat.reduceBEq,Int.reduceToNat,Int.reduceLE,Int.reduceLT,Int.reduceNeg,reduceMod,zac,zad,zab,zaa,gT,TK.isInt,TK.agg,Array.toList,hSd,u1,u4,w4,htop,zj0,zau,List.length_range]
  refine ⟨fun h=>?_,fun h=>⟨by omega,by omega,?_⟩⟩
  ·have e:za8 (zaZ xs) 2 64 = []:=by
    unfold za8
    refine List.filter_eq_nil_iff.2 fun s hs hp=>?_
    rw [Bool.and_eq_true,beq_iff_eq] at hp
    have:zaD s < zeb (zaZ xs):=zhC 64 s (List.mem_range.1 hs) hp.1
    omega
   rw [e];rfl
  ·have e2:(List.range (zeb (zaZ xs))).getD 2 0 = 2:=by simp [List.getD,show 2 < zeb (zaZ xs) by omega]
   have hr:=hS.is.row 2 (by rw [List.length_range];omega)
   rw [e2] at hr ⊢
   rw [hr,zck,zrR _ (by omega),zhn _ _ _ _ _ _ (by decide)]
   exact ⟨rfl,by simp⟩
theorem zkZ (n:Int) (xs:List Int):AC Tryz.prog 29 [.ag [int n,zbj xs]] (.tup [.ag [.im (int (goN n xs)),.fr 3 1 (iL (goL n xs))],.im (bool (zef n xs))]):=by
 refine AC.go (rs:=[.cell 2 36,.tmp 3]) zbg zay Tryz.func29 rfl rfl rfl (by kernel_rfl) fun hl=>?_
 simp (maxSteps:=5000000) -dsimp only [↓gp,gq,reduceCtorEq,reduceEqDiff,reduceLT,reduceLeDiff,reduceAdd,reduceMul,reduceSub,Nat.reduceBEq,Int.reduceToNat,Int.reduceLE,Int.reduceLT,Int.reduceNeg,reduceMod,zac,zad,zab,zaa,gT,TK.isInt,TK.agg,Array.toList]
 refine zaf (zeG n xs) ?_
 simp (maxSteps:=5000000) -dsimp only [↓gp,gq,reduceCtorEq,reduceEqDiff,reduceLT,reduceLeDiff,reduceAdd,reduceMul,reduceSub,Nat.reduceBEq,Int.reduceToNat,Int.reduceLE,Int.reduceLT,Int.reduceNeg,reduceMod,zac,zad,zab,zaa,gT,TK.isInt,TK.agg,Array.toList]
 refine ⟨fun hg=>?_,fun hg=>⟨by kernel_rfl,zaf (zf8 n xs) ?_⟩⟩
 ·unfold goN goL
  rw [show zef n xs = false by simpa using hg];exact ⟨rfl,rfl,rfl⟩
 ·have hg:zef n xs = true:=by simpa using hg
  have e1:goN n xs = n:=if_pos hg
  rw [e1,hg]
  simp (maxSteps:=5000000) -dsimp only [↓gp,gq,reduceCtorEq,reduceEqDiff,reduceLT,reduceLeDiff,reduceAdd,reduceMul,reduceSub,Nat.reduceBEq,Int.reduceToNat,Int.reduceLE,Int.reduceLT,Int.reduceNeg,reduceMod,zac,zad,zab,zaa,gT,TK.isInt,TK.agg,Array.toList]
  kernel_rfl
theorem zBf (s:Nat):(pts s).Pairwise (· < ·):=List.Pairwise.filter _ List.pairwise_lt_range
theorem zqQ {l:List Nat} (h:l.Pairwise (· < ·)) {i j:Nat} (hij:i < j) (hj:j < l.length):l.getD i 0 < l.getD j 0:=by
 have:=List.pairwise_iff_getElem.1 h i j (by omega) hj hij
 have a:l.getD i 0 = l[i]'(by omega):=by simp [List.getD,show i < l.length by omega]
 have b:l.getD j 0 = l[j]:=by simp [List.getD,hj]
 rw [a,b];exact this
theorem zqR (xs:List Int) (l:List Nat) (x:Nat):∀ k,k ≤ l.length→(x &&& usK xs l k = 0 ↔ ∀ j,j < k→x &&& edA xs (l.getD j 0) = 0)
 | 0,_=>⟨fun _ j hj=>by omega,fun _=>Nat.and_zero _⟩
 | k + 1,h=>by
   rw [zmJ (by omega),Nat.and_or_distrib_left,Nat.or_eq_zero_iff,zqR xs l x k (by omega)]
   constructor
   ·rintro ⟨a,b⟩ j hj
    by_cases e:j = k
    ·rw [e];exact b
    ·exact a j (by omega)
   ·intro h2
    exact ⟨fun j hj=>h2 j (by omega),h2 k (by omega)⟩
theorem zuK {xs:List Int} {s:Nat} (hs:s < 64):mtB xs s = true ↔ ∀ i k,s.testBit i = true→s.testBit k = true→k < i→edA xs i &&& edA xs k = 0:=by
 have hp:=zBf s
 have hm:∀ i,i ∈ pts s ↔ s.testBit i = true:=fun i=>zni hs
 unfold mtB djK
 simp only [List.all_eq_true,List.mem_range,beq_iff_eq]
 constructor
 ·intro h i k hi hk hlt
  obtain ⟨a,ha,e1⟩:=zbB 0 ((hm i).2 hi)
  obtain ⟨b,hb,e2⟩:=zbB 0 ((hm k).2 hk)
  have hba:b < a:=by
   refine Nat.lt_of_not_le fun hle=>?_
   by_cases e:a = b
   ·subst e;rw [e1] at e2;omega
   ·have:=zqQ hp (show a < b by omega) hb
    rw [e1,e2] at this;omega
  have:=(zqR xs (pts s) _ a (by omega)).1 (h a ha) b hba
  rw [e1,e2] at this
  exact this
 ·intro h j hj
  rw [zqR xs (pts s) _ j (by omega)]
  intro i hi
  exact h _ _ ((hm _).1 (zax 0 hj)) ((hm _).1 (zax 0 (by omega))) (zqQ hp hi hj)
theorem zrY {xs:List Int} {n t:Nat}:t ∈ znP xs n ↔ ∃ i k,i < n∧k < i∧¬ edA xs i &&& edA xs k = 0∧t = 2 ^ i + 2 ^ k:=by
 unfold znP zr0
 simp only [List.mem_flatMap,List.mem_range,List.mem_map,List.mem_filter,Bool.not_eq_true',beq_eq_false_iff_ne]
 constructor
 ·rintro ⟨i,hi,k,⟨hk,hz⟩,rfl⟩
  exact ⟨i,k,hi,hk,hz,rfl⟩
 ·rintro ⟨i,k,hi,hk,hz,rfl⟩
  exact ⟨i,hi,k,⟨hk,hz⟩,rfl⟩
def mtF (xs:List Int) (s:Nat):Bool:=decide (s < 2 ^ xs.length) && mtB xs s
theorem zja {n s i:Nat} (hs:s < 2 ^ n) (h:s.testBit i = true):i < n:=Nat.lt_of_not_le fun hle=>by
 rw [Nat.testBit_lt_two_pow (Nat.lt_of_lt_of_le hs (Nat.pow_le_pow_right (by decide) hle))] at h;cases h
theorem zCF {xs:List Int} (h6:xs.length ≤ 6):apF xs.length (ofN (znP xs xs.length)) = mtF xs:=funext fun s=>by
 unfold apF mtF
 rw [Int.toNat_natCast]
 by_cases hs:s < 2 ^ xs.length
 ·rw [decide_eq_true hs,Bool.true_and,Bool.true_and,Bool.eq_iff_iff,zuK (Nat.lt_of_lt_of_le hs (zam h6))]
  unfold zbK
  rw [List.all_eq_true]
  constructor
  ·intro h i k hi hk hlt
   refine Classical.byContradiction fun hz=>?_
   have hi6:=zja hs hi
   have:=h _ (List.mem_map.2 ⟨_,zrY.2 ⟨i,k,hi6,hlt,hz,rfl⟩,rfl⟩)
   rw [Int.toNat_natCast,ziC i (by omega) k hlt] at this
   have e:(2 ^ i ||| 2 ^ k) &&& s = 2 ^ i ||| 2 ^ k:=by
    rw [Nat.and_comm]
    refine za3.2 fun j hj=>?_
    rw [za4,Bool.or_eq_true,decide_eq_true_eq,decide_eq_true_eq] at hj
    rcases hj with rfl | rfl
    ·exact hi
    ·exact hk
   rw [e] at this;simp at this
  ·intro h x hx
   obtain ⟨t,ht,rfl⟩:=List.mem_map.1 hx
   obtain ⟨i,k,hi,hk,hz,rfl⟩:=zrY.1 ht
   rw [Int.toNat_natCast,ziC i (by omega) k hk,Bool.not_eq_true',beq_eq_false_iff_ne]
   intro e
   rw [Nat.and_comm] at e
   have hb:=za3.1 e
   exact hz (h i k (hb i (by rw [za4];simp)) (hb k (by rw [za4];simp)) hk)
 ·rw [decide_eq_false hs];rfl
theorem zf6 (n:Int) (xs:List Int):AC Tryz.prog 26 [.ag [int n,zbj xs]] (.tup [.ag [.im (int (mtN n xs)),.fr 3 1 (iL (mtL n xs))],.im (bool (mtO n xs))]):=by
 have h:=zfI n xs
 have e:mtL n xs = if mtO n xs = true then ofN (zfz (fun s=>decide (s < 2 ^ xs.length) && mtB xs s) true) else []:=by
  unfold mtL
  split
  ·rename_i hm
   unfold mtO at hm
   simp only [Bool.and_eq_true,decide_eq_true_eq] at hm
   rw [zCF hm.2.2];rfl
  ·rfl
 rw [e];exact h
theorem zzN {n:Int} {xs:List Int} (h:zef n xs = true):∀ x ∈ xs,zaD x.toNat ≤ zaD (xs.getD (xs.length - 1) 0).toNat:=fun x hx=>by
 obtain ⟨_,_,h3⟩:=zdE.1 h
 have hok:=zrO h
 have hle:∀ j,j < xs.length→∀ i,i ≤ j→zaD (xs.getD i 0).toNat ≤ zaD (xs.getD j 0).toNat:=by
  intro j
  induction j with
  | zero=>intro _ i hi;rw [show i = 0 by omega];exact Nat.le_refl _
  | succ j ih =>
    intro hj i hi
    have h1:=(h3 (j + 1) hj).2.1 (by omega)
    rw [Nat.add_sub_cancel] at h1
    have q1:=hok _ (zax 0 hj)
    have q2:=hok _ (zax 0 (show j < xs.length by omega))
    unfold zk0 at h1
    rw [zfp q1,zfp q2] at h1
    simp only [Bool.and_eq_true,decide_eq_true_eq] at h1
    have hs:zaD (xs.getD j 0).toNat ≤ zaD (xs.getD (j + 1) 0).toNat:=by
     have h2:=h1.2.2
     split at h2
     ·omega
     ·have:=of_decide_eq_true h2;omega
    by_cases e:i = j + 1
    ·rw [e];exact Nat.le_refl _
    ·exact Nat.le_trans (ih (by omega) i (by omega)) hs
 obtain ⟨i,hi,rfl⟩:=zbB 0 hx
 exact hle (xs.length - 1) (by omega) i (by omega)
theorem zEe {n:Int} {xs:List Int} (h:zDL n xs = true):zuE n xs + 1 = (zeb (zaZ xs):Int) - 1:=by
 obtain ⟨hcx,hpos⟩:=zdQ.1 h
 have hok:=zrO hcx
 have e:zuE n xs = (zaD (xs.getD (xs.length - 1) 0).toNat:Int) - 1:=if_pos h
 have hl:=zax 0 (show xs.length - 1 < xs.length by omega)
 have hlast:=hok _ hl
 have hf:zaZ xs (xs.getD (xs.length - 1) 0).toNat = true:=zdu.2 ⟨_,hl,Nat.and_self _⟩
 have h1:=zhC 64 _ (by omega) hf
 have hdn:zeb (zaZ xs) = zhh (zaZ xs) 64:=rfl
 obtain ⟨T,a,b,c⟩:=znr (f:=zaZ xs) 64 (by omega)
 obtain ⟨x,hx,hxT⟩:=zdu.1 b
 have h2:=zzN hcx x hx
 have h3:=zuu (s:=x.toNat) (t:=T) (by have:=hok x hx;omega) hxT
 omega
theorem zzO {xs:List Int} (h6:xs.length ≤ 6) {s t:Nat} (h:mtF xs s = true) (hst:s &&& t = t):mtF xs t = true:=by
 unfold mtF at *
 rw [Bool.and_eq_true,decide_eq_true_eq] at *
 have h64:=zam h6
 have hts:t ≤ s:=by rw [← hst];exact Nat.and_le_left
 have hb:=za3.1 hst
 refine ⟨by omega,(zuK (by omega)).2 fun i k hi hk hlt=>(zuK (by omega)).1 h.2 i k (hb i hi) (hb k hk) hlt⟩
theorem zqO {n:Int} {xs:List Int}:mtO n xs = true ↔ zap n xs = true∧1 ≤ xs.length∧xs.length ≤ 6:=by
 unfold mtO
 simp only [Bool.and_eq_true,decide_eq_true_eq]
theorem zqP {n:Int} {xs:List Int} (hm:mtO n xs = true) {s:Nat} (hs:s < 64):zaZ (mtL n xs) s = mtF xs s:=by
 obtain ⟨hg,h1,h6⟩:=zqO.1 hm
 have e:mtL n xs = ofN (zfz (apF xs.length (ofN (znP xs xs.length))) true):=if_pos hm
 rw [e,zCF h6,zqi,Bool.eq_iff_iff,List.any_eq_true]
 constructor
 ·rintro ⟨t,ht,h⟩
  rw [Bool.and_eq_true,beq_iff_eq] at h
  exact zzO h6 h.1 h.2
 ·intro h
  exact ⟨s,List.mem_range.2 hs,by rw [h,Nat.and_self];simp⟩
theorem zEf {n:Int} {xs:List Int} (hm:mtO n xs = true):zDL xs.length (mtL n xs) = true:=by
 obtain ⟨hg,h1,h6⟩:=zqO.1 hm
 have e:mtL n xs = ofN (zfz (apF xs.length (ofN (znP xs xs.length))) true):=if_pos hm
 refine zdQ.2 ⟨?_,?_⟩
 ·rw [e,zCF h6]
  refine zCA h1 h6 fun s hs h=>?_
  unfold mtF at h
  rw [Bool.and_eq_true,decide_eq_true_eq] at h
  exact h.1
 ·have h0:zaZ (mtL n xs) 0 = true:=by
   rw [zqP hm (by decide)]
   unfold mtF
   rw [decide_eq_true (Nat.two_pow_pos _),Bool.true_and,zuK (by decide)]
   intro i k hi
   rw [Nat.zero_testBit] at hi;cases hi
  cases hx:mtL n xs with
  | nil=>rw [hx] at h0;cases h0
  | cons a l=>simp
theorem zv1:∀ s,s < 64→(pts s).length = zaD s:=by decide +kernel
theorem zBe (xs:List Int):(List.range xs.length).map (fun i=>xs.getD i 0) = xs:=by
 refine List.ext_getElem (by simp) fun i h1 h2=>?_
 simp [List.getD,h2]
theorem zCE {n s:Nat} (hs:s < 2 ^ n) (h6:n ≤ 6):(pts s).Sublist (List.range n):=by
 have e:pts s = (List.range n).filter fun i=>s.testBit i:=by
  unfold pts
  have e:List.range 6 = List.range n ++ (List.range (6 - n)).map (n + ·):=by rw [← List.range_add];congr 1;omega
  have e2:((List.range (6 - n)).map (n + ·)).filter (fun i=>s.testBit i) = []:=by
   refine List.filter_eq_nil_iff.2 fun x hx=>?_
   obtain ⟨t,_,rfl⟩:=List.mem_map.1 hx
   rw [Nat.testBit_lt_two_pow (Nat.lt_of_lt_of_le hs (Nat.pow_le_pow_right (by decide) (by omega)))]
   exact Bool.false_ne_true
  rw [e,List.filter_append,e2,List.append_nil]
 rw [e];exact List.filter_sublist
theorem zGl {m:Nat} {xs:List Int} (hg:zap (m:Int) xs = true) (h6:xs.length ≤ 6) {s:Nat} (h:mtF xs s = true):(zaD s:Int) ≤ zeN xs 0:=by
 unfold mtF at h
 rw [Bool.and_eq_true,decide_eq_true_eq] at h
 have h64:=zam h6
 have hs6:s < 64:=by omega
 have hpw:=(zuK hs6).1 h.2
 have hm:∀ i,i ∈ pts s→s.testBit i = true:=fun i hi=>(zni hs6).1 hi
 have:=zqV xs 0 (zEk hg) (by decide) ((pts s).map fun i=>xs.getD i 0) (by
  have:=(zCE h.1 h6).map fun i=>xs.getD i 0
  rw [zBe] at this
  exact this) ⟨by
   rw [List.pairwise_map]
   refine List.Pairwise.imp_of_mem (fun {a b} ha hb hab=>?_) (zBf s)
   rw [Nat.and_comm]
   exact hpw b a (hm b hb) (hm a ha) hab,fun x _=>Nat.and_zero _⟩
 rw [List.length_map,zv1 s hs6] at this
 exact this
theorem zGm {m:Nat} {xs:List Int} (hg:zap (m:Int) xs = true) (h6:xs.length ≤ 6):∃ s,mtF xs s = true∧zeN xs 0 ≤ (zaD s:Int):=by
 obtain ⟨M,a,b,d⟩:=zqW xs 0 (zEk hg) (by decide)
 have hnd:=zr5 hg
 have hMn:M.Nodup:=a.nodup hnd
 have hall:=zBj (fun a b h=>by rw [Nat.and_comm];exact h) b.1
 let w:Nat→Bool:=fun i=>decide (xs.getD i 0 ∈ M)
 have h64:=zam h6
 have hlt:zaW w xs.length < 2 ^ xs.length:=zb9 _ _
 have hbit:∀ i,(zaW w xs.length).testBit i = (decide (i < xs.length) && w i):=fun i=>zci _ _ _
 refine ⟨zaW w xs.length,?_,?_⟩
 ·unfold mtF
  rw [decide_eq_true hlt,Bool.true_and,zuK (by omega)]
  intro i k hi hk hki
  rw [hbit,Bool.and_eq_true,decide_eq_true_eq,decide_eq_true_eq] at hi hk
  refine hall _ hi.2 _ hk.2 fun e=>?_
  have e1:xs.getD i 0 = xs[i]'hi.1:=by simp [List.getD,hi.1]
  have e2:xs.getD k 0 = xs[k]'hk.1:=by simp [List.getD,hk.1]
  rw [e1,e2] at e
  exact List.pairwise_iff_getElem.1 hnd k i hk.1 hi.1 hki e.symm
 ·have hperm:M.Perm (xs.filter fun x=>decide (x ∈ M)):=(List.perm_ext_iff_of_nodup hMn (hnd.filter _)).2 fun x=>by
   rw [List.mem_filter,decide_eq_true_eq]
   exact ⟨fun h=>⟨a.subset h,h⟩,fun h=>h.2⟩
  have e1:(xs.filter fun x=>decide (x ∈ M)).length = ((List.range xs.length).filter w).length:=by
   conv=>lhs;rw [← zBe xs]
   rw [List.filter_map,List.length_map];rfl
  have e2:((List.range xs.length).filter w).length ≤ (pts (zaW w xs.length)).length:=by
   refine List.Sublist.length_le ?_
   have e3:(List.range xs.length).filter w = (List.range xs.length).filter fun i=>(zaW w xs.length).testBit i:=List.filter_congr fun i hi=>by
    rw [hbit,decide_eq_true (List.mem_range.1 hi),Bool.true_and]
   rw [e3]
   unfold pts
   refine List.Sublist.filter _ ?_
   have:List.range 6 = List.range xs.length ++ (List.range (6 - xs.length)).map (xs.length + ·):=by rw [← List.range_add];congr 1;omega
   rw [this];exact List.sublist_append_left _ _
  rw [zv1 _ (by omega)] at e2
  have:=hperm.length_eq
  have d:(M.length:Int) = zeN xs 0:=d
  omega
theorem zrX {m:Nat} {xs:List Int} (hm:mtO m xs = true):zuE xs.length (mtL m xs) + 1 = zeN xs 0:=by
 obtain ⟨hg,h1,h6⟩:=zqO.1 hm
 have hc:=zEf hm
 rw [zEe hc]
 have h64:=zam h6
 obtain ⟨s,hs,hp⟩:=zGm hg h6
 have hs64:s < 64:=by
  unfold mtF at hs
  rw [Bool.and_eq_true,decide_eq_true_eq] at hs
  omega
 have a1:=zhC (f:=zaZ (mtL m xs)) 64 s hs64 (by rw [zqP hm hs64];exact hs)
 have hdn:zeb (zaZ (mtL m xs)) = zhh (zaZ (mtL m xs)) 64:=rfl
 obtain ⟨T,b1,b2,b3⟩:=znr (f:=zaZ (mtL m xs)) 64 (by omega)
 rw [zqP hm b1] at b2
 have:=zGl hg h6 b2
 omega
theorem zlf (bs:List Int) (hbs:bs.length ≤ 9223372036854775806):zuI Tryz.prog 175 TC bs ⟨0,.dead⟩ [] (kcx cxQ):=by
 intro i h
 refine AG.go (rs:=[.cell 2 36]) zbg zay Tryz.func175 rfl rfl rfl (by kernel_rfl) fun hl _ s hs hR=>?_
 have e0:s.rw 1000000 = ⟨1,.box TC [.sl false 1 (kL .u8 bs),int i,int h]⟩:=by rw [hR];rfl
 have e1:s.rw 1000500 = ⟨0,.dead⟩:=by rw [hR];rfl
 have elo:∀ k,k < 1000000→s.rw k = ⟨0,.dead⟩:=fun k hk=>by rw [hR];exact zhM hk
 simp (maxSteps:=5000000) -dsimp only [↓gp,gq,reduceCtorEq,reduceEqDiff,reduceLT,reduceLeDiff,reduceAdd,reduceMul,reduceSub,Nat.reduceBEq,Int.reduceToNat,Int.reduceLE,Int.reduceLT,Int.reduceNeg,reduceMod,zac,zad,zab,zaa,gT,TK.isInt,TK.agg,Array.toList,hs,e0,elo]
 refine zaK (zbU bs hbs [1,2,3,4,4,5,5,6] (by decide) (by decide)) (.some (j:=8) (by simp (maxSteps:=5000000) -dsimp only [gr,reduceEqDiff,reduceLT,reduceAdd,reduceMod,Nat.reduceBEq,zaa,zac,zad,zab,elo] <;> rfl) (zdF _)) (by simp (maxSteps:=5000000) -dsimp only [gr,reduceEqDiff,reduceLT,reduceAdd,reduceMod,Nat.reduceBEq,zaa,zac,zad,zab,e0] <;> rfl) (.one (zbN (by simp (maxSteps:=5000000) -dsimp only [gr,reduceEqDiff,reduceLT,reduceAdd,reduceMod,Nat.reduceBEq,zaa,zac,zad,zab,e0] <;> rfl)) (.one (zgq (by simp (maxSteps:=5000000) -dsimp only [gr,reduceEqDiff,reduceLT,reduceAdd,reduceMod,Nat.reduceBEq,zaa,zac,zad,zab,elo])) .nil)) rfl (fun j hj=>by cases hj;exact ⟨rfl,rfl⟩) fun rv i1 g1 ⟨n0,hrv,hc⟩=>?_
 subst hrv
 obtain ⟨n,rfl,hn1,hn⟩:∃ n:Nat,n0 = n∧1 ≤ n∧n ≤ 6:=by
  have hc:n0 ∈ [1,2,3,4,4,5,5,6]:=hc
  simp at hc
  exact ⟨n0.toNat,by omega,by omega,by omega⟩
 simp (maxSteps:=5000000) -dsimp only [↓gp,gq,reduceCtorEq,reduceEqDiff,reduceLT,reduceLeDiff,reduceAdd,reduceMul,reduceSub,Nat.reduceBEq,Int.reduceToNat,Int.reduceLE,Int.reduceLT,Int.reduceNeg,reduceMod,zac,zad,zab,zaa,gT,TK.isInt,TK.agg,Array.toList,hs,e0,elo]
 refine zaK (za0 bs hbs 3 (by decide)) .none (by simp (maxSteps:=5000000) -dsimp only [gr,reduceEqDiff,reduceLT,reduceAdd,reduceMod,Nat.reduceBEq,zaa,zac,zad,zab,e0,elo] <;> rfl) (GvL.one (zbN (by simp (maxSteps:=5000000) -dsimp only [gr,reduceEqDiff,reduceLT,reduceAdd,reduceMod,Nat.reduceBEq,zaa,zac,zad,zab,e0,elo] <;> rfl)) (by repeat (first | exact GvL.nil | refine GvL.one (GvA.v _) ?_ | refine GvL.one (GvA.sl _ _ _) ?_))) rfl (fun _ h=>by cases h) fun rv i2 g2 ⟨x,hrv,hx⟩=>?_
 subst hrv
 obtain ⟨y,rfl,hy⟩:=zgp (n:=3) (by decide) hx
 have hw1:IntKind.i64.wrap (2 + (y:Int)) = ((y + 2:Nat):Int):=by rw [zat (by omega) (by omega)];omega
 have h64:=zam hn
 have hsh:zgs .i64 1 (n:Int) = ((2 ^ n:Nat):Int):=zaJ (by omega)
 have hun:IntKind.u64.wrap (n:Int) = (n:Int):=zaL (by omega)
 simp (maxSteps:=5000000) -dsimp only [↓gp,gq,reduceCtorEq,reduceEqDiff,reduceLT,reduceLeDiff,reduceAdd,reduceMul,reduceSub,Nat.reduceBEq,Int.reduceToNat,Int.reduceLE,Int.reduceLT,Int.reduceNeg,reduceMod,zac,zad,zab,zaa,gT,TK.isInt,TK.agg,Array.toList,hs,e0,elo,hw1]
 refine zrA (fun (za:Nat × Nat × Nat × Int × List Int) s=>match za with | (m,v,j,g,L)=>s.sl 0 = .ref 1000000 1 0∧s.rw 1000000 = ⟨1,.box TC [.sl false 1 (kL .u8 bs),int j,int g]⟩∧s.rw 1000500 = ⟨0,.dead⟩∧s.sl 2 = .ref 2 1 0∧s.rw 2 = ⟨1,.box 36 [int 0,.v (.slice none 0 0)]⟩∧s.sl 3 = int n∧s.sl 4 = .ref 4 1 0∧s.rw 4 = ⟨1,.box 36 [int n,.own 90 v]⟩∧s.rw 90 = ⟨v,.sli 3 1 false (iL L)⟩∧s.sl 5 = int (y + 2:Nat)∧s.sl 6 = int m∧(m ≤ 2 ^ n∧L.length ≤ m)) (fun (m,v,j,g,L)=>2 ^ n - m) ((0,1,i2,g2,[])) (Wk.nilBox (j:=4) (v:=1) (t:=36) (o:=1) (c:=[int n,.v (.slice none 0 0)]) 90 3 (by simp (maxSteps:=5000000) -dsimp only [gr,reduceEqDiff,reduceLT,reduceAdd,reduceMod,Nat.reduceBEq,zaa,zac,zad,zab]) rfl (by decide)) (by refine ⟨?_,?_,?_,?_,?_,?_,?_,?_,?_,?_,?_,⟨Nat.zero_le _,Nat.le_refl _⟩⟩ <;> (first | (simp (maxSteps:=5000000) -dsimp only [gr,reduceEqDiff,reduceLT,reduceAdd,reduceMod,Nat.reduceBEq,zaa,zac,zad,zab,hs,e0,e1,elo];first | done | rfl | (simp;done)) | assumption | rfl)) ?_
 intro (m,v,j,g,L) sa ⟨h0a,r1000000a,r1000500a,h2a,r2a,h3a,h4a,r4a,r90a,h5a,h6a,hIa⟩
 obtain ⟨hm,hLm⟩:=hIa
 simp (maxSteps:=5000000) -dsimp only [↓gp,gq,reduceCtorEq,reduceEqDiff,reduceLT,reduceLeDiff,reduceAdd,reduceMul,reduceSub,Nat.reduceBEq,Int.reduceToNat,Int.reduceLE,Int.reduceLT,Int.reduceNeg,reduceMod,zac,zad,zab,zaa,gT,TK.isInt,TK.agg,Array.toList,h0a,r1000000a,r1000500a,h2a,r2a,h3a,h4a,r4a,r90a,h5a,h6a,hsh,hun]
 refine ⟨fun hlt=>zaf (zaP m (by omega)) ?_,fun hlt=>?_⟩
 ·simp (maxSteps:=5000000) -dsimp only [↓gp,gq,reduceCtorEq,reduceEqDiff,reduceLT,reduceLeDiff,reduceAdd,reduceMul,reduceSub,Nat.reduceBEq,Int.reduceToNat,Int.reduceLE,Int.reduceLT,Int.reduceNeg,reduceMod,zac,zad,zab,zaa,gT,TK.isInt,TK.agg,Array.toList,h0a,r1000000a,r1000500a,h2a,r2a,h3a,h4a,r4a,r90a,h5a,h6a,hsh,hun]
  refine ⟨fun he=>zaK (zhe bs hbs (y + 2:Nat) (by omega)) .none (by simp (maxSteps:=5000000) -dsimp only [gr,reduceEqDiff,reduceLT,reduceAdd,reduceMod,Nat.reduceBEq,zaa,zac,zad,zab,h0a,r1000000a,r1000500a,h2a,r2a,h3a,h4a,r4a,r90a,h5a,h6a] <;> rfl) (GvL.one (zbN (by simp (maxSteps:=5000000) -dsimp only [gr,reduceEqDiff,reduceLT,reduceAdd,reduceMod,Nat.reduceBEq,zaa,zac,zad,zab,h0a,r1000000a,r1000500a,h2a,r2a,h3a,h4a,r4a,r90a,h5a,h6a] <;> rfl)) (by repeat (first | exact GvL.nil | refine GvL.one (GvA.v _) ?_ | refine GvL.one (GvA.sl _ _ _) ?_))) rfl (fun _ h=>by cases h) fun rv i3 g3 ⟨b,hrv⟩=>?_,fun he=>?_⟩
  ·subst hrv
   simp (maxSteps:=5000000) -dsimp only [↓gp,gq,reduceCtorEq,reduceEqDiff,reduceLT,reduceLeDiff,reduceAdd,reduceMul,reduceSub,Nat.reduceBEq,Int.reduceToNat,Int.reduceLE,Int.reduceLT,Int.reduceNeg,reduceMod,zac,zad,zab,zaa,gT,TK.isInt,TK.agg,Array.toList,h0a,r1000000a,r1000500a,h2a,r2a,h3a,h4a,r4a,r90a,h5a,h6a,hsh,hun]
   refine ⟨fun hb=>⟨by omega,?_⟩,fun hb=>?_⟩
   ·exact zag ((m + 1,v + 1,i3,g3,L ++ [(m:Int)])) (by refine ⟨?_,?_,?_,?_,?_,?_,?_,?_,?_,?_,?_,⟨by dsimp only;omega,by simp;omega⟩⟩ <;> (first | (simp (maxSteps:=5000000) -dsimp only [gr,reduceEqDiff,reduceLT,reduceAdd,reduceMod,Nat.reduceBEq,zaa,zac,zad,zab,h0a,r1000000a,r1000500a,h2a,r2a,h3a,h4a,r4a,r90a,h5a,h6a,h0a,r1000000a,r1000500a,h2a,r2a,h3a,h4a,r4a,r90a,h5a,h6a,zae hlt (by omega)];first | done | rfl | (simp;done)) | assumption | rfl)) (by first | omega | (simp only;omega) | (dsimp only;omega) | (show _ < _;simp;omega))
   ·exact zag ((m + 1,v,i3,g3,L)) (by refine ⟨?_,?_,?_,?_,?_,?_,?_,?_,?_,?_,?_,⟨by dsimp only;omega,by dsimp only;omega⟩⟩ <;> (first | (simp (maxSteps:=5000000) -dsimp only [gr,reduceEqDiff,reduceLT,reduceAdd,reduceMod,Nat.reduceBEq,zaa,zac,zad,zab,h0a,r1000000a,r1000500a,h2a,r2a,h3a,h4a,r4a,r90a,h5a,h6a,h0a,r1000000a,r1000500a,h2a,r2a,h3a,h4a,r4a,r90a,h5a,h6a,zae hlt (by omega)];first | done | rfl | (simp;done)) | assumption | rfl)) (by first | omega | (simp only;omega) | (dsimp only;omega) | (show _ < _;simp;omega))
  ·exact zag ((m + 1,v,j,g,L)) (by refine ⟨?_,?_,?_,?_,?_,?_,?_,?_,?_,?_,?_,⟨by dsimp only;omega,by dsimp only;omega⟩⟩ <;> (first | (simp (maxSteps:=5000000) -dsimp only [gr,reduceEqDiff,reduceLT,reduceAdd,reduceMod,Nat.reduceBEq,zaa,zac,zad,zab,h0a,r1000000a,r1000500a,h2a,r2a,h3a,h4a,r4a,r90a,h5a,h6a,h0a,r1000000a,r1000500a,h2a,r2a,h3a,h4a,r4a,r90a,h5a,h6a,zae hlt (by omega)];first | done | rfl | (simp;done)) | assumption | rfl)) (by first | omega | (simp only;omega) | (dsimp only;omega) | (show _ < _;simp;omega))
 ·exact ⟨_,j,g,_,⟨n,L,rfl,by omega,by omega,by omega⟩,.one (.ag (.cons (.im _) (.cons (.fr (by simp (maxSteps:=5000000) -dsimp only [gr,reduceEqDiff,reduceLT,reduceAdd,reduceMod,Nat.reduceBEq,zaa,zac,zad,zab,h0a,r1000000a,r1000500a,h2a,r2a,h3a,h4a,r4a,r90a,h5a,h6a] <;> rfl) (by decide)) .nil))),by simp,by simp (maxSteps:=5000000) -dsimp only [gr,reduceEqDiff,reduceLT,reduceAdd,reduceMod,Nat.reduceBEq,zaa,zac,zad,zab,h0a,r1000000a,r1000500a,h2a,r2a,h3a,h4a,r4a,r90a,h5a,h6a] <;> rfl,by simp (maxSteps:=5000000) -dsimp only [gr,reduceEqDiff,reduceLT,reduceAdd,reduceMod,Nat.reduceBEq,zaa,zac,zad,zab,h0a,r1000000a,r1000500a,h2a,r2a,h3a,h4a,r4a,r90a,h5a,h6a]⟩
theorem zf5 (bs:List Int) (hbs:bs.length ≤ 9223372036854775806):zuI Tryz.prog 93 TC bs ⟨0,.dead⟩ [] (kcx fun n xs=>0 ≤ n∧n ≤ 7∧xs.length ≤ 450):=by
 intro i h
 refine AG.go (rs:=[.cell 2 36]) zbg zay Tryz.func93 rfl rfl rfl (by kernel_rfl) fun hl _ s hs hR=>?_
 have e0:s.rw 1000000 = ⟨1,.box TC [.sl false 1 (kL .u8 bs),int i,int h]⟩:=by rw [hR];rfl
 have e1:s.rw 1000500 = ⟨0,.dead⟩:=by rw [hR];rfl
 have elo:∀ k,k < 1000000→s.rw k = ⟨0,.dead⟩:=fun k hk=>by rw [hR];exact zhM hk
 simp (maxSteps:=5000000) -dsimp only [↓gp,gq,reduceCtorEq,reduceEqDiff,reduceLT,reduceLeDiff,reduceAdd,reduceMul,reduceSub,Nat.reduceBEq,Int.reduceToNat,Int.reduceLE,Int.reduceLT,Int.reduceNeg,reduceMod,zac,zad,zab,zaa,gT,TK.isInt,TK.agg,Array.toList,hs,e0,elo]
 refine zaK (zlf bs hbs) .none (by simp (maxSteps:=5000000) -dsimp only [gr,reduceEqDiff,reduceLT,reduceAdd,reduceMod,Nat.reduceBEq,zaa,zac,zad,zab,e0,elo] <;> rfl) (GvL.one (zbN (by simp (maxSteps:=5000000) -dsimp only [gr,reduceEqDiff,reduceLT,reduceAdd,reduceMod,Nat.reduceBEq,zaa,zac,zad,zab,e0,elo] <;> rfl)) (by repeat (first | exact GvL.nil | refine GvL.one (GvA.v _) ?_ | refine GvL.one (GvA.sl _ _ _) ?_))) rfl (fun _ h=>by cases h) fun rv i1 g1 ⟨n,xs,hrv,hq⟩=>?_
 subst hrv
 obtain ⟨hn0,hn7,hxl⟩:=hq
 simp (maxSteps:=5000000) -dsimp only [↓gp,gq,reduceCtorEq,reduceEqDiff,reduceLT,reduceLeDiff,reduceAdd,reduceMul,reduceSub,Nat.reduceBEq,Int.reduceToNat,Int.reduceLE,Int.reduceLT,Int.reduceNeg,reduceMod,zac,zad,zab,zaa,gT,TK.isInt,TK.agg,Array.toList,hs,e0,elo]
 refine zaK (za0 bs hbs 14 (by decide)) .none (by simp (maxSteps:=5000000) -dsimp only [gr,reduceEqDiff,reduceLT,reduceAdd,reduceMod,Nat.reduceBEq,zaa,zac,zad,zab,e0,elo] <;> rfl) (GvL.one (zbN (by simp (maxSteps:=5000000) -dsimp only [gr,reduceEqDiff,reduceLT,reduceAdd,reduceMod,Nat.reduceBEq,zaa,zac,zad,zab,e0,elo] <;> rfl)) (by repeat (first | exact GvL.nil | refine GvL.one (GvA.v _) ?_ | refine GvL.one (GvA.sl _ _ _) ?_))) rfl (fun _ h=>by cases h) fun rv i2 g2 ⟨x,hrv,hx⟩=>?_
 subst hrv
 simp (maxSteps:=5000000) -dsimp only [↓gp,gq,reduceCtorEq,reduceEqDiff,reduceLT,reduceLeDiff,reduceAdd,reduceMul,reduceSub,Nat.reduceBEq,Int.reduceToNat,Int.reduceLE,Int.reduceLT,Int.reduceNeg,reduceMod,zac,zad,zab,zaa,gT,TK.isInt,TK.agg,Array.toList,hs,e0,elo]
 refine ⟨fun h0=>?_,fun h0=>⟨fun h1=>?_,fun h1=>?_⟩⟩
 ·refine zaK (zbU bs hbs [0,7,2] (by decide) (by decide)) (.some (j:=11) (by simp (maxSteps:=5000000) -dsimp only [gr,reduceEqDiff,reduceLT,reduceAdd,reduceMod,Nat.reduceBEq,zaa,zac,zad,zab,elo] <;> rfl) (zdF _)) (by simp (maxSteps:=5000000) -dsimp only [gr,reduceEqDiff,reduceLT,reduceAdd,reduceMod,Nat.reduceBEq,zaa,zac,zad,zab,e0] <;> rfl) (.one (zbN (by simp (maxSteps:=5000000) -dsimp only [gr,reduceEqDiff,reduceLT,reduceAdd,reduceMod,Nat.reduceBEq,zaa,zac,zad,zab,e0] <;> rfl)) (.one (zgq (by simp (maxSteps:=5000000) -dsimp only [gr,reduceEqDiff,reduceLT,reduceAdd,reduceMod,Nat.reduceBEq,zaa,zac,zad,zab,elo])) .nil)) rfl (fun j hj=>by cases hj;exact ⟨rfl,rfl⟩) fun rv i3 g3 ⟨m,hrv,hc⟩=>?_
  subst hrv
  have hm:0 ≤ m∧m ≤ 7:=by
   have hc:m ∈ [0,7,2]:=hc
   simp at hc;omega
  simp (maxSteps:=5000000) -dsimp only [↓gp,gq,reduceCtorEq,reduceEqDiff,reduceLT,reduceLeDiff,reduceAdd,reduceMul,reduceSub,Nat.reduceBEq,Int.reduceToNat,Int.reduceLE,Int.reduceLT,Int.reduceNeg,reduceMod,zac,zad,zab,zaa,gT,TK.isInt,TK.agg,Array.toList,e0,elo]
  exact ⟨_,i3,g3,_,⟨m,xs,rfl,hm.1,hm.2,by omega⟩,.one (.ag (.cons (.im _) (.cons (.fr (by simp (maxSteps:=5000000) -dsimp only [gr,reduceEqDiff,reduceLT,reduceAdd,reduceMod,Nat.reduceBEq,zaa,zac,zad,zab] <;> rfl) (by decide)) .nil))),by simp,by simp (maxSteps:=5000000) -dsimp only [gr,reduceEqDiff,reduceLT,reduceAdd,reduceMod,Nat.reduceBEq,zaa,zac,zad,zab] <;> rfl,by simp (maxSteps:=5000000) -dsimp only [gr,reduceEqDiff,reduceLT,reduceAdd,reduceMod,Nat.reduceBEq,zaa,zac,zad,zab,e1]⟩
 ·refine ⟨by kernel_rfl,zhN (zbL bs hbs 66 (by decide)) (zfm _) (i:=i2) (h:=g2) (by simp (maxSteps:=5000000) -dsimp only [gr,reduceEqDiff,reduceLT,reduceAdd,reduceMod,Nat.reduceBEq,zaa,zac,zad,zab] <;> rfl) rfl ?_⟩
  obtain ⟨y,j3,g3,hr,hy⟩:=zkO bs 66 i2 g2
  rw [hr]
  have hy66:0 ≤ y∧y < 66:=by obtain ⟨a,b⟩:=hy;omega
  have hw:IntKind.i64.wrap (y - 1) = y - 1:=zat (by omega) (by omega)
  simp (maxSteps:=5000000) -dsimp only [↓gp,gq,reduceCtorEq,reduceEqDiff,reduceLT,reduceLeDiff,reduceAdd,reduceMul,reduceSub,Nat.reduceBEq,Int.reduceToNat,Int.reduceLE,Int.reduceLT,Int.reduceNeg,reduceMod,zac,zad,zab,zaa,gT,TK.isInt,TK.agg,Array.toList,e0,elo,hw]
  refine ⟨by omega,by kernel_rfl,?_⟩
  exact ⟨_,j3,g3,_,⟨n,xs ++ [y - 1],rfl,hn0,hn7,by simp;omega⟩,.one (.ag (.cons (.im _) (.cons (.fr (by simp (maxSteps:=5000000) -dsimp only [gr,reduceEqDiff,reduceLT,reduceAdd,reduceMod,Nat.reduceBEq,zaa,zac,zad,zab] <;> rfl) (by decide)) .nil))),by simp,by simp (maxSteps:=5000000) -dsimp only [gr,reduceEqDiff,reduceLT,reduceAdd,reduceMod,Nat.reduceBEq,zaa,zac,zad,zab] <;> rfl,by simp (maxSteps:=5000000) -dsimp only [gr,reduceEqDiff,reduceLT,reduceAdd,reduceMod,Nat.reduceBEq,zaa,zac,zad,zab,e1]⟩
 ·exact ⟨_,i2,g2,_,⟨n,xs,rfl,hn0,hn7,by omega⟩,.one (.ag (.cons (.im _) (.cons (.fr (by simp (maxSteps:=5000000) -dsimp only [gr,reduceEqDiff,reduceLT,reduceAdd,reduceMod,Nat.reduceBEq,zaa,zac,zad,zab] <;> rfl) (by decide)) .nil))),by simp,by simp (maxSteps:=5000000) -dsimp only [gr,reduceEqDiff,reduceLT,reduceAdd,reduceMod,Nat.reduceBEq,zaa,zac,zad,zab] <;> rfl,by simp (maxSteps:=5000000) -dsimp only [gr,reduceEqDiff,reduceLT,reduceAdd,reduceMod,Nat.reduceBEq,zaa,zac,zad,zab,e1]⟩
end Go.Proofs.YtpnknaaehcljoaaGreat

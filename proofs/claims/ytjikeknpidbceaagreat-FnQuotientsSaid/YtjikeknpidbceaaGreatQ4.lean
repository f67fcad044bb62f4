/- DERIVED by an AI agent. -/
import Derived.Test.YtjikeknpidbceaaGreatQ3
import Derived.Test.YtjikeknpidbceaaGreatQ2
import Derived.Test.YtjikeknpidbceaaGreatP1
import Derived.Test.YtjikeknpidbceaaGreatQ1
import Derived.Test.YtjikeknpidbceaaGreatA12
import Derived.Test.YtjikeknpidbceaaGreatA13
namespace Go.Proofs.YtjikeknpidbceaaGreat
open Go.Abs
open Nat (reduceEqDiff reduceMod reduceAdd reduceLT reduceLeDiff reduceSub reduceMul)
set_option linter.unusedSimpArgs false
set_option linter.unusedVariables false
noncomputable def zh6 (n:Int) (xs:List Int) (s:Nat):Bool:=zdj n xs && (zbS n s && !zbe xs s)
noncomputable def zDE (n:Int) (xs:List Int):List Nat:=zg9 (zh6 n xs) false
theorem zzg {n:Int} {xs:List Int} {s:Nat} (h:zh6 n xs s = true):s < 64:=by
 unfold zh6 at h
 simp only [Bool.and_eq_true] at h
 have:=zcZ h.2.1
 omega
theorem zBa (n:Int) (xs:List Int):inF (ofN ((List.range 64).filter (zh6 n xs))) = zh6 n xs:=by
 funext s
 rw [zmX]
 refine Bool.eq_iff_iff.2 ?_
 rw [decide_eq_true_iff,List.mem_filter,List.mem_range]
 exact ⟨fun h=>h.2,fun h=>⟨zzg h,h⟩⟩
theorem zzh {n:Int} {xs:List Int} (h:zdj n xs = false) (s:Nat):zh6 n xs s = false:=by unfold zh6;rw [h];rfl
theorem zBb (n:Int) (xs:List Int):(zDE n xs).length ≤ 448:=zug _ _
theorem zgM (n:Int) (xs:List Int):AC Tryz.prog 47 [.ag [int n,zaI xs]] (.fr 3 1 (iL (ofN (zDE n xs)))):=by
 refine AC.go (rs:=[.tmp 2]) zaQ zar Tryz.func47 rfl rfl rfl (by kernel_rfl) fun hl=>?_
 simp (maxSteps:=5000000) -dsimp only [↓gp,gq,reduceCtorEq,reduceEqDiff,reduceLT,reduceLeDiff,reduceAdd,reduceMul,reduceSub,Nat.reduceBEq,Int.reduceToNat,Int.reduceLE,Int.reduceLT,Int.reduceNeg,reduceMod,zac,zad,zab,zaa,gT,TK.isInt,TK.agg,Array.toList]
 refine zam (fun (za:Nat × Nat) s=>match za with | (t,v)=>s.sl 1 = .ref 1 1 0∧s.rw 1 = ⟨1,.box 36 [int n,zaI xs]⟩∧s.sl 3 = .own 5 v∧s.rw 5 = ⟨v,.sli 3 1 false (iL (ofN ((List.range t).filter (zh6 n xs))))⟩∧s.sl 4 = int t∧(t ≤ 64)) (fun (t,v)=>64 - t) ((0,1)) (by refine ⟨?_,?_,?_,?_,?_,by simp⟩ <;> (first | (simp (maxSteps:=5000000) -dsimp only [gr,reduceEqDiff,reduceLT,reduceAdd,reduceMod,Nat.reduceBEq,zaa,zac,zad,zab];first | done | rfl | (simp;done)) | assumption | rfl)) ?_
 intro (t,v) sa ⟨h1a,r1a,h3a,r5a,h4a,hIa⟩
 have hfl:((List.range t).filter (zh6 n xs)).length ≤ 64:=by
  have:=List.length_filter_le (zh6 n xs) (List.range t)
  rw [List.length_range] at this
  omega
 have hend:(t = 64 ∨ zdj n xs = false)→inF (ofN ((List.range t).filter (zh6 n xs))) = zh6 n xs:=fun h=>by
  rcases h with rfl | h
  ·exact zBa n xs
  ·funext i
   rw [zmX,zzh h]
   exact decide_eq_false fun hm=>by rw [List.mem_filter,zzh h] at hm;cases hm.2
 have hext:(t = 64 ∨ zdj n xs = false)→AC Tryz.prog 68 [zaI (ofN ((List.range t).filter (zh6 n xs))),bool false] (.fr 3 1 (iL (ofN (zDE n xs)))):=fun h=>by
  have:=zcP false _ (zub (l:=(List.range t).filter (zh6 n xs)) fun i hi=>zzg (List.mem_filter.1 hi).2)
  rwa [hend h] at this
 simp (maxSteps:=5000000) -dsimp only [↓gp,gq,reduceCtorEq,reduceEqDiff,reduceLT,reduceLeDiff,reduceAdd,reduceMul,reduceSub,Nat.reduceBEq,Int.reduceToNat,Int.reduceLE,Int.reduceLT,Int.reduceNeg,reduceMod,zac,zad,zab,zaa,gT,TK.isInt,TK.agg,Array.toList,h1a,r1a,h3a,r5a,h4a]
 refine ⟨fun h=>zaf (zbl n xs) ?_,fun h=>zaf (hext (.inl (by omega))) ?_⟩
 ·simp (maxSteps:=5000000) -dsimp only [↓gp,gq,reduceCtorEq,reduceEqDiff,reduceLT,reduceLeDiff,reduceAdd,reduceMul,reduceSub,Nat.reduceBEq,Int.reduceToNat,Int.reduceLE,Int.reduceLT,Int.reduceNeg,reduceMod,zac,zad,zab,zaa,gT,TK.isInt,TK.agg,Array.toList,h1a,r1a,h3a,r5a,h4a]
  refine ⟨fun hc=>zaf (zet _ _) ?_,fun hc=>zaf (hext (.inr hc)) ?_⟩
  ·have hx:=zkF hc
   have h:t < 64:=by omega
   have hms:zh6 n xs t = (zbS n t && !zbe xs t):=by unfold zh6;rw [hc];rfl
   have hyes:zh6 n xs t = true→ofN ((List.range (t + 1)).filter (zh6 n xs)) = ofN ((List.range t).filter (zh6 n xs)) ++ [(t:Int)]:=fun h=>by
    rw [List.range_succ,List.filter_append,za2]
    simp [h,ofN]
   have hno:zh6 n xs t = false→ofN ((List.range (t + 1)).filter (zh6 n xs)) = ofN ((List.range t).filter (zh6 n xs)):=fun h=>by
    rw [List.range_succ,List.filter_append,za2]
    simp [h,ofN]
   simp (maxSteps:=5000000) -dsimp only [↓gp,gq,reduceCtorEq,reduceEqDiff,reduceLT,reduceLeDiff,reduceAdd,reduceMul,reduceSub,Nat.reduceBEq,Int.reduceToNat,Int.reduceLE,Int.reduceLT,Int.reduceNeg,reduceMod,zac,zad,zab,zaa,gT,TK.isInt,TK.agg,Array.toList,h1a,r1a,h3a,r5a,h4a]
   refine ⟨fun hs=>zaf (zhR n xs t hx h) ?_,fun hs=>?_⟩
   ·simp (maxSteps:=5000000) -dsimp only [↓gp,gq,reduceCtorEq,reduceEqDiff,reduceLT,reduceLeDiff,reduceAdd,reduceMul,reduceSub,Nat.reduceBEq,Int.reduceToNat,Int.reduceLE,Int.reduceLT,Int.reduceNeg,reduceMod,zac,zad,zab,zaa,gT,TK.isInt,TK.agg,Array.toList,h1a,r1a,h3a,r5a,h4a]
    refine ⟨fun hf=>?_,fun hf=>?_⟩
    ·have e:=hyes (by rw [hms,hs,hf];rfl)
     refine ⟨by rw [zaq];omega,zah ((t + 1,v + 1)) (by refine ⟨?_,?_,?_,?_,?_,by dsimp only;omega⟩ <;> (first | (simp (maxSteps:=5000000) -dsimp only [gr,reduceEqDiff,reduceLT,reduceAdd,reduceMod,Nat.reduceBEq,zaa,zac,zad,zab,h1a,r1a,h3a,r5a,h4a,zae h (by omega),e];first | done | rfl | (simp;done)) | assumption | rfl)) (by first | omega | (simp only;omega) | (dsimp only;omega) | (show _ < _;simp;omega))⟩
    ·have e:=hno (by rw [hms,hf];simp)
     exact zah ((t + 1,v)) (by refine ⟨?_,?_,?_,?_,?_,by dsimp only;omega⟩ <;> (first | (simp (maxSteps:=5000000) -dsimp only [gr,reduceEqDiff,reduceLT,reduceAdd,reduceMod,Nat.reduceBEq,zaa,zac,zad,zab,h1a,r1a,h3a,r5a,h4a,zae h (by omega),e];first | done | rfl | (simp;done)) | assumption | rfl)) (by first | omega | (simp only;omega) | (dsimp only;omega) | (show _ < _;simp;omega))
   ·have e:=hno (by rw [hms,hs];rfl)
    exact zah ((t + 1,v)) (by refine ⟨?_,?_,?_,?_,?_,by dsimp only;omega⟩ <;> (first | (simp (maxSteps:=5000000) -dsimp only [gr,reduceEqDiff,reduceLT,reduceAdd,reduceMod,Nat.reduceBEq,zaa,zac,zad,zab,h1a,r1a,h3a,r5a,h4a,zae h (by omega),e];first | done | rfl | (simp;done)) | assumption | rfl)) (by first | omega | (simp only;omega) | (dsimp only;omega) | (show _ < _;simp;omega))
  ·simp (maxSteps:=5000000) -dsimp only [↓gp,gq,reduceCtorEq,reduceEqDiff,reduceLT,reduceLeDiff,reduceAdd,reduceMul,reduceSub,Nat.reduceBEq,Int.reduceToNat,Int.reduceLE,Int.reduceLT,Int.reduceNeg,reduceMod,zac,zad,zab,zaa,gT,TK.isInt,TK.agg,Array.toList,h1a,r1a,h3a,r5a,h4a]
 ·simp (maxSteps:=5000000) -dsimp only [↓gp,gq,reduceCtorEq,reduceEqDiff,reduceLT,reduceLeDiff,reduceAdd,reduceMul,reduceSub,Nat.reduceBEq,Int.reduceToNat,Int.reduceLE,Int.reduceLT,Int.reduceNeg,reduceMod,zac,zad,zab,zaa,gT,TK.isInt,TK.agg,Array.toList,h1a,r1a,h3a,r5a,h4a]
theorem zrp {xs:List Int} (hx:okS xs) {w:Nat} (hw:w < 64) (s:Nat):inF (xs.map fun x=>zcS .i64 x (w:Int)) s = true ↔ ∃ x ∈ xs,x.toNat &&& w = s:=by
 unfold inF
 rw [decide_eq_true_iff,List.mem_map]
 have key:∀ x ∈ xs,zcS .i64 x (w:Int) = ((x.toNat &&& w:Nat):Int):=fun x h=>by
  have:=hx x h
  rw [← za8 (by omega) (by omega)]
  congr 1;omega
 exact ⟨fun ⟨x,h1,h2⟩=>⟨x,h1,by rw [key x h1] at h2;omega⟩,fun ⟨x,h1,h2⟩=>⟨x,h1,by rw [key x h1,h2]⟩⟩
noncomputable def zDF (xs:List Int) (w:Nat):List Int:=ofN (zg9 (inF (xs.map fun x=>zcS .i64 x (w:Int))) true)
theorem zzi {xs:List Int} (hx:okS xs) {w:Nat} (hw:w < 64) {t:Nat} (ht:t < 64):zbe (zDF xs w) t = zbv (zbe xs) w t:=by
 unfold zDF zbv
 rw [zpZ]
 refine Bool.eq_iff_iff.2 ⟨fun h=>?_,fun h=>?_⟩
 ·obtain ⟨s,hs,h2⟩:=List.any_eq_true.1 h
  simp only [Bool.and_eq_true,beq_iff_eq] at h2
  obtain ⟨x,hx1,hx2⟩:=(zrp hx hw s).1 h2.1
  have e1:t &&& s = t:=by rw [Nat.and_comm];exact h2.2
  have e2:s &&& x.toNat = s:=by rw [← hx2,Nat.and_comm,← Nat.and_assoc,Nat.and_self]
  have e3:s &&& w = s:=by rw [← hx2,Nat.and_assoc,Nat.and_self]
  rw [Bool.and_eq_true]
  refine ⟨zgL.2 ⟨x,hx1,by rw [Nat.and_comm];exact zgE e1 e2⟩,?_⟩
  rw [beq_iff_eq,Nat.and_comm];exact zgE e1 e3
 ·rw [Bool.and_eq_true,beq_iff_eq] at h
  obtain ⟨x,hx1,hx2⟩:=zgL.1 h.1
  have hlt:x.toNat &&& w < 64:=by
   have:x.toNat &&& w ≤ w:=Nat.and_le_right
   omega
  refine List.any_eq_true.2 ⟨x.toNat &&& w,List.mem_range.2 hlt,?_⟩
  rw [Bool.and_eq_true,beq_iff_eq]
  exact ⟨(zrp hx hw _).2 ⟨x,hx1,rfl⟩,by rw [Nat.and_assoc,h.2,hx2]⟩
theorem zFg {n:Int} {xs:List Int} (h:zdj n xs = true) {w:Nat} (hw:w < 64):zdj n (zDF xs w) = true:=by
 have hx:=zkF h
 obtain ⟨h1,h6,hk⟩:=zaS.1 h
 refine zdx ⟨h1,h6,fun k hk2=>?_⟩
 unfold zDF at hk2 ⊢
 rw [zaq] at hk2
 have hpw:=zrl (inF (xs.map fun x=>zcS .i64 x (w:Int))) true
 have hmem:=fun i (hi:i < (zg9 (inF (xs.map fun x=>zcS .i64 x (w:Int))) true).length)=>zc1.1 (zaz 0 hi)
 have hin:=fun i (hi:i < (zg9 (inF (xs.map fun x=>zcS .i64 x (w:Int))) true).length)=>(zrp hx hw _).1 (hmem i hi).1.2
 generalize zg9 (inF (xs.map fun x=>zcS .i64 x (w:Int))) true = ys at *
 have hbef:∀ i j,i < j→j < ys.length→zt4 (ys.getD i 0) (ys.getD j 0):=fun i j hij hj=>by
  have:=List.pairwise_iff_getElem.1 hpw i j (by omega) hj hij
  have a:ys.getD i 0 = ys[i]'(by omega):=by simp [List.getD,show i < ys.length by omega]
  have b:ys.getD j 0 = ys[j]:=by simp [List.getD,hj]
  rw [a,b];exact this
 refine ⟨?_,fun h0=>?_,fun i hi=>?_⟩
 ·obtain ⟨x,hx1,hx2⟩:=hin k hk2
  rw [zbg hk2]
  obtain ⟨i,hi,rfl⟩:=zaY 0 hx1
  have:=(hk i hi).1
  unfold zbS at this ⊢
  rw [decide_eq_true_iff] at this ⊢
  have hle:ys.getD k 0 ≤ (xs.getD i 0).toNat:=by rw [← hx2];exact Nat.and_le_left
  refine ⟨by omega,by omega,by omega,?_⟩
  omega
 ·rw [zbg hk2,zbg (by omega)]
  have hb:=hbef (k - 1) k (by omega) hk2
  have:=(hmem k hk2).1.1
  have:=(hmem (k - 1) (by omega)).1.1
  unfold zkw
  unfold zt4 at hb
  rw [zgG (by omega),zgG (by omega)]
  simp only [Bool.and_eq_true,decide_eq_true_iff]
  refine ⟨by omega,by omega,?_⟩
  split
  ·rw [decide_eq_true_iff];omega
  ·rw [decide_eq_true_iff];omega
 ·have hlti:=(hmem i (by omega)).1.1
  have hltk:=(hmem k hk2).1
  rw [zbg hk2,zbg (by omega),za8 (by omega) (by omega)]
  intro e
  have:=zcJ.1 (hmem i (by omega)).2 (ys.getD k 0) hltk.1 hltk.2 (by omega)
  have hb:=hbef i k hi hk2
  rw [this] at hb
  exact zfR hb
theorem zFh {n:Int} {xs:List Int} (h:zdj n xs = true):xs.length ≤ 64:=by
 have hn:=zdv (zaS.1 h)
 have hx:=zkF h
 have h2:(xs.map Int.toNat).Nodup:=by
  refine List.Pairwise.map _ (fun a b=>?_) (List.Pairwise.imp_of_mem (S:=fun a b=>0 ≤ a∧0 ≤ b∧a ≠ b) (fun ha hb hab=>⟨(hx _ ha).1,(hx _ hb).1,hab⟩) hn)
  intro ⟨q1,q2,q3⟩ e
  omega
 refine Classical.byContradiction fun hc=>?_
 have:=(zfT (m:=List.range 64) h2 (fun x hx'=>?_) (by simp;omega)).length_eq
 ·simp at this;omega
 ·obtain ⟨y,hy,rfl⟩:=List.mem_map.1 hx'
  have:=hx y hy
  exact List.mem_range.2 (by omega)
theorem zBc {n:Int} {xs:List Int} (h:zdj n xs = true) {w:Nat} (hw:w < 64) (t:Nat) (ht:t < 64):zcT n (zDF xs w) t = zbv (zbe xs) w t:=by
 unfold zcT
 rw [zFg h hw,zzi (zkF h) hw ht];rfl
theorem zDG {n:Int} {xs:List Int} (h:zdj n xs = true) {w:Nat} (hw:w < 64) {p:Int} (hp:isP p = true):zFP (zcT n (zDF xs w)) p = zh4 (zbv (zbe xs) w) p:=by
 unfold zFP
 rw [if_pos hp]
 exact zmc p fun s hs=>zBc h hw s hs
theorem zCx {m:Nat} (h1:1 ≤ m) (hm:m ≤ 6) {f:Nat→Bool} (hf:∀ s,s < 64→f s = true→s < 2 ^ m):zdj (m:Int) (ofN (zg9 f true)) = true:=by
 refine zdx ⟨(by omega:(1:Int) ≤ (m:Int)),(by omega:(m:Int) ≤ 6),fun k hk2=>?_⟩
 rw [zaq] at hk2
 have hpw:=zrl f true
 have hmem:=fun i (hi:i < (zg9 f true).length)=>zc1.1 (zaz 0 hi)
 generalize zg9 f true = ys at *
 have hbef:∀ i j,i < j→j < ys.length→zt4 (ys.getD i 0) (ys.getD j 0):=fun i j hij hj=>by
  have:=List.pairwise_iff_getElem.1 hpw i j (by omega) hj hij
  have a:ys.getD i 0 = ys[i]'(by omega):=by simp [List.getD,show i < ys.length by omega]
  have b:ys.getD j 0 = ys[j]:=by simp [List.getD,hj]
  rw [a,b];exact this
 refine ⟨?_,fun h0=>?_,fun i hi=>?_⟩
 ·have h1:=hmem k hk2
  have h2:=hf _ h1.1.1 h1.1.2
  rw [zbg hk2]
  unfold zbS
  rw [decide_eq_true_iff]
  refine ⟨by omega,by omega,by omega,?_⟩
  rw [zbW];exact_mod_cast h2
 ·rw [zbg hk2,zbg (by omega)]
  have hb:=hbef (k - 1) k (by omega) hk2
  have:=(hmem k hk2).1.1
  have:=(hmem (k - 1) (by omega)).1.1
  unfold zkw
  unfold zt4 at hb
  rw [zgG (by omega),zgG (by omega)]
  simp only [Bool.and_eq_true,decide_eq_true_iff]
  refine ⟨by omega,by omega,?_⟩
  split
  ·rw [decide_eq_true_iff];omega
  ·rw [decide_eq_true_iff];omega
 ·have hlti:=(hmem i (by omega)).1.1
  have hltk:=(hmem k hk2).1
  rw [zbg hk2,zbg (by omega),za8 (by omega) (by omega)]
  intro e
  have:=zcJ.1 (hmem i (by omega)).2 (ys.getD k 0) hltk.1 hltk.2 (by omega)
  have hb:=hbef i k hi hk2
  rw [this] at hb
  exact zfR hb
theorem zp4 (xs:List Int) (t:Nat):inF xs t = decide ((t:Int) ∈ xs):=rfl
noncomputable def zEi (n:Int) (xs:List Int):List Int:=(ofN (zDE n xs)).map (zca n)
noncomputable def zz3 (n:Int) (xs:List Int):List Int:=ofN (zg9 (inF (zEi n xs)) true)
theorem zzf {m:Nat} {xs:List Int} (h:zdj (m:Int) xs = true) (t:Nat) :
 (t:Int) ∈ zEi m xs ↔ ∃ u,u < 2 ^ m∧zbe xs u = false∧(∀ v,v < 2 ^ m→zbe xs v = false→v &&& u = v→v = u)∧t = 2 ^ m - 1 - u:=by
 obtain ⟨h1,h6,_⟩:=zaS.1 h
 have h64:=zaO (m:=m) (by omega)
 have hms:∀ s:Nat,zh6 m xs s = true ↔ s < 2 ^ m∧zbe xs s = false:=fun s=>by
  unfold zh6 zbS
  rw [h,Bool.true_and,Bool.and_eq_true,decide_eq_true_iff,Bool.not_eq_true',zbW]
  exact ⟨fun ⟨⟨_,_,_,a⟩,b⟩=>⟨by omega,b⟩,fun ⟨a,b⟩=>⟨⟨by omega,by omega,by omega,by omega⟩,b⟩⟩
 have hcm:∀ s:Nat,s < 2 ^ m→zca m s = ((2 ^ m - 1 - s:Nat):Int):=fun s hs=>by
  have hin:zbS m s = true:=by
   unfold zbS;rw [decide_eq_true_iff,zbW];exact ⟨by omega,by omega,by omega,by omega⟩
  unfold zca
  rw [if_pos hin,zbW];omega
 unfold zEi
 rw [List.mem_map]
 refine ⟨fun ⟨x,hx,e⟩=>?_,fun ⟨u,hu,hfu,hmin,e⟩=>?_⟩
 ·unfold ofN at hx
  obtain ⟨s,hs,rfl⟩:=List.mem_map.1 hx
  obtain ⟨⟨s1,s2⟩,s3⟩:=zc1.1 hs
  obtain ⟨a,b⟩:=(hms s).1 s2
  rw [hcm s a] at e
  exact ⟨s,a,b,fun v hv hfv hvu=>zmQ.1 s3 v (by omega) ((hms v).2 ⟨hv,hfv⟩) hvu,by omega⟩
 ·refine ⟨u,?_,by rw [hcm u hu,e]⟩
  unfold ofN
  refine List.mem_map.2 ⟨u,zc1.2 ⟨⟨by omega,(hms u).2 ⟨hu,hfu⟩⟩,zmQ.2 fun v hv hq hvu=>?_⟩,rfl⟩
  obtain ⟨a,b⟩:=(hms v).1 hq
  exact hmin v a b hvu
theorem zCy {m:Nat} {xs:List Int} (h:zdj (m:Int) xs = true):zdj (m:Int) (zz3 m xs) = true:=by
 obtain ⟨h1,h6,_⟩:=zaS.1 h
 refine zCx (by omega) (by omega) fun s hs hf=>?_
 rw [zp4,decide_eq_true_iff] at hf
 obtain ⟨u,hu,_,_,rfl⟩:=(zzf h s).1 hf
 omega
theorem zzj {l:List Nat} (h:l.Pairwise zt4):l.Nodup:=h.imp fun {a b} hab e=>by subst e;exact zfR hab
theorem zDH {a b:List Nat} (ha:a.Pairwise zt4) (hb:b.Pairwise zt4) (h:∀ s,s ∈ a ↔ s ∈ b):a = b :=
 List.Perm.eq_of_pairwise (fun x y _ _ h1 h2=>by unfold zt4 at h1 h2;omega) ha hb ((List.perm_ext_iff_of_nodup (zzj ha) (zzj hb)).2 h)
theorem zF9 {n:Int} {xs:List Int} (h:zdj n xs = true):xs = ofN (zg9 (zbe xs) true):=by
 have hp:=zaS.1 h
 have hok:=zkF h
 have e0:ofN (xs.map Int.toNat) = xs:=by
  unfold ofN
  rw [List.map_map]
  have:∀ x ∈ xs,((fun s:Nat=>(s:Int)) ∘ Int.toNat) x = id x:=fun x hx=>by
   have:=hok x hx
   show ((x.toNat:Nat):Int) = x
   omega
  rw [List.map_congr_left this,List.map_id]
 have hpw:(xs.map Int.toNat).Pairwise zt4:=by
  refine List.pairwise_iff_getElem.2 fun i j hi hj hij=>?_
  have hi':i < xs.length:=by simpa using hi
  have hj':j < xs.length:=by simpa using hj
  have hs:=zgI hp j i hij hj'
  rw [zbL 0 hi',zbL 0 hj'] at hs
  have a:=hok _ (List.getElem_mem hi')
  have b:=hok _ (List.getElem_mem hj')
  rw [List.getElem_map,List.getElem_map]
  generalize xs[i] = x at *
  generalize xs[j] = y at *
  unfold zkw at hs
  rw [zbZ a,zbZ b] at hs
  simp only [Bool.and_eq_true,decide_eq_true_iff] at hs
  obtain ⟨_,_,hs⟩:=hs
  unfold zt4
  split at hs
  ·rw [decide_eq_true_iff] at hs;omega
  ·rw [decide_eq_true_iff] at hs;omega
 have key:xs.map Int.toNat = zg9 (zbe xs) true:=by
  refine zDH hpw (zrl _ _) fun s=>?_
  rw [zc1]
  have hfb:∀ t,zbe xs t = true ↔ ∃ x ∈ xs,x.toNat &&& t = t:=fun t=>by
   unfold zbe;rw [List.any_eq_true]
   exact ⟨fun ⟨x,h1,h2⟩=>⟨x,h1,by simpa using h2⟩,fun ⟨x,h1,h2⟩=>⟨x,h1,by simpa using h2⟩⟩
  have hinc:∀ x ∈ xs,∀ y ∈ xs,x.toNat &&& y.toNat = x.toNat→x = y:=fun x hx y hy hxy=>by
   obtain ⟨i,hi,rfl⟩:=zaY 0 hx
   obtain ⟨j,hj,rfl⟩:=zaY 0 hy
   rcases Nat.lt_trichotomy i j with hij | hij | hij
   ·have:=(hp.2.2 j hj).2.2 i hij
    have a:=hok _ (zaz 0 hi)
    have b:=hok _ (zaz 0 hj)
    refine absurd ?_ this
    have e1:xs.getD i 0 = (((xs.getD i 0).toNat:Nat):Int):=by omega
    have e2:xs.getD j 0 = (((xs.getD j 0).toNat:Nat):Int):=by omega
    rw [e1,e2,za8 (by omega) (by omega),hxy]
   ·rw [hij]
   ·have hs:=zgI hp i j hij hi
    have a:=hok _ (zaz 0 hi)
    have b:=hok _ (zaz 0 hj)
    by_cases hne:xs.getD i 0 = xs.getD j 0
    ·exact hne
    ·have:=zmR (s:=(xs.getD j 0).toNat) (t:=(xs.getD i 0).toNat) (by omega) (by omega) hxy (by omega)
     unfold zkw at hs
     rw [zbZ a,zbZ b] at hs
     simp only [Bool.and_eq_true,decide_eq_true_iff] at hs
     obtain ⟨_,_,hs⟩:=hs
     split at hs
     ·rw [decide_eq_true_iff] at hs;omega
     ·rw [decide_eq_true_iff] at hs;omega
  constructor
  ·intro hs
   obtain ⟨x,hx,rfl⟩:=List.mem_map.1 hs
   have a:=hok x hx
   refine ⟨⟨by omega,(hfb _).2 ⟨x,hx,Nat.and_self _⟩⟩,zcJ.2 fun t ht hft hxt=>?_⟩
   obtain ⟨y,hy,hyt⟩:=(hfb t).1 hft
   have hxy:x.toNat &&& y.toNat = x.toNat:=by
    rw [← hxt,Nat.and_assoc,Nat.and_comm t,hyt]
   have:=hinc x hx y hy hxy
   subst this
   exact hyt.symm.trans hxt
  ·rintro ⟨⟨h64,hf⟩,he⟩
   obtain ⟨y,hy,hys⟩:=(hfb s).1 hf
   have b:=hok y hy
   have:=zcJ.1 he y.toNat (by omega) ((hfb _).2 ⟨y,hy,Nat.and_self _⟩) (by rw [Nat.and_comm];exact hys)
   rw [← this];exact List.mem_map.2 ⟨y,hy,rfl⟩
 rw [← key,e0]
def znk (list:List Int) (k:Nat):Int:=zdN (list.take k) (list.getD k 0)
noncomputable def zqg (n:Int) (xs list:List Int):List Int:=if zhS n xs list = true then (List.range list.length).map (znk list) else []
theorem zzI {n:Int} {xs list:List Int} {b:Nat} (h:list.length ≤ b):(zqg n xs list).length ≤ b:=by
 unfold zqg;split <;> simp [h]
theorem zhk {f:Nat→Int} (k:Nat):(List.range k).map f ++ [f k] = (List.range (k + 1)).map f:=by
 rw [List.range_succ,List.map_append];rfl
theorem zdl (n:Int) (xs list:List Int) (hx:list.length ≤ 1048576):AC Tryz.prog 17 [.ag [int n,zaI xs],zaI list] (.fr 3 1 (iL (zqg n xs list))):=by
 refine AC.go (rs:=[.tmp 4]) zaQ zar Tryz.func17 rfl rfl rfl (by kernel_rfl) fun hl=>?_
 simp only [zav,zaC,and_true,zaT,zby,za5,zaL,true_and] at hl
 simp (maxSteps:=5000000) -dsimp only [↓gp,gq,reduceCtorEq,reduceEqDiff,reduceLT,reduceLeDiff,reduceAdd,reduceMul,reduceSub,Nat.reduceBEq,Int.reduceToNat,Int.reduceLE,Int.reduceLT,Int.reduceNeg,reduceMod,zac,zad,zab,zaa,gT,TK.isInt,TK.agg,Array.toList]
 refine zam (fun (za:Nat × Nat) s=>match za with | (k,v)=>s.sl 1 = zaI list∧s.sl 2 = .ref 2 1 0∧s.rw 2 = ⟨1,.box 26 [int n,zaI xs]⟩∧s.sl 5 = .own 7 v∧s.rw 7 = ⟨v,.sli 3 1 false (iL ((List.range k).map (znk list)))⟩∧s.sl 6 = int k∧(k ≤ list.length∧(0 < k→zhS n xs list = true))) (fun (k,v)=>list.length - k) ((0,1)) (by refine ⟨?_,?_,?_,?_,?_,?_,by simp⟩ <;> (first | (simp (maxSteps:=5000000) -dsimp only [gr,reduceEqDiff,reduceLT,reduceAdd,reduceMod,Nat.reduceBEq,zaa,zac,zad,zab];first | done | rfl | (simp;done)) | assumption | rfl)) ?_
 intro (k,v) sa ⟨h1a,h2a,r2a,h5a,r7a,h6a,hIa⟩
 obtain ⟨hk,hall⟩:=hIa
 simp (maxSteps:=5000000) -dsimp only [↓gp,gq,reduceCtorEq,reduceEqDiff,reduceLT,reduceLeDiff,reduceAdd,reduceMul,reduceSub,Nat.reduceBEq,Int.reduceToNat,Int.reduceLE,Int.reduceLT,Int.reduceNeg,reduceMod,zac,zad,zab,zaa,gT,TK.isInt,TK.agg,Array.toList,h1a,h2a,r2a,h5a,r7a,h6a]
 refine ⟨fun h=>zaf (zbO n xs list) ?_,fun h=>?_⟩
 ·simp (maxSteps:=5000000) -dsimp only [↓gp,gq,reduceCtorEq,reduceEqDiff,reduceLT,reduceLeDiff,reduceAdd,reduceMul,reduceSub,Nat.reduceBEq,Int.reduceToNat,Int.reduceLE,Int.reduceLT,Int.reduceNeg,reduceMod,zac,zad,zab,zaa,gT,TK.isInt,TK.agg,Array.toList,h1a,h2a,r2a,h5a,r7a,h6a]
  refine ⟨fun ho=>?_,fun ho=>?_⟩
  ·have hok:=zjY (zea ho)
   refine ⟨by kernel_rfl,by omega,h,h,zaf (zek _ _ (ze7 hok k) (zdg hok h)) ?_⟩
   simp (maxSteps:=5000000) -dsimp only [↓gp,gq,reduceCtorEq,reduceEqDiff,reduceLT,reduceLeDiff,reduceAdd,reduceMul,reduceSub,Nat.reduceBEq,Int.reduceToNat,Int.reduceLE,Int.reduceLT,Int.reduceNeg,reduceMod,zac,zad,zab,zaa,gT,TK.isInt,TK.agg,Array.toList,h1a,h2a,r2a,h5a,r7a,h6a]
   refine ⟨by simp;omega,by kernel_rfl,?_⟩
   exact zah ((k + 1,v + 1)) (by refine ⟨?_,?_,?_,?_,?_,?_,⟨by omega,fun _=>ho⟩⟩ <;> (first | (simp (maxSteps:=5000000) -dsimp only [gr,reduceEqDiff,reduceLT,reduceAdd,reduceMod,Nat.reduceBEq,zaa,zac,zad,zab,h1a,h2a,r2a,h5a,r7a,h6a,zae h hl.2,← zhk,znk];first | done | rfl | (simp;done)) | assumption | rfl)) (by first | omega | (simp only;omega) | (dsimp only;omega) | (show _ < _;simp;omega))
  ·have:k = 0:=by
    rcases Nat.eq_zero_or_pos k with h | h
    ·exact h
    ·rw [hall h] at ho;cases ho
   subst this
   simp [zqg,ho]
 ·obtain rfl:k = list.length:=by omega
  congr 1
  unfold zqg
  rcases Nat.eq_zero_or_pos list.length with h0 | h0
  ·rw [h0];simp
  ·rw [if_pos (hall h0)]
theorem zdm (n:Int) (xs list:List Int) (hx:list.length ≤ 1048576):AC Tryz.prog 9 [.ag [int n,zaI xs],zaI list] (.fr 3 1 (iL (zqg n xs list))):=by
 refine AC.go (rs:=[.tmp 4]) zaQ zar Tryz.func9 rfl rfl rfl (by kernel_rfl) fun hl=>?_
 simp only [zav,zaC,and_true,zaT,zby,za5,zaL,true_and] at hl
 simp (maxSteps:=5000000) -dsimp only [↓gp,gq,reduceCtorEq,reduceEqDiff,reduceLT,reduceLeDiff,reduceAdd,reduceMul,reduceSub,Nat.reduceBEq,Int.reduceToNat,Int.reduceLE,Int.reduceLT,Int.reduceNeg,reduceMod,zac,zad,zab,zaa,gT,TK.isInt,TK.agg,Array.toList]
 refine zaf (zaJ n xs list) ?_
 simp (maxSteps:=5000000) -dsimp only [↓gp,gq,reduceCtorEq,reduceEqDiff,reduceLT,reduceLeDiff,reduceAdd,reduceMul,reduceSub,Nat.reduceBEq,Int.reduceToNat,Int.reduceLE,Int.reduceLT,Int.reduceNeg,reduceMod,zac,zad,zab,zaa,gT,TK.isInt,TK.agg,Array.toList]
 refine ⟨fun ho=>?_,fun ho=>?_⟩
 ·have ho:zhS n xs list = false:=by rwa [Bool.not_eq_true'] at ho
  simp [zqg,ho,iL]
 ·have ho:zhS n xs list = true:=by rwa [Bool.not_eq_false'] at ho
  refine zam (fun (za:Nat × Nat) s=>match za with | (k,v)=>s.sl 1 = zaI list∧s.sl 5 = .own 5 v∧s.rw 5 = ⟨v,.sli 3 1 false (iL ((List.range k).map (znk list)))⟩∧s.sl 12 = zaI list∧s.sl 13 = int list.length∧s.sl 14 = int k∧(k ≤ list.length)) (fun (k,v)=>list.length - k) ((0,1)) (by refine ⟨?_,?_,?_,?_,?_,?_,by simp⟩ <;> (first | (simp (maxSteps:=5000000) -dsimp only [gr,reduceEqDiff,reduceLT,reduceAdd,reduceMod,Nat.reduceBEq,zaa,zac,zad,zab];first | done | rfl | (simp;done)) | assumption | rfl)) ?_
  intro (k,v) sa ⟨h1a,h5a,r5a,h12a,h13a,h14a,hIa⟩
  simp (maxSteps:=5000000) -dsimp only [↓gp,gq,reduceCtorEq,reduceEqDiff,reduceLT,reduceLeDiff,reduceAdd,reduceMul,reduceSub,Nat.reduceBEq,Int.reduceToNat,Int.reduceLE,Int.reduceLT,Int.reduceNeg,reduceMod,zac,zad,zab,zaa,gT,TK.isInt,TK.agg,Array.toList,h1a,h5a,r5a,h12a,h13a,h14a]
  refine ⟨fun h=>⟨h,h,by omega,zaf (zeR _ _) ?_⟩,fun h=>?_⟩
  ·simp (maxSteps:=5000000) -dsimp only [↓gp,gq,reduceCtorEq,reduceEqDiff,reduceLT,reduceLeDiff,reduceAdd,reduceMul,reduceSub,Nat.reduceBEq,Int.reduceToNat,Int.reduceLE,Int.reduceLT,Int.reduceNeg,reduceMod,zac,zad,zab,zaa,gT,TK.isInt,TK.agg,Array.toList,h1a,h5a,r5a,h12a,h13a,h14a]
   refine ⟨by simp;omega,?_⟩
   exact zah ((k + 1,v + 1)) (by refine ⟨?_,?_,?_,?_,?_,?_,by omega⟩ <;> (first | (simp (maxSteps:=5000000) -dsimp only [gr,reduceEqDiff,reduceLT,reduceAdd,reduceMod,Nat.reduceBEq,zaa,zac,zad,zab,h1a,h5a,r5a,h12a,h13a,h14a,zae h hl.2,← zhk,znk];first | done | rfl | (simp;done)) | assumption | rfl)) (by first | omega | (simp only;omega) | (dsimp only;omega) | (show _ < _;simp;omega))
  ·obtain rfl:k = list.length:=by omega
   congr 1
   unfold zqg
   rw [if_pos ho]
theorem zem (n k:Nat) (hn:n ≤ 57) (hk:k ≤ n):AC Tryz.prog 62 [int n,int k] (.im (int (bin n k:Nat))):=by
 refine AC.go (rs:=[.tmp 4]) zaQ zar Tryz.func62 rfl rfl rfl (by kernel_rfl) fun hl=>?_
 have h1:decide ((k:Int) < 0) = false:=decide_eq_false (by omega)
 simp (maxSteps:=5000000) -dsimp only [↓gp,gq,reduceCtorEq,reduceEqDiff,reduceLT,reduceLeDiff,reduceAdd,reduceMul,reduceSub,Nat.reduceBEq,Int.reduceToNat,Int.reduceLE,Int.reduceLT,Int.reduceNeg,reduceMod,zac,zad,zab,zaa,gT,TK.isInt,TK.agg,Array.toList,h1]
 refine ⟨fun h=>by omega,fun _=>?_⟩
 refine zam (fun (i:Nat) s=>s.sl 0 = int n∧s.sl 1 = int k∧s.sl 5 = int (bin n i:Nat)∧s.sl 6 = int i∧(i ≤ k)) (fun i=>k - i) (0) (by refine ⟨?_,?_,?_,?_,by omega⟩ <;> (first | (simp (maxSteps:=5000000) -dsimp only [gr,reduceEqDiff,reduceLT,reduceAdd,reduceMod,Nat.reduceBEq,zaa,zac,zad,zab,zc0];first | done | rfl | (simp;done)) | assumption | rfl)) ?_
 intro i sa ⟨h0a,h1a,h5a,h6a,hIa⟩
 simp (maxSteps:=5000000) -dsimp only [↓gp,gq,reduceCtorEq,reduceEqDiff,reduceLT,reduceLeDiff,reduceAdd,reduceMul,reduceSub,Nat.reduceBEq,Int.reduceToNat,Int.reduceLE,Int.reduceLT,Int.reduceNeg,reduceMod,zac,zad,zab,zaa,gT,TK.isInt,TK.agg,Array.toList,h0a,h1a,h5a,h6a]
 refine ⟨fun h=>?_,fun h=>?_⟩
 ·rw [zae h (by omega)]
  refine ⟨by omega,?_⟩
  exact zah (i + 1) (by refine ⟨?_,?_,?_,?_,by omega⟩ <;> (first | (simp (maxSteps:=5000000) -dsimp only [gr,reduceEqDiff,reduceLT,reduceAdd,reduceMod,Nat.reduceBEq,zaa,zac,zad,zab,h0a,h1a,h5a,h6a,zae h (by omega),zCo (i:=i) hn (by omega),zCp (i:=i) hn (by omega),zCq (i:=i) hn];first | done | rfl | (simp;done)) | assumption | rfl)) (by first | omega | (simp only;omega) | (dsimp only;omega) | (show _ < _;simp;omega))
 ·have:i = k:=by omega
  subst this;rfl
def zaG (n k:Int):Int:=if 0 ≤ n∧0 ≤ k∧k ≤ n then (bin n.toNat k.toNat:Nat) else 0
theorem znf (n k:Int) (hn:n ≤ 57):AC Tryz.prog 43 [int n,int k] (.im (int (zaG n k))):=by
 refine AC.go (rs:=[.tmp 4]) zaQ zar Tryz.func43 rfl rfl rfl (by kernel_rfl) fun hl=>?_
 simp (maxSteps:=5000000) -dsimp only [↓gp,gq,reduceCtorEq,reduceEqDiff,reduceLT,reduceLeDiff,reduceAdd,reduceMul,reduceSub,Nat.reduceBEq,Int.reduceToNat,Int.reduceLE,Int.reduceLT,Int.reduceNeg,reduceMod,zac,zad,zab,zaa,gT,TK.isInt,TK.agg,Array.toList]
 refine zaf (zc6 _ _ _) ?_
 simp (maxSteps:=5000000) -dsimp only [↓gp,gq,reduceCtorEq,reduceEqDiff,reduceLT,reduceLeDiff,reduceAdd,reduceMul,reduceSub,Nat.reduceBEq,Int.reduceToNat,Int.reduceLE,Int.reduceLT,Int.reduceNeg,reduceMod,zac,zad,zab,zaa,gT,TK.isInt,TK.agg,Array.toList]
 refine ⟨fun h=>zaf (zc6 _ _ _) ?_,fun h=>?_⟩
 ·simp (maxSteps:=5000000) -dsimp only [↓gp,gq,reduceCtorEq,reduceEqDiff,reduceLT,reduceLeDiff,reduceAdd,reduceMul,reduceSub,Nat.reduceBEq,Int.reduceToNat,Int.reduceLE,Int.reduceLT,Int.reduceNeg,reduceMod,zac,zad,zab,zaa,gT,TK.isInt,TK.agg,Array.toList]
  refine ⟨fun h2=>?_,fun h2=>?_⟩
  ·unfold zaG
   rw [if_neg (by simp at h2;omega)]
  ·have h1:0 ≤ n:=by simp at h;omega
   have h3:0 ≤ k∧k ≤ n:=by simp at h2;omega
   obtain ⟨n,rfl⟩:=Int.eq_ofNat_of_zero_le h1
   obtain ⟨k,rfl⟩:=Int.eq_ofNat_of_zero_le h3.1
   have hn:n ≤ 57:=by omega
   have hk:k ≤ n:=by omega
   refine zam (fun (i:Nat) s=>s.sl 0 = int n∧s.sl 1 = int k∧s.sl 5 = int (bin n i:Nat)∧s.sl 6 = int i∧(i ≤ k)) (fun i=>k - i) (0) (by refine ⟨?_,?_,?_,?_,by omega⟩ <;> (first | (simp (maxSteps:=5000000) -dsimp only [gr,reduceEqDiff,reduceLT,reduceAdd,reduceMod,Nat.reduceBEq,zaa,zac,zad,zab,zc0];first | done | rfl | (simp;done)) | assumption | rfl)) ?_
   intro i sa ⟨h0a,h1a,h5a,h6a,hIa⟩
   simp (maxSteps:=5000000) -dsimp only [↓gp,gq,reduceCtorEq,reduceEqDiff,reduceLT,reduceLeDiff,reduceAdd,reduceMul,reduceSub,Nat.reduceBEq,Int.reduceToNat,Int.reduceLE,Int.reduceLT,Int.reduceNeg,reduceMod,zac,zad,zab,zaa,gT,TK.isInt,TK.agg,Array.toList,h0a,h1a,h5a,h6a]
   refine ⟨fun h=>?_,fun h=>?_⟩
   ·rw [zae h (by omega)]
    refine ⟨by omega,?_⟩
    exact zah (i + 1) (by refine ⟨?_,?_,?_,?_,by omega⟩ <;> (first | (simp (maxSteps:=5000000) -dsimp only [gr,reduceEqDiff,reduceLT,reduceAdd,reduceMod,Nat.reduceBEq,zaa,zac,zad,zab,h0a,h1a,h5a,h6a,zae h (by omega),zCo (i:=i) hn (by omega),zCp (i:=i) hn (by omega),zCq (i:=i) hn];first | done | rfl | (simp;done)) | assumption | rfl)) (by first | omega | (simp only;omega) | (dsimp only;omega) | (show _ < _;simp;omega))
   ·have:i = k:=by omega
    subst this
    unfold zaG
    rw [if_pos ⟨by omega,by omega,by omega⟩]
    simp
 ·unfold zaG
  rw [if_neg (by simp at h;omega)]
theorem zng (n k:Int) (hn:n ≤ 57):AC Tryz.prog 36 [int n,int k] (.im (int (zaG n k))):=by
 refine AC.go (rs:=[.tmp 4]) zaQ zar Tryz.func36 rfl rfl rfl (by kernel_rfl) fun hl=>?_
 simp (maxSteps:=5000000) -dsimp only [↓gp,gq,reduceCtorEq,reduceEqDiff,reduceLT,reduceLeDiff,reduceAdd,reduceMul,reduceSub,Nat.reduceBEq,Int.reduceToNat,Int.reduceLE,Int.reduceLT,Int.reduceNeg,reduceMod,zac,zad,zab,zaa,gT,TK.isInt,TK.agg,Array.toList]
 refine ⟨fun h1=>⟨fun _=>⟨fun h2=>⟨fun h3=>by unfold zaG;rw [if_neg (by omega)],fun h3=>?_⟩,fun h2=>by unfold zaG;rw [if_neg (by omega)]⟩,fun h=>by omega⟩,fun h1=>by unfold zaG;rw [if_neg (by omega)]⟩
 obtain ⟨n,rfl⟩:=Int.eq_ofNat_of_zero_le (show 0 ≤ n by omega)
 obtain ⟨k,rfl⟩:=Int.eq_ofNat_of_zero_le (show 0 ≤ k by omega)
 have hw:IntKind.i64.wrap ((n:Int) - (k:Int)) = ((n - k:Nat):Int):=by rw [zap (by omega) (by omega)];omega
 have e:zaG n k = (bin n k:Nat):=by unfold zaG;rw [if_pos ⟨by omega,by omega,by omega⟩];simp
 rw [hw,e]
 refine ⟨fun _=>zaf (zem n (n - k) (by omega) (by omega)) ?_,fun _=>zaf (zem n k (by omega) (by omega)) ?_⟩
 ·simp (maxSteps:=5000000) -dsimp only [↓gp,gq,reduceCtorEq,reduceEqDiff,reduceLT,reduceLeDiff,reduceAdd,reduceMul,reduceSub,Nat.reduceBEq,Int.reduceToNat,Int.reduceLE,Int.reduceLT,Int.reduceNeg,reduceMod,zac,zad,zab,zaa,gT,TK.isInt,TK.agg,Array.toList]
  rw [zDq n k (by omega)]
 ·simp (maxSteps:=5000000) -dsimp only [↓gp,gq,reduceCtorEq,reduceEqDiff,reduceLT,reduceLeDiff,reduceAdd,reduceMul,reduceSub,Nat.reduceBEq,Int.reduceToNat,Int.reduceLE,Int.reduceLT,Int.reduceNeg,reduceMod,zac,zad,zab,zaa,gT,TK.isInt,TK.agg,Array.toList]
def zuu (list:List Int):Prop:=∀ k,0 < k→k < list.length→¬ zcQ (list.getD k 0) < zcQ (list.getD (k - 1) 0)
open Classical in
noncomputable def znh (list:List Int):Bool:=decide (zuu list)
open Classical in
theorem zni {l:List Int} (h:¬ zuu l):znh l = false:=decide_eq_false h
open Classical in
theorem zqe {l:List Int} (h:zuu l):znh l = true:=decide_eq_true h
def zkf (pts:List Int) (i:Nat):Int:=pts.foldl (fun o s=>o + zaG (zcQ s) i) 0
noncomputable def zdQ (n:Int) (xs list:List Int):List Int:=if zhS n xs list = true∧znh list = true then (List.range (n.toNat + 1)).map (zkf (zqg n xs list)) else []
theorem zFv {n:Int} {xs list:List Int} (h:zcb n xs list = true):1 ≤ n∧n ≤ 6:=by
 have:=(zdi.1 h).1;exact ⟨this.1,this.2.1⟩
theorem zeY {s:Int} {i:Nat}:0 ≤ zaG (zcQ s) i∧zaG (zcQ s) i ≤ 64:=by
 unfold zaG
 split
 ·rename_i h
  have:zcQ s ≤ 6:=by
   unfold zcQ
   split
   ·rename_i hs
    have h6:∀ t,t < 64→zAx t ≤ 6:=by decide +kernel
    have:=h6 s.toNat (by omega)
    rw [zhO (by omega)]
    omega
   ·omega
  have h1:=zyG (zcQ s).toNat ((i:Int)).toNat
  have h2:2 ^ (zcQ s).toNat ≤ 2 ^ 6:=Nat.pow_le_pow_right (by omega) (by omega)
  omega
 ·omega
theorem zzG {n:Int} {xs list:List Int}:okL (zqg n xs list):=fun b hb=>by
 unfold zqg at hb
 split at hb
 ·rename_i h
  have hok:=zjY (zea h)
  obtain ⟨k,hk,rfl⟩:=List.mem_map.1 hb
  exact zAP (ze7 hok k) (zdg hok (by simpa using hk))
 ·cases hb
theorem znj {pts:List Int} {k i:Nat} (h:k < pts.length):(pts.take (k + 1)).foldl (fun o s=>o + zaG (zcQ s) i) 0 = (pts.take k).foldl (fun o s=>o + zaG (zcQ s) i) 0 + zaG (zcQ (pts.getD k 0)) i:=zc5 _ 0 h
theorem zqf (s:Int):zcQ s ≤ 57:=by
 unfold zcQ
 split
 ·rename_i hs
  have h6:∀ t,t < 64→zAx t ≤ 6:=by decide +kernel
  have:=h6 s.toNat (by omega)
  rw [zhO (by omega)]
  omega
 ·omega
theorem zCB (pts:List Int) (i:Nat):∀ k,k ≤ pts.length→0 ≤ (pts.take k).foldl (fun o s=>o + zaG (zcQ s) i) 0∧(pts.take k).foldl (fun o s=>o + zaG (zcQ s) i) 0 ≤ 64 * k:=by
 intro k
 induction k with
 | zero=>intro _;simp
 | succ k ih =>
   intro h
   rw [znj (by omega)]
   have:=ih (by omega)
   have:=@zeY (pts.getD k 0) i
   omega
def zb3 (pts:List Int) (m k i:Nat):List Int:=(List.range m).map fun j=>(pts.take (if j < i then k + 1 else k)).foldl (fun o s=>o + zaG (zcQ s) j) 0
theorem zco (pts:List Int) (m k i:Nat):(zb3 pts m k i).length = m:=by simp [zb3]
theorem zrw (pts:List Int) (m:Nat):List.replicate m (0:Int) = zb3 pts m 0 0:=by
 refine List.ext_getElem (by simp [zb3]) fun j h1 h2=>by simp [zb3]
theorem zzH {pts:List Int} {m k i:Nat} (h:i < m):(zb3 pts m k i).getD i 0 = (pts.take k).foldl (fun o s=>o + zaG (zcQ s) i) 0:=by
 rw [zbL 0 (by rw [zco];exact h)]
 simp [zb3]
theorem zvB {pts:List Int} {m k i:Nat} (h:i < m):(zb3 pts m k i).set i ((pts.take (k + 1)).foldl (fun o s=>o + zaG (zcQ s) i) 0) = zb3 pts m k (i + 1):=by
 refine List.ext_getElem (by simp [zb3]) fun j h1 h2=>?_
 simp only [zb3,List.getElem_set,List.getElem_map,List.getElem_range]
 by_cases e:i = j
 ·subst e;simp
 ·rw [if_neg e]
  by_cases h3:j < i
  ·rw [if_pos h3,if_pos (by omega)]
  ·rw [if_neg h3,if_neg (by omega)]
theorem zvC {pts:List Int} {m k:Nat}:zb3 pts m k m = zb3 pts m (k + 1) 0:=by
 refine List.ext_getElem (by simp [zb3]) fun j h1 h2=>?_
 have:j < m:=by simpa [zb3] using h1
 simp [zb3,this]
theorem zvD (pts:List Int) (m:Nat):zb3 pts m pts.length 0 = (List.range m).map (zkf pts):=by
 unfold zb3 zkf
 simp
theorem zfl (n:Int) (xs list:List Int) (hx:list.length ≤ 1048576):AC Tryz.prog 18 [.ag [int n,zaI xs],zaI list] (.fr 3 1 (iL (zdQ n xs list))):=by
 refine AC.go (rs:=[.tmp 4]) zaQ zar Tryz.func18 rfl rfl rfl (by kernel_rfl) fun hl=>?_
 simp only [zav,zaC,and_true,zaT,zby,za5,zaL,true_and] at hl
 simp (maxSteps:=5000000) -dsimp only [↓gp,gq,reduceCtorEq,reduceEqDiff,reduceLT,reduceLeDiff,reduceAdd,reduceMul,reduceSub,Nat.reduceBEq,Int.reduceToNat,Int.reduceLE,Int.reduceLT,Int.reduceNeg,reduceMod,zac,zad,zab,zaa,gT,TK.isInt,TK.agg,Array.toList]
 refine zaf (zbO n xs list) ?_
 simp (maxSteps:=5000000) -dsimp only [↓gp,gq,reduceCtorEq,reduceEqDiff,reduceLT,reduceLeDiff,reduceAdd,reduceMul,reduceSub,Nat.reduceBEq,Int.reduceToNat,Int.reduceLE,Int.reduceLT,Int.reduceNeg,reduceMod,zac,zad,zab,zaa,gT,TK.isInt,TK.agg,Array.toList]
 refine ⟨fun ho=>?_,fun ho=>?_⟩
 ·have ho:zhS n xs list = false:=by rwa [Bool.not_eq_true'] at ho
  simp [zdQ,ho,iL]
 ·have ho:zhS n xs list = true:=by rwa [Bool.not_eq_false'] at ho
  have hok:=zjY (zea ho)
  obtain ⟨hn1,hn6⟩:=zFv (zea ho)
  refine zam (fun (k:Nat) s=>s.sl 1 = zaI list∧s.sl 2 = .ref 2 1 0∧s.rw 2 = ⟨1,.box 26 [int n,zaI xs]⟩∧s.sl 5 = int (k + 1:Nat)∧(k ≤ list.length∧∀ i,0 < i→i < k + 1→i < list.length→¬ zcQ (list.getD i 0) < zcQ (list.getD (i - 1) 0))) (fun k=>list.length - k) (0) (by refine ⟨?_,?_,?_,?_,by simp;omega⟩ <;> (first | (simp (maxSteps:=5000000) -dsimp only [gr,reduceEqDiff,reduceLT,reduceAdd,reduceMod,Nat.reduceBEq,zaa,zac,zad,zab];first | done | rfl | (simp;done)) | assumption | rfl)) ?_
  intro k sa ⟨h1a,h2a,r2a,h5a,hIa⟩
  obtain ⟨hk,hall⟩:=hIa
  have hw:IntKind.i64.wrap (((k + 1:Nat):Int) - 1) = (k:Int):=by rw [zap (by omega) (by omega)];omega
  simp (maxSteps:=5000000) -dsimp only [↓gp,gq,reduceCtorEq,reduceEqDiff,reduceLT,reduceLeDiff,reduceAdd,reduceMul,reduceSub,Nat.reduceBEq,Int.reduceToNat,Int.reduceLE,Int.reduceLT,Int.reduceNeg,reduceMod,zac,zad,zab,zaa,gT,TK.isInt,TK.agg,Array.toList,h1a,h2a,r2a,h5a,hw]
  refine ⟨fun h=>⟨by kernel_rfl,h,h,zaf (za9 (zdg hok h).1 (by have:=zdg hok h;omega)) ?_⟩,fun h=>?_⟩
  ·simp (maxSteps:=5000000) -dsimp only [↓gp,gq,reduceCtorEq,reduceEqDiff,reduceLT,reduceLeDiff,reduceAdd,reduceMul,reduceSub,Nat.reduceBEq,Int.reduceToNat,Int.reduceLE,Int.reduceLT,Int.reduceNeg,reduceMod,zac,zad,zab,zaa,gT,TK.isInt,TK.agg,Array.toList,h1a,h2a,r2a,h5a,hw]
   refine ⟨by omega,by omega,zaf (za9 (zdg hok (show k < list.length by omega)).1 (by have:=zdg hok (show k < list.length by omega);omega)) ?_⟩
   simp (maxSteps:=5000000) -dsimp only [↓gp,gq,reduceCtorEq,reduceEqDiff,reduceLT,reduceLeDiff,reduceAdd,reduceMul,reduceSub,Nat.reduceBEq,Int.reduceToNat,Int.reduceLE,Int.reduceLT,Int.reduceNeg,reduceMod,zac,zad,zab,zaa,gT,TK.isInt,TK.agg,Array.toList,h1a,h2a,r2a,h5a,hw]
   have e1:=zbZ (zdg hok h)
   have e2:=zbZ (zdg hok (show k < list.length by omega))
   refine ⟨fun hlt=>?_,fun hlt=>?_⟩
   ·have:znh list = false:=zni fun hr=>by
     have:=hr (k + 1) (by omega) h
     rw [Nat.add_sub_cancel,e1,e2] at this
     omega
    simp [zdQ,this,iL]
   ·refine zah (k + 1) ⟨(by (first | (simp (maxSteps:=5000000) -dsimp only [gr,reduceEqDiff,reduceLT,reduceAdd,reduceMod,Nat.reduceBEq,zaa,zac,zad,zab,h1a,h2a,r2a,h5a,zae h hl.2];first | done | rfl | (simp;done)) | assumption | rfl)),(by (first | (simp (maxSteps:=5000000) -dsimp only [gr,reduceEqDiff,reduceLT,reduceAdd,reduceMod,Nat.reduceBEq,zaa,zac,zad,zab,h1a,h2a,r2a,h5a,zae h hl.2];first | done | rfl | (simp;done)) | assumption | rfl)),(by (first | (simp (maxSteps:=5000000) -dsimp only [gr,reduceEqDiff,reduceLT,reduceAdd,reduceMod,Nat.reduceBEq,zaa,zac,zad,zab,h1a,h2a,r2a,h5a,zae h hl.2];first | done | rfl | (simp;done)) | assumption | rfl)),(by (first | (simp (maxSteps:=5000000) -dsimp only [gr,reduceEqDiff,reduceLT,reduceAdd,reduceMod,Nat.reduceBEq,zaa,zac,zad,zab,h1a,h2a,r2a,h5a,zae h hl.2];first | done | rfl | (simp;done)) | assumption | rfl)),⟨by omega,fun i h0 hi hi2=>?_⟩⟩ (by first | omega | (simp only;omega) | (dsimp only;omega) | (show _ < _;simp;omega))
    rcases Nat.lt_succ_iff_lt_or_eq.1 hi with hi | rfl
    ·exact hall i h0 hi hi2
    ·rw [Nat.add_sub_cancel,e1,e2];omega
  ·have hr:znh list = true:=zqe fun i h0 hi=>hall i h0 (by omega) hi
   refine zaf (zdl n xs list hx) ?_
   have hplen:=zzI (n:=n) (xs:=xs) hx
   have hpok:=zzG (n:=n) (xs:=xs) (list:=list)
   have hsl:zdQ n xs list = (List.range (n.toNat + 1)).map (zkf (zqg n xs list)):=by unfold zdQ;rw [if_pos ⟨ho,hr⟩]
   rw [hsl]
   generalize zqg n xs list = pts at *
   simp (maxSteps:=5000000) -dsimp only [↓gp,gq,reduceCtorEq,reduceEqDiff,reduceLT,reduceLeDiff,reduceAdd,reduceMul,reduceSub,Nat.reduceBEq,Int.reduceToNat,Int.reduceLE,Int.reduceLT,Int.reduceNeg,reduceMod,zac,zad,zab,zaa,gT,TK.isInt,TK.agg,Array.toList,h1a,h2a,r2a,h5a]
   refine zam (fun (zb:Nat × Nat × Nat) s=>match zb with | (i,v,u)=>s.sl 2 = .ref 2 1 0∧s.rw 2 = ⟨1,.box 26 [int n,zaI xs]⟩∧s.sl 6 = .own 35 v∧s.rw 35 = ⟨v,.sli 3 1 false (iL ((List.range i).map (zkf pts)))⟩∧s.sl 7 = .own 38 u∧s.rw 38 = ⟨u,.sli 3 1 false (iL pts)⟩∧s.sl 8 = int i∧((i:Int) ≤ n + 1)) (fun (i,v,u)=>8 - i) ((0,(sa.rw 35).ver + 1,(sa.rw 38).ver + 1)) (by refine ⟨?_,?_,?_,?_,?_,?_,?_,by simp;omega⟩ <;> (first | (simp (maxSteps:=5000000) -dsimp only [gr,reduceEqDiff,reduceLT,reduceAdd,reduceMod,Nat.reduceBEq,zaa,zac,zad,zab,h1a,h2a,r2a,h5a];first | done | rfl | (simp;done)) | assumption | rfl)) ?_
   intro (i,v,u) sb ⟨h2b,r2b,h6b,r35b,h7b,r38b,h8b,hIb⟩
   simp (maxSteps:=5000000) -dsimp only [↓gp,gq,reduceCtorEq,reduceEqDiff,reduceLT,reduceLeDiff,reduceAdd,reduceMul,reduceSub,Nat.reduceBEq,Int.reduceToNat,Int.reduceLE,Int.reduceLT,Int.reduceNeg,reduceMod,zac,zad,zab,zaa,gT,TK.isInt,TK.agg,Array.toList,h2b,r2b,h6b,r35b,h7b,r38b,h8b]
   refine ⟨fun h=>?_,fun h=>?_⟩
   ·refine zam (fun (k:Nat) s=>s.sl 2 = .ref 2 1 0∧s.rw 2 = ⟨1,.box 26 [int n,zaI xs]⟩∧s.sl 6 = .own 35 v∧s.rw 35 = ⟨v,.sli 3 1 false (iL ((List.range i).map (zkf pts)))⟩∧s.sl 7 = .own 38 u∧s.rw 38 = ⟨u,.sli 3 1 false (iL pts)⟩∧s.sl 8 = int i∧s.sl 9 = int ((pts.take k).foldl (fun o s=>o + zaG (zcQ s) i) 0)∧s.sl 10 = int k∧(k ≤ pts.length)) (fun k=>pts.length - k) (0) (by refine ⟨?_,?_,?_,?_,?_,?_,?_,?_,?_,by simp⟩ <;> (first | (simp (maxSteps:=5000000) -dsimp only [gr,reduceEqDiff,reduceLT,reduceAdd,reduceMod,Nat.reduceBEq,zaa,zac,zad,zab,h2b,r2b,h6b,r35b,h7b,r38b,h8b];first | done | rfl | (simp;done)) | assumption | rfl)) ?_
    intro k sc ⟨h2c,r2c,h6c,r35c,h7c,r38c,h8c,h9c,h10c,hIc⟩
    have hsum:=zCB pts i k hIc
    simp (maxSteps:=5000000) -dsimp only [↓gp,gq,reduceCtorEq,reduceEqDiff,reduceLT,reduceLeDiff,reduceAdd,reduceMul,reduceSub,Nat.reduceBEq,Int.reduceToNat,Int.reduceLE,Int.reduceLT,Int.reduceNeg,reduceMod,zac,zad,zab,zaa,gT,TK.isInt,TK.agg,Array.toList,h2c,r2c,h6c,r35c,h7c,r38c,h8c,h9c,h10c]
    refine ⟨fun hk=>⟨hk,hk,zaf (za9 (zdg hpok hk).1 (by have:=zdg hpok hk;omega)) ?_⟩,fun hk=>?_⟩
    ·simp (maxSteps:=5000000) -dsimp only [↓gp,gq,reduceCtorEq,reduceEqDiff,reduceLT,reduceLeDiff,reduceAdd,reduceMul,reduceSub,Nat.reduceBEq,Int.reduceToNat,Int.reduceLE,Int.reduceLT,Int.reduceNeg,reduceMod,zac,zad,zab,zaa,gT,TK.isInt,TK.agg,Array.toList,h2c,r2c,h6c,r35c,h7c,r38c,h8c,h9c,h10c]
     have e:=zbZ (zdg hpok hk)
     rw [← e]
     refine zaf (znf _ _ (zqf _)) ?_
     simp (maxSteps:=5000000) -dsimp only [↓gp,gq,reduceCtorEq,reduceEqDiff,reduceLT,reduceLeDiff,reduceAdd,reduceMul,reduceSub,Nat.reduceBEq,Int.reduceToNat,Int.reduceLE,Int.reduceLT,Int.reduceNeg,reduceMod,zac,zad,zab,zaa,gT,TK.isInt,TK.agg,Array.toList,h2c,r2c,h6c,r35c,h7c,r38c,h8c,h9c,h10c]
     have hb:=@zeY (pts.getD k 0) i
     have hadd:IntKind.i64.wrap ((pts.take k).foldl (fun o s=>o + zaG (zcQ s) i) 0 + zaG (zcQ (pts.getD k 0)) i) = (pts.take k).foldl (fun o s=>o + zaG (zcQ s) i) 0 + zaG (zcQ (pts.getD k 0)) i:=zap (by omega) (by omega)
     exact zah (k + 1) (by refine ⟨?_,?_,?_,?_,?_,?_,?_,?_,?_,by omega⟩ <;> (first | (simp (maxSteps:=5000000) -dsimp only [gr,reduceEqDiff,reduceLT,reduceAdd,reduceMod,Nat.reduceBEq,zaa,zac,zad,zab,h2c,r2c,h6c,r35c,h7c,r38c,h8c,h9c,h10c,zae hk (by omega),hadd,znj hk];first | done | rfl | (simp;done)) | assumption | rfl)) (by first | omega | (simp only;omega) | (dsimp only;omega) | (show _ < _;simp;omega))
    ·obtain rfl:k = pts.length:=by omega
     have e:(pts.take pts.length).foldl (fun o s=>o + zaG (zcQ s) i) 0 = zkf pts i:=by unfold zkf;rw [List.take_length]
     rw [e]
     refine ⟨by simp;omega,?_⟩
     exact zah ((i + 1,v + 1,u)) (by refine ⟨?_,?_,?_,?_,?_,?_,?_,by omega⟩ <;> (first | (simp (maxSteps:=5000000) -dsimp only [gr,reduceEqDiff,reduceLT,reduceAdd,reduceMod,Nat.reduceBEq,zaa,zac,zad,zab,h2b,r2b,h6b,r35b,h7b,r38b,h8b,h2c,r2c,h6c,r35c,h7c,r38c,h8c,h9c,h10c,e,zae (i:=i) (n:=8) (by omega) (by omega),← zhk];first | done | rfl | (simp;done)) | assumption | rfl)) (by first | omega | (simp only;omega) | (dsimp only;omega) | (show _ < _;simp;omega))
   ·have:i = n.toNat + 1:=by omega
    rw [this]
theorem zfm (n:Int) (xs list:List Int) (hx:list.length ≤ 1048576):AC Tryz.prog 10 [.ag [int n,zaI xs],zaI list] (.fr 3 1 (iL (zdQ n xs list))):=by
 refine AC.go (rs:=[.tmp 4]) zaQ zar Tryz.func10 rfl rfl rfl (by kernel_rfl) fun hl=>?_
 simp only [zav,zaC,and_true,zaT,zby,za5,zaL,true_and] at hl
 simp (maxSteps:=5000000) -dsimp only [↓gp,gq,reduceCtorEq,reduceEqDiff,reduceLT,reduceLeDiff,reduceAdd,reduceMul,reduceSub,Nat.reduceBEq,Int.reduceToNat,Int.reduceLE,Int.reduceLT,Int.reduceNeg,reduceMod,zac,zad,zab,zaa,gT,TK.isInt,TK.agg,Array.toList]
 refine zaf (zaJ n xs list) ?_
 simp (maxSteps:=5000000) -dsimp only [↓gp,gq,reduceCtorEq,reduceEqDiff,reduceLT,reduceLeDiff,reduceAdd,reduceMul,reduceSub,Nat.reduceBEq,Int.reduceToNat,Int.reduceLE,Int.reduceLT,Int.reduceNeg,reduceMod,zac,zad,zab,zaa,gT,TK.isInt,TK.agg,Array.toList]
 refine ⟨fun ho=>?_,fun ho=>?_⟩
 ·have ho:zhS n xs list = false:=by rwa [Bool.not_eq_true'] at ho
  simp [zdQ,ho,iL]
 ·have ho:zhS n xs list = true:=by rwa [Bool.not_eq_false'] at ho
  have hok:=zjY (zea ho)
  obtain ⟨hn1,hn6⟩:=zFv (zea ho)
  refine zam (fun (k:Nat) s=>s.sl 1 = zaI list∧s.sl 2 = .ref 2 1 0∧s.rw 2 = ⟨1,.box 26 [int n,zaI xs]⟩∧s.sl 5 = int (k + 1:Nat)∧(k ≤ list.length∧∀ i,0 < i→i < k + 1→i < list.length→¬ zcQ (list.getD i 0) < zcQ (list.getD (i - 1) 0))) (fun k=>list.length - k) (0) (by refine ⟨?_,?_,?_,?_,by simp;omega⟩ <;> (first | (simp (maxSteps:=5000000) -dsimp only [gr,reduceEqDiff,reduceLT,reduceAdd,reduceMod,Nat.reduceBEq,zaa,zac,zad,zab];first | done | rfl | (simp;done)) | assumption | rfl)) ?_
  intro k sa ⟨h1a,h2a,r2a,h5a,hIa⟩
  obtain ⟨hk,hall⟩:=hIa
  have hw:IntKind.i64.wrap (((k + 1:Nat):Int) - 1) = (k:Int):=by rw [zap (by omega) (by omega)];omega
  simp (maxSteps:=5000000) -dsimp only [↓gp,gq,reduceCtorEq,reduceEqDiff,reduceLT,reduceLeDiff,reduceAdd,reduceMul,reduceSub,Nat.reduceBEq,Int.reduceToNat,Int.reduceLE,Int.reduceLT,Int.reduceNeg,reduceMod,zac,zad,zab,zaa,gT,TK.isInt,TK.agg,Array.toList,h1a,h2a,r2a,h5a,hw]
  refine ⟨fun h=>⟨by kernel_rfl,h,h,zaf (zbn _) ?_⟩,fun h=>?_⟩
  ·simp (maxSteps:=5000000) -dsimp only [↓gp,gq,reduceCtorEq,reduceEqDiff,reduceLT,reduceLeDiff,reduceAdd,reduceMul,reduceSub,Nat.reduceBEq,Int.reduceToNat,Int.reduceLE,Int.reduceLT,Int.reduceNeg,reduceMod,zac,zad,zab,zaa,gT,TK.isInt,TK.agg,Array.toList,h1a,h2a,r2a,h5a,hw]
   refine ⟨by omega,by omega,zaf (zbn _) ?_⟩
   simp (maxSteps:=5000000) -dsimp only [↓gp,gq,reduceCtorEq,reduceEqDiff,reduceLT,reduceLeDiff,reduceAdd,reduceMul,reduceSub,Nat.reduceBEq,Int.reduceToNat,Int.reduceLE,Int.reduceLT,Int.reduceNeg,reduceMod,zac,zad,zab,zaa,gT,TK.isInt,TK.agg,Array.toList,h1a,h2a,r2a,h5a,hw]
   refine ⟨fun hlt=>?_,fun hlt=>?_⟩
   ·have:znh list = false:=zni fun hr=>by
     have:=hr (k + 1) (by omega) h
     rw [Nat.add_sub_cancel] at this
     exact this hlt
    simp [zdQ,this,iL]
   ·refine zah (k + 1) ⟨(by (first | (simp (maxSteps:=5000000) -dsimp only [gr,reduceEqDiff,reduceLT,reduceAdd,reduceMod,Nat.reduceBEq,zaa,zac,zad,zab,h1a,h2a,r2a,h5a,zae h hl.2];first | done | rfl | (simp;done)) | assumption | rfl)),(by (first | (simp (maxSteps:=5000000) -dsimp only [gr,reduceEqDiff,reduceLT,reduceAdd,reduceMod,Nat.reduceBEq,zaa,zac,zad,zab,h1a,h2a,r2a,h5a,zae h hl.2];first | done | rfl | (simp;done)) | assumption | rfl)),(by (first | (simp (maxSteps:=5000000) -dsimp only [gr,reduceEqDiff,reduceLT,reduceAdd,reduceMod,Nat.reduceBEq,zaa,zac,zad,zab,h1a,h2a,r2a,h5a,zae h hl.2];first | done | rfl | (simp;done)) | assumption | rfl)),(by (first | (simp (maxSteps:=5000000) -dsimp only [gr,reduceEqDiff,reduceLT,reduceAdd,reduceMod,Nat.reduceBEq,zaa,zac,zad,zab,h1a,h2a,r2a,h5a,zae h hl.2];first | done | rfl | (simp;done)) | assumption | rfl)),⟨by omega,fun i h0 hi hi2=>?_⟩⟩ (by first | omega | (simp only;omega) | (dsimp only;omega) | (show _ < _;simp;omega))
    rcases Nat.lt_succ_iff_lt_or_eq.1 hi with hi | rfl
    ·exact hall i h0 hi hi2
    ·rwa [Nat.add_sub_cancel]
  ·have hr:znh list = true:=zqe fun i h0 hi=>hall i h0 (by omega) hi
   have hwn:IntKind.i64.wrap (n + 1) = n + 1:=zap (by omega) (by omega)
   rw [hwn]
   refine ⟨by omega,by omega,by omega,zaf (zdm n xs list hx) ?_⟩
   have hplen:=zzI (n:=n) (xs:=xs) hx
   have hpok:=zzG (n:=n) (xs:=xs) (list:=list)
   have hsl:zdQ n xs list = (List.range (n.toNat + 1)).map (zkf (zqg n xs list)):=by unfold zdQ;rw [if_pos ⟨ho,hr⟩]
   rw [hsl]
   generalize zqg n xs list = pts at *
   simp (maxSteps:=5000000) -dsimp only [↓gp,gq,reduceCtorEq,reduceEqDiff,reduceLT,reduceLeDiff,reduceAdd,reduceMul,reduceSub,Nat.reduceBEq,Int.reduceToNat,Int.reduceLE,Int.reduceLT,Int.reduceNeg,reduceMod,zac,zad,zab,zaa,gT,TK.isInt,TK.agg,Array.toList,h1a,h2a,r2a,h5a]
   have htn:(n + 1).toNat = n.toNat + 1:=by omega
   refine zam (fun (zb:Nat × Nat × Nat) s=>match zb with | (k,v,u)=>s.sl 6 = .own 35 v∧s.rw 35 = ⟨v,.sli 3 1 false (iL (zb3 pts (n.toNat + 1) k 0))⟩∧s.sl 38 = .own 38 u∧s.rw 38 = ⟨u,.sli 3 1 false (iL pts)⟩∧s.sl 39 = int pts.length∧s.sl 40 = int k∧(k ≤ pts.length)) (fun (k,v,u)=>pts.length - k) ((0,(sa.rw 35).ver + 1,(sa.rw 38).ver + 1)) (by refine ⟨?_,?_,?_,?_,?_,?_,by simp⟩ <;> (first | (simp (maxSteps:=5000000) -dsimp only [gr,reduceEqDiff,reduceLT,reduceAdd,reduceMod,Nat.reduceBEq,zaa,zac,zad,zab,h1a,h2a,r2a,h5a,zeu,htn,← zrw];first | done | rfl | (simp;done)) | assumption | rfl)) ?_
   intro (k,v,u) sb ⟨h6b,r35b,h38b,r38b,h39b,h40b,hIb⟩
   simp (maxSteps:=5000000) -dsimp only [↓gp,gq,reduceCtorEq,reduceEqDiff,reduceLT,reduceLeDiff,reduceAdd,reduceMul,reduceSub,Nat.reduceBEq,Int.reduceToNat,Int.reduceLE,Int.reduceLT,Int.reduceNeg,reduceMod,zac,zad,zab,zaa,gT,TK.isInt,TK.agg,Array.toList,h6b,r35b,h38b,r38b,h39b,h40b,zco]
   refine ⟨fun h=>⟨h,h,?_⟩,fun h=>?_⟩
   ·refine zam (fun (i:Nat) s=>s.sl 6 = .own 35 v∧s.rw 35 = ⟨v,.sli 3 1 false (iL (zb3 pts (n.toNat + 1) k i))⟩∧s.sl 38 = .own 38 u∧s.rw 38 = ⟨u,.sli 3 1 false (iL pts)⟩∧s.sl 39 = int pts.length∧s.sl 40 = int k∧s.sl 8 = int (pts.getD k 0)∧s.sl 45 = int (n.toNat + 1:Nat)∧s.sl 46 = int i∧(i ≤ n.toNat + 1)) (fun i=>n.toNat + 1 - i) (0) (by refine ⟨?_,?_,?_,?_,?_,?_,?_,?_,?_,by simp⟩ <;> (first | (simp (maxSteps:=5000000) -dsimp only [gr,reduceEqDiff,reduceLT,reduceAdd,reduceMod,Nat.reduceBEq,zaa,zac,zad,zab,h6b,r35b,h38b,r38b,h39b,h40b];first | done | rfl | (simp;done)) | assumption | rfl)) ?_
    intro i sc ⟨h6c,r35c,h38c,r38c,h39c,h40c,h8c,h45c,h46c,hIc⟩
    simp (maxSteps:=5000000) -dsimp only [↓gp,gq,reduceCtorEq,reduceEqDiff,reduceLT,reduceLeDiff,reduceAdd,reduceMul,reduceSub,Nat.reduceBEq,Int.reduceToNat,Int.reduceLE,Int.reduceLT,Int.reduceNeg,reduceMod,zac,zad,zab,zaa,gT,TK.isInt,TK.agg,Array.toList,h6c,r35c,h38c,r38c,h39c,h40c,h8c,h45c,h46c,zco]
    refine ⟨fun hi=>⟨by kernel_rfl,hi,hi,zaf (zbn _) ?_⟩,fun hi=>?_⟩
    ·simp (maxSteps:=5000000) -dsimp only [↓gp,gq,reduceCtorEq,reduceEqDiff,reduceLT,reduceLeDiff,reduceAdd,reduceMul,reduceSub,Nat.reduceBEq,Int.reduceToNat,Int.reduceLE,Int.reduceLT,Int.reduceNeg,reduceMod,zac,zad,zab,zaa,gT,TK.isInt,TK.agg,Array.toList,h6c,r35c,h38c,r38c,h39c,h40c,h8c,h45c,h46c,zco]
     refine zaf (zng _ _ (zqf _)) ?_
     simp (maxSteps:=5000000) -dsimp only [↓gp,gq,reduceCtorEq,reduceEqDiff,reduceLT,reduceLeDiff,reduceAdd,reduceMul,reduceSub,Nat.reduceBEq,Int.reduceToNat,Int.reduceLE,Int.reduceLT,Int.reduceNeg,reduceMod,zac,zad,zab,zaa,gT,TK.isInt,TK.agg,Array.toList,h6c,r35c,h38c,r38c,h39c,h40c,h8c,h45c,h46c,zco]
     have hb:=@zeY (pts.getD k 0) i
     have hsum:=zCB pts i k hIb
     have hadd:IntKind.i64.wrap ((zb3 pts (n.toNat + 1) k i).getD i 0 + zaG (zcQ (pts.getD k 0)) i) = (pts.take (k + 1)).foldl (fun o s=>o + zaG (zcQ s) i) 0:=by
      rw [zzH hi,znj h];exact zap (by omega) (by omega)
     refine ⟨hi,by omega,by kernel_rfl,?_⟩
     exact zah (i + 1) (by refine ⟨?_,?_,?_,?_,?_,?_,?_,?_,?_,by omega⟩ <;> (first | (simp (maxSteps:=5000000) -dsimp only [gr,reduceEqDiff,reduceLT,reduceAdd,reduceMod,Nat.reduceBEq,zaa,zac,zad,zab,h6c,r35c,h38c,r38c,h39c,h40c,h8c,h45c,h46c,hadd,zvB hi,zae hi (by omega)];first | done | rfl | (simp;done)) | assumption | rfl)) (by first | omega | (simp only;omega) | (dsimp only;omega) | (show _ < _;simp;omega))
    ·have:i = n.toNat + 1:=by omega
     subst this
     exact zah ((k + 1,v,u)) (by refine ⟨?_,?_,?_,?_,?_,?_,by omega⟩ <;> (first | (simp (maxSteps:=5000000) -dsimp only [gr,reduceEqDiff,reduceLT,reduceAdd,reduceMod,Nat.reduceBEq,zaa,zac,zad,zab,h6b,r35b,h38b,r38b,h39b,h40b,h6c,r35c,h38c,r38c,h39c,h40c,h8c,h45c,h46c,zvC,zae h (by omega)];first | done | rfl | (simp;done)) | assumption | rfl)) (by first | omega | (simp only;omega) | (dsimp only;omega) | (show _ < _;simp;omega))
   ·have:k = pts.length:=by omega
    subst this
    rw [zvD]
theorem zvE (bs:List Int):AC Tryz.prog 4 [.sl false 1 (kL .u8 bs)] (.im (bool (decide (1048576 < (bs.length:Int))))):=by
 refine AC.go (rs:=[.tmp 2]) zaQ zar Tryz.func4 rfl rfl rfl (by kernel_rfl) fun hl=>?_
 simp (maxSteps:=5000000) -dsimp only [↓gp,gq,reduceCtorEq,reduceEqDiff,reduceLT,reduceLeDiff,reduceAdd,reduceMul,reduceSub,Nat.reduceBEq,Int.reduceToNat,Int.reduceLE,Int.reduceLT,Int.reduceNeg,reduceMod,zac,zad,zab,zaa,gT,TK.isInt,TK.agg,Array.toList]
theorem zcp (xs ys:List Int):AC Tryz.prog 16 [zaI xs,zaI ys] (.im (bool (decide (xs = ys)))):=by
 refine AC.go (rs:=[.tmp 4]) zaQ zar Tryz.func16 rfl rfl rfl (by kernel_rfl) fun hl=>?_
 simp only [zav,zaL,zaC,and_true] at hl
 simp (maxSteps:=5000000) -dsimp only [↓gp,gq,reduceCtorEq,reduceEqDiff,reduceLT,reduceLeDiff,reduceAdd,reduceMul,reduceSub,Nat.reduceBEq,Int.reduceToNat,Int.reduceLE,Int.reduceLT,Int.reduceNeg,reduceMod,zac,zad,zab,zaa,gT,TK.isInt,TK.agg,Array.toList]
 refine ⟨fun h=>?_,fun h=>?_⟩
 ·intro e
  simp [e] at h
 ·have hn:xs.length = ys.length:=by simp at h;omega
  refine zam (fun (i:Nat) s=>s.sl 0 = zaI xs∧s.sl 1 = zaI ys∧s.sl 5 = int i∧i ≤ xs.length∧xs.take i = ys.take i) (fun i=>xs.length - i) 0 ⟨by simp (maxSteps:=5000000) -dsimp only [gr,reduceEqDiff,reduceLT,reduceAdd,reduceMod,Nat.reduceBEq,zaa,zac,zad,zab],by simp (maxSteps:=5000000) -dsimp only [gr,reduceEqDiff,reduceLT,reduceAdd,reduceMod,Nat.reduceBEq,zaa,zac,zad,zab],by simp (maxSteps:=5000000) -dsimp only [gr,reduceEqDiff,reduceLT,reduceAdd,reduceMod,Nat.reduceBEq,zaa,zac,zad,zab];rfl,by simp,by simp⟩ ?_
  intro i s1 ⟨h0,h1,h5,hi,hall⟩
  simp (maxSteps:=5000000) -dsimp only [↓gp,gq,reduceCtorEq,reduceEqDiff,reduceLT,reduceLeDiff,reduceAdd,reduceMul,reduceSub,Nat.reduceBEq,Int.reduceToNat,Int.reduceLE,Int.reduceLT,Int.reduceNeg,reduceMod,zac,zad,zab,zaa,gT,TK.isInt,TK.agg,Array.toList,h0,h1,h5]
  refine ⟨fun h=>⟨by kernel_rfl,h,h,by omega,by omega,fun ha=>?_,fun ha=>?_⟩,fun h=>?_⟩
  ·intro e
   simp [e] at ha
  ·refine zah (i + 1) ⟨by simp (maxSteps:=5000000) -dsimp only [gr,reduceEqDiff,reduceLT,reduceAdd,reduceMod,Nat.reduceBEq,zaa,zac,zad,zab,h0],by simp (maxSteps:=5000000) -dsimp only [gr,reduceEqDiff,reduceLT,reduceAdd,reduceMod,Nat.reduceBEq,zaa,zac,zad,zab,h1],by simp (maxSteps:=5000000) -dsimp only [gr,reduceEqDiff,reduceLT,reduceAdd,reduceMod,Nat.reduceBEq,zaa,zac,zad,zab];rw [zae h hl.1],h,?_⟩ (by omega)
   rw [zaK 0 h,zaK 0 (show i < ys.length by omega),hall]
   simp at ha
   simpa using ha
  ·rw [List.take_of_length_le (by omega),List.take_of_length_le (by omega)] at hall
   exact hall
noncomputable def znm (n:Int) (xs:List Int) (p:Int):Mat:=if zvT n xs = true∧isP p = true then zA2 (zbe xs) p n.toNat else []
theorem zrz {n:Int} {xs:List Int} {p:Int} (h:¬ (zvT n xs = true∧isP p = true)):znm n xs p = []:=if_neg h
theorem zFw {n i:Nat} (h:i < n):(List.range n).getD i 0 = i:=by simp [List.getD,h]
theorem zzM {α:Type} (n:Nat) (a:α):List.replicate n a ++ [a] = List.replicate (n + 1) a:=by rw [List.replicate_succ']
theorem zhl (n:Int) (xs:List Int) (p:Int):AC Tryz.prog 50 [.ag [int n,zaI xs],int p] (.tb 24 3 ((znm n xs p).map iL)):=by
 refine AC.go (rs:=[.tmp 4]) zaQ zar Tryz.func50 rfl rfl rfl (by kernel_rfl) fun hl=>?_
 simp only [zav,zaC,and_true,zaT,zby,za5,true_and] at hl
 simp (maxSteps:=5000000) -dsimp only [↓gp,gq,reduceCtorEq,reduceEqDiff,reduceLT,reduceLeDiff,reduceAdd,reduceMul,reduceSub,Nat.reduceBEq,Int.reduceToNat,Int.reduceLE,Int.reduceLT,Int.reduceNeg,reduceMod,zac,zad,zab,zaa,gT,TK.isInt,TK.agg,Array.toList]
 refine zaf (zpS n xs) ?_
 have hdt:=zyP n xs
 simp (maxSteps:=5000000) -dsimp only [↓gp,gq,reduceCtorEq,reduceEqDiff,reduceLT,reduceLeDiff,reduceAdd,reduceMul,reduceSub,Nat.reduceBEq,Int.reduceToNat,Int.reduceLE,Int.reduceLT,Int.reduceNeg,reduceMod,zac,zad,zab,zaa,gT,TK.isInt,TK.agg,Array.toList,hdt]
 refine ⟨fun hh=>zaf (zcd p) ?_,fun hh=>?_⟩
 ·have hh:zvT n xs = true:=by simpa using hh
  simp (maxSteps:=5000000) -dsimp only [↓gp,gq,reduceCtorEq,reduceEqDiff,reduceLT,reduceLeDiff,reduceAdd,reduceMul,reduceSub,Nat.reduceBEq,Int.reduceToNat,Int.reduceLE,Int.reduceLT,Int.reduceNeg,reduceMod,zac,zad,zab,zaa,gT,TK.isInt,TK.agg,Array.toList]
  refine ⟨fun hp=>?_,fun hp=>?_⟩
  ·rw [zrz (fun h=>by rw [h.2] at hp;cases hp)]
   exact zt6 (by simp (maxSteps:=5000000) -dsimp only [gr,reduceEqDiff,reduceLT,reduceAdd,reduceMod,Nat.reduceBEq,zaa,zac,zad,zab]) (by decide)
  ·have hp:isP p = true:=by simpa using hp
   have hcx:=(zgF.1 hh).1
   obtain ⟨h1,h6,_⟩:=zaS.1 hcx
   have hb:znm n xs p = zA2 (zbe xs) p n.toNat:=if_pos ⟨hh,hp⟩
   rw [hb]
   have hxo:=zkF hcx
   have hxl:=zFh hcx
   obtain ⟨m,rfl⟩:∃ m:Nat,n = m:=⟨n.toNat,by omega⟩
   rw [Int.toNat_natCast]
   have h64:=zaO (m:=m) (by omega)
   have hsh:zz1 .i64 1 (m:Int) = ((2 ^ m:Nat):Int):=zcg (by omega)
   have hun:IntKind.u64.wrap (m:Int) = (m:Int):=ze5 (by omega)
   have hm1:IntKind.i64.wrap ((m:Int) + 1) = ((m + 1:Nat):Int):=by rw [zap (by omega) (by omega)];rfl
   refine zt5 (k:=11) (v:=1) (e:=24) (e2:=3) (by simp (maxSteps:=5000000) -dsimp only [gr,reduceEqDiff,reduceLT,reduceAdd,reduceMod,Nat.reduceBEq,zaa,zac,zad,zab]) (fun j=>by simp (maxSteps:=5000000) -dsimp only [gr,reduceEqDiff,reduceLT,reduceAdd,reduceMod,Nat.reduceBEq,zaa,zac,zad,zab]) (fun (i:Nat) s=>s.sl 1 = int p∧s.sl 2 = .ref 2 1 0∧s.rw 2 = ⟨1,.box 36 [int (m:Nat),zaI xs]⟩∧s.sl 5 = .own 11 (i + 1)∧s.sl 6 = int i∧(i ≤ m + 1∧TabG s.rw 11 (i + 1) 24 3 i (List.replicate i (List.replicate (m + 1) 0)))) (fun i=>m + 1 - i) (0) (fun sX htX hslX hoX=>(by refine ⟨?_,?_,?_,?_,?_,⟨by omega,htX⟩⟩ <;> (first | (simp (maxSteps:=5000000) -dsimp only [gr,reduceEqDiff,reduceLT,reduceAdd,reduceMod,Nat.reduceBEq,zaa,zac,zad,zab,hslX,hoX];first | done | rfl | (simp;done)) | assumption | rfl))) ?_
   intro i sa ⟨h1a,h2a,r2a,h5a,h6a,hIa⟩
   obtain ⟨hi,ht⟩:=hIa
   simp (maxSteps:=5000000) -dsimp only [↓gp,gq,reduceCtorEq,reduceEqDiff,reduceLT,reduceLeDiff,reduceAdd,reduceMul,reduceSub,Nat.reduceBEq,Int.reduceToNat,Int.reduceLE,Int.reduceLT,Int.reduceNeg,reduceMod,zac,zad,zab,zaa,gT,TK.isInt,TK.agg,Array.toList,h1a,h2a,r2a,h5a,h6a,hm1,Int.toNat_natCast]
   refine ⟨fun h=>⟨by omega,by omega,?_⟩,fun h=>?_⟩
   ·refine zFY ?_
    simp (maxSteps:=5000000) -dsimp only [↓gp,gq,reduceCtorEq,reduceEqDiff,reduceLT,reduceLeDiff,reduceAdd,reduceMul,reduceSub,Nat.reduceBEq,Int.reduceToNat,Int.reduceLE,Int.reduceLT,Int.reduceNeg,reduceMod,zac,zad,zab,zaa,gT,TK.isInt,TK.agg,Array.toList,h1a,h2a,r2a,h5a,h6a,ht.top]
    refine ⟨by omega,?_⟩
    exact zrd (k:=11) (v:=i + 1 + 1) (e:=24) (e2:=3) (n:=i) (d:=31) (vd:=(sa.rw 31).ver + 1) (M:=List.replicate i (List.replicate (m + 1) 0)) (r:=List.replicate (m + 1) 0) (by simp (maxSteps:=5000000) -dsimp only [gr,reduceEqDiff,reduceLT,reduceAdd,reduceMod,Nat.reduceBEq,zaa,zac,zad,zab,ht.top]) (by simp) (fun j hj=>by simp (maxSteps:=5000000) -dsimp only [gr,reduceEqDiff,reduceLT,reduceAdd,reduceMod,Nat.reduceBEq,zaa,zac,zad,zab,ht.row j hj]) (fun j hj=>by simp (maxSteps:=5000000) -dsimp only [gr,reduceEqDiff,reduceLT,reduceAdd,reduceMod,Nat.reduceBEq,zaa,zac,zad,zab,ht.rest j hj]) (by simp (maxSteps:=5000000) -dsimp only [gr,reduceEqDiff,reduceLT,reduceAdd,reduceMod,Nat.reduceBEq,zaa,zac,zad,zab,hm1]) (by decide) (by decide) (i + 1) (fun sX htX hslX hoX=>(by refine ⟨?_,?_,?_,?_,?_,⟨by omega,(zzM i _ ▸ htX:TabG _ _ _ _ _ _ _)⟩⟩ <;> (first | (simp (maxSteps:=5000000) -dsimp only [gr,reduceEqDiff,reduceLT,reduceAdd,reduceMod,Nat.reduceBEq,zaa,zac,zad,zab,hslX,hoX,h1a,h2a,r2a,h5a,h6a,h1a,h2a,r2a,h5a,h6a,zae (show i < m + 1 by omega) (by omega)];first | done | rfl | (simp;done)) | assumption | rfl))) (by first | omega | (simp only;omega) | (dsimp only;omega) | (show _ < _;simp;omega))
   ·have:i = m + 1:=by omega
    subst this
    have htI:=ht.done
    refine zam (fun (w:Nat) s=>s.sl 1 = int p∧s.sl 2 = .ref 2 1 0∧s.rw 2 = ⟨1,.box 36 [int (m:Nat),zaI xs]⟩∧s.sl 5 = .own 11 (m + 1 + 1)∧s.sl 7 = int w∧(w ≤ 2 ^ m∧TabI s.rw 11 (m + 1 + 1) 24 3 (List.range (m + 1)) (znr (zbe xs) p m w))) (fun w=>2 ^ m - w) (0) (by refine ⟨?_,?_,?_,?_,?_,⟨Nat.zero_le _,htI.same (by simp (maxSteps:=5000000) -dsimp only [gr,reduceEqDiff,reduceLT,reduceAdd,reduceMod,Nat.reduceBEq,zaa,zac,zad,zab]) (fun x=>by simp (maxSteps:=5000000) -dsimp only [gr,reduceEqDiff,reduceLT,reduceAdd,reduceMod,Nat.reduceBEq,zaa,zac,zad,zab])⟩⟩ <;> (first | (simp (maxSteps:=5000000) -dsimp only [gr,reduceEqDiff,reduceLT,reduceAdd,reduceMod,Nat.reduceBEq,zaa,zac,zad,zab,h1a,h2a,r2a,h5a,h6a];first | done | rfl | (simp;done)) | assumption | rfl)) ?_
    intro w sb ⟨h1b,h2b,r2b,h5b,h7b,hIb⟩
    obtain ⟨hw,hb2⟩:=hIb
    simp (maxSteps:=5000000) -dsimp only [↓gp,gq,reduceCtorEq,reduceEqDiff,reduceLT,reduceLeDiff,reduceAdd,reduceMul,reduceSub,Nat.reduceBEq,Int.reduceToNat,Int.reduceLE,Int.reduceLT,Int.reduceNeg,reduceMod,zac,zad,zab,zaa,gT,TK.isInt,TK.agg,Array.toList,h1b,h2b,r2b,h5b,h7b,hsh,hun]
    refine ⟨fun h2=>zaf (za4 w (by omega)) ?_,fun h2=>?_⟩
    ·simp (maxSteps:=5000000) -dsimp only [↓gp,gq,reduceCtorEq,reduceEqDiff,reduceLT,reduceLeDiff,reduceAdd,reduceMul,reduceSub,Nat.reduceBEq,Int.reduceToNat,Int.reduceLE,Int.reduceLT,Int.reduceNeg,reduceMod,zac,zad,zab,zaa,gT,TK.isInt,TK.agg,Array.toList,h1b,h2b,r2b,h5b,h7b,hsh,hun]
     refine zaf (zjW _ xs w (by omega) hxo (by omega)) ?_
     simp (maxSteps:=5000000) -dsimp only [↓gp,gq,reduceCtorEq,reduceEqDiff,reduceLT,reduceLeDiff,reduceAdd,reduceMul,reduceSub,Nat.reduceBEq,Int.reduceToNat,Int.reduceLE,Int.reduceLT,Int.reduceNeg,reduceMod,zac,zad,zab,zaa,gT,TK.isInt,TK.agg,Array.toList,h1b,h2b,r2b,h5b,h7b,hsh,hun]
     refine zaf (zjX _ _ p) ?_
     have hins:=zDG hcx (w:=w) (by omega) hp
     unfold zDF at hins
     rw [hins]
     have hpn:=zm4 (n:=m) (by omega) h2
     have hsm:=zj4 (zbv (zbe xs) w) p
     have hdl:=zj0 (zbv (zbe xs) w)
     have hhl:=zcc (zbv (zbe xs) w) p
     generalize hhs:zh4 (zbv (zbe xs) w) p = hs at *
     have hsq:=fun k=>zrm (j:=zaw w) (zrn (zbe xs) p m w) hsm k
     simp (maxSteps:=5000000) -dsimp only [↓gp,gq,reduceCtorEq,reduceEqDiff,reduceLT,reduceLeDiff,reduceAdd,reduceMul,reduceSub,Nat.reduceBEq,Int.reduceToNat,Int.reduceLE,Int.reduceLT,Int.reduceNeg,reduceMod,zac,zad,zab,zaa,gT,TK.isInt,TK.agg,Array.toList,h1b,h2b,r2b,h5b,h7b,hsh,hun]
     refine zam (fun (zc:Nat × Nat) s=>match zc with | (k,u)=>s.sl 1 = int p∧s.sl 2 = .ref 2 1 0∧s.rw 2 = ⟨1,.box 36 [int (m:Nat),zaI xs]⟩∧s.sl 5 = .own 11 (m + 1 + 1)∧s.sl 7 = int w∧s.sl 8 = int (zaw w:Nat)∧s.sl 9 = .own 48 u∧s.rw 48 = ⟨u,.sli 3 1 false (iL hs)⟩∧s.sl 10 = int k∧(k ≤ hs.length∧TabI s.rw 11 (m + 1 + 1) 24 3 (List.range (m + 1)) (zm3 (znr (zbe xs) p m w) (zaw w) hs k))) (fun (k,u)=>hs.length - k) ((0,(sb.rw 48).ver + 1)) (by refine ⟨?_,?_,?_,?_,?_,?_,?_,?_,?_,⟨by omega,hb2.same (by simp (maxSteps:=5000000) -dsimp only [gr,reduceEqDiff,reduceLT,reduceAdd,reduceMod,Nat.reduceBEq,zaa,zac,zad,zab]) (fun x=>by simp (maxSteps:=5000000) -dsimp only [gr,reduceEqDiff,reduceLT,reduceAdd,reduceMod,Nat.reduceBEq,zaa,zac,zad,zab])⟩⟩ <;> (first | (simp (maxSteps:=5000000) -dsimp only [gr,reduceEqDiff,reduceLT,reduceAdd,reduceMod,Nat.reduceBEq,zaa,zac,zad,zab,h1b,h2b,r2b,h5b,h7b];first | done | rfl | (simp;done)) | assumption | rfl)) ?_
     intro (k,u) sc ⟨h1c,h2c,r2c,h5c,h7c,h8c,h9c,r48c,h10c,hIc⟩
     obtain ⟨hk,hb3⟩:=hIc
     have hend:(k = hs.length ∨ zaw w < k)→zm3 (znr (zbe xs) p m w) (zaw w) hs k = znr (zbe xs) p m (w + 1):=fun h=>by
      have e0:znr (zbe xs) p m (w + 1) = zm3 (znr (zbe xs) p m w) (zaw w) (zh4 (zbv (zbe xs) w) p) (zgP (zbv (zbe xs) w)):=rfl
      rw [e0,← hhl,hhs]
      rcases h with h | h
      ·rw [h]
      ·have:=zy1 (M:=znr (zbe xs) p m w) (hs:=hs) h (hs.length - k)
       rw [show k + (hs.length - k) = hs.length by omega] at this
       exact this.symm
     by_cases h3:k < hs.length
     ·by_cases h4:k ≤ zaw w
      ·have hsq:=hsq k
       have hs1:=hsq.small (zaw w - k) (zaw w)
       have hs2:=hsm k
       have hml:=hsq.len
       have hrl:=hsq.row (zaw w - k) (by omega)
       have hadd:zm3 (znr (zbe xs) p m w) (zaw w) hs (k + 1) = zm1 (zm3 (znr (zbe xs) p m w) (zaw w) hs k) (zaw w - k) (zaw w) (hs.getD k 0):=by rw [zm3,if_pos h4]
       generalize zm3 (znr (zbe xs) p m w) (zaw w) hs k = M at *
       have e1:(List.range (m + 1)).getD (zaw w - k) 0 = zaw w - k:=zFw (by omega)
       have hrow:=hb3.row (i:=zaw w - k) (by omega)
       rw [e1] at hrow
       have hw1:IntKind.i64.wrap ((zaw w:Int) - (k:Int)) = ((zaw w - k:Nat):Int):=by rw [zap (by omega) (by omega)];omega
       have hw2:IntKind.i64.wrap ((M.getD (zaw w - k) []).getD (zaw w) 0 + hs.getD k 0) = (M.getD (zaw w - k) []).getD (zaw w) 0 + hs.getD k 0:=zap (by omega) (by omega)
       simp (maxSteps:=5000000) -dsimp only [↓gp,gq,reduceCtorEq,reduceEqDiff,reduceLT,reduceLeDiff,reduceAdd,reduceMul,reduceSub,Nat.reduceBEq,Int.reduceToNat,Int.reduceLE,Int.reduceLT,Int.reduceNeg,reduceMod,zac,zad,zab,zaa,gT,TK.isInt,TK.agg,Array.toList,h1c,h2c,r2c,h5c,h7c,h8c,h9c,r48c,h10c,hw1,hb3.top,zjl,e1,hrow,hrl,zan,List.length_range,hw2]
       refine ⟨fun _=>⟨fun _=>⟨by kernel_rfl,by omega,by omega,by omega,by omega,by omega,by omega,h3,h3,by omega,by omega,by kernel_rfl,?_⟩,fun h=>absurd h4 h⟩,fun h=>absurd h3 h⟩
       exact zah ((k + 1,u)) (by refine ⟨?_,?_,?_,?_,?_,?_,?_,?_,?_,⟨by dsimp only;omega,by
        dsimp only
        rw [hadd]
        exact hb3.set (i:=zaw w - k) (by omega) (by simp (maxSteps:=5000000) -dsimp only [gr,reduceEqDiff,reduceLT,reduceAdd,reduceMod,Nat.reduceBEq,zaa,zac,zad,zab]) (by simp (maxSteps:=5000000) -dsimp only [gr,reduceEqDiff,reduceLT,reduceAdd,reduceMod,Nat.reduceBEq,zaa,zac,zad,zab,e1,h1c,h2c,r2c,h5c,h7c,h8c,h9c,r48c,h10c,hb3.top,hrow]) (fun x hx=>by simp (maxSteps:=5000000) -dsimp only [gr,reduceEqDiff,reduceLT,reduceAdd,reduceMod,Nat.reduceBEq,zaa,zac,zad,zab,e1 ▸ hx])⟩⟩ <;> (first | (simp (maxSteps:=5000000) -dsimp only [gr,reduceEqDiff,reduceLT,reduceAdd,reduceMod,Nat.reduceBEq,zaa,zac,zad,zab,h1c,h2c,r2c,h5c,h7c,h8c,h9c,r48c,h10c,zae h3 (by omega)];first | done | rfl | (simp;done)) | assumption | rfl)) (by first | omega | (simp only;omega) | (dsimp only;omega) | (show _ < _;simp;omega))
      ·have e:=hend (.inr (by omega))
       rw [e] at hb3
       simp (maxSteps:=5000000) -dsimp only [↓gp,gq,reduceCtorEq,reduceEqDiff,reduceLT,reduceLeDiff,reduceAdd,reduceMul,reduceSub,Nat.reduceBEq,Int.reduceToNat,Int.reduceLE,Int.reduceLT,Int.reduceNeg,reduceMod,zac,zad,zab,zaa,gT,TK.isInt,TK.agg,Array.toList,h1c,h2c,r2c,h5c,h7c,h8c,h9c,r48c,h10c]
       refine ⟨fun _=>⟨fun h=>absurd h h4,fun _=>?_⟩,fun h=>absurd h3 h⟩
       exact zah (w + 1) (by refine ⟨?_,?_,?_,?_,?_,⟨by omega,hb3.same (by simp (maxSteps:=5000000) -dsimp only [gr,reduceEqDiff,reduceLT,reduceAdd,reduceMod,Nat.reduceBEq,zaa,zac,zad,zab]) (fun x=>by simp (maxSteps:=5000000) -dsimp only [gr,reduceEqDiff,reduceLT,reduceAdd,reduceMod,Nat.reduceBEq,zaa,zac,zad,zab])⟩⟩ <;> (first | (simp (maxSteps:=5000000) -dsimp only [gr,reduceEqDiff,reduceLT,reduceAdd,reduceMod,Nat.reduceBEq,zaa,zac,zad,zab,h1b,h2b,r2b,h5b,h7b,h1c,h2c,r2c,h5c,h7c,h8c,h9c,r48c,h10c,zae h2 (by omega)];first | done | rfl | (simp;done)) | assumption | rfl)) (by first | omega | (simp only;omega) | (dsimp only;omega) | (show _ < _;simp;omega))
     ·have e:=hend (.inl (by omega))
      rw [e] at hb3
      simp (maxSteps:=5000000) -dsimp only [↓gp,gq,reduceCtorEq,reduceEqDiff,reduceLT,reduceLeDiff,reduceAdd,reduceMul,reduceSub,Nat.reduceBEq,Int.reduceToNat,Int.reduceLE,Int.reduceLT,Int.reduceNeg,reduceMod,zac,zad,zab,zaa,gT,TK.isInt,TK.agg,Array.toList,h1c,h2c,r2c,h5c,h7c,h8c,h9c,r48c,h10c]
      refine ⟨fun h=>absurd h h3,fun _=>?_⟩
      exact zah (w + 1) (by refine ⟨?_,?_,?_,?_,?_,⟨by omega,hb3.same (by simp (maxSteps:=5000000) -dsimp only [gr,reduceEqDiff,reduceLT,reduceAdd,reduceMod,Nat.reduceBEq,zaa,zac,zad,zab]) (fun x=>by simp (maxSteps:=5000000) -dsimp only [gr,reduceEqDiff,reduceLT,reduceAdd,reduceMod,Nat.reduceBEq,zaa,zac,zad,zab])⟩⟩ <;> (first | (simp (maxSteps:=5000000) -dsimp only [gr,reduceEqDiff,reduceLT,reduceAdd,reduceMod,Nat.reduceBEq,zaa,zac,zad,zab,h1b,h2b,r2b,h5b,h7b,h1c,h2c,r2c,h5c,h7c,h8c,h9c,r48c,h10c,zae h2 (by omega)];first | done | rfl | (simp;done)) | assumption | rfl)) (by first | omega | (simp only;omega) | (dsimp only;omega) | (show _ < _;simp;omega))
    ·have:w = 2 ^ m:=by omega
     subst this
     exact zyJ hb2 (by decide) (fun j hj=>by have:=List.mem_range.1 hj;omega)
 ·have hh:zvT n xs = false:=by simpa using hh
  rw [zrz (fun h=>by rw [h.1] at hh;cases hh)]
  exact zt6 (by simp (maxSteps:=5000000) -dsimp only [gr,reduceEqDiff,reduceLT,reduceAdd,reduceMod,Nat.reduceBEq,zaa,zac,zad,zab]) (by decide)
theorem zzL (n:Int) (xs:List Int) (p:Int):SqB (znm n xs p):=by
 unfold znm
 split
 ·rename_i h
  obtain ⟨h1,h6,_⟩:=zaS.1 (zgF.1 h.1).1
  exact .of (zy2 _ p (n:=n.toNat) (by omega)) (by omega)
 ·exact .nil
theorem zBg (M:Mat):(M.map iL).map (fun r=>PV.sl false 1 r) = iLL M:=by unfold iLL;rw [List.map_map];rfl
theorem zdz (n:Int) (xs:List Int) (p:Int):AC Tryz.prog 50 [.ag [int n,zaI xs],int p] (.fr 24 1 (iLL (znm n xs p))):=zBg (znm n xs p) ▸ (zhl n xs p).flat
noncomputable def zDY (n:Int) (xs:List Int) (p:Int):Int:=zvz (znm n xs p) (znm n xs p).length
theorem zkg (n:Int) (xs:List Int) (p:Int):AC Tryz.prog 51 [.ag [int n,zaI xs],int p] (.im (int (zDY n xs p))):=by
 refine AC.go (rs:=[.tmp 4]) zaQ zar Tryz.func51 rfl rfl rfl (by kernel_rfl) fun hl=>?_
 simp (maxSteps:=5000000) -dsimp only [↓gp,gq,reduceCtorEq,reduceEqDiff,reduceLT,reduceLeDiff,reduceAdd,reduceMul,reduceSub,Nat.reduceBEq,Int.reduceToNat,Int.reduceLE,Int.reduceLT,Int.reduceNeg,reduceMod,zac,zad,zab,zaa,gT,TK.isInt,TK.agg,Array.toList]
 refine zaf (zdz n xs p) ?_
 have hsq:=zzL n xs p
 unfold zDY
 generalize znm n xs p = M at *
 have hl7:=hsq.len
 simp (maxSteps:=5000000) -dsimp only [↓gp,gq,reduceCtorEq,reduceEqDiff,reduceLT,reduceLeDiff,reduceAdd,reduceMul,reduceSub,Nat.reduceBEq,Int.reduceToNat,Int.reduceLE,Int.reduceLT,Int.reduceNeg,reduceMod,zac,zad,zab,zaa,gT,TK.isInt,TK.agg,Array.toList]
 refine zam (fun (i:Nat) s=>s.sl 5 = int (zvz M i)∧s.sl 6 = .own 11 1∧s.rw 11 = ⟨1,.sli 24 1 false (iLL M)⟩∧s.sl 7 = int i∧(i ≤ M.length)) (fun i=>M.length - i) (0) (by refine ⟨?_,?_,?_,?_,by omega⟩ <;> (first | (simp (maxSteps:=5000000) -dsimp only [gr,reduceEqDiff,reduceLT,reduceAdd,reduceMod,Nat.reduceBEq,zaa,zac,zad,zab,zvz];first | done | rfl | (simp;done)) | assumption | rfl)) ?_
 intro i sa ⟨h5a,h6a,r11a,h7a,hIa⟩
 simp (maxSteps:=5000000) -dsimp only [↓gp,gq,reduceCtorEq,reduceEqDiff,reduceLT,reduceLeDiff,reduceAdd,reduceMul,reduceSub,Nat.reduceBEq,Int.reduceToNat,Int.reduceLE,Int.reduceLT,Int.reduceNeg,reduceMod,zac,zad,zab,zaa,gT,TK.isInt,TK.agg,Array.toList,h5a,h6a,r11a,h7a]
 refine ⟨fun h=>?_,fun h=>?_⟩
 ·have hr:=hsq.row i h
  have hnz0:nzR ((M.getD i []).take 0) = false:=rfl
  refine zam (fun (j:Nat) s=>s.sl 5 = int (if nzR ((M.getD i []).take j) = true then (i:Int) else zvz M i)∧s.sl 6 = .own 11 1∧s.rw 11 = ⟨1,.sli 24 1 false (iLL M)⟩∧s.sl 7 = int i∧s.sl 8 = int j∧(j ≤ M.length)) (fun j=>M.length - j) (0) (by refine ⟨?_,?_,?_,?_,?_,by omega⟩ <;> (first | (simp (maxSteps:=5000000) -dsimp only [gr,reduceEqDiff,reduceLT,reduceAdd,reduceMod,Nat.reduceBEq,zaa,zac,zad,zab,h5a,h6a,r11a,h7a,hnz0];first | done | rfl | (simp;done)) | assumption | rfl)) ?_
  intro j sb ⟨h5b,h6b,r11b,h7b,h8b,hIb⟩
  simp (maxSteps:=5000000) -dsimp only [↓gp,gq,reduceCtorEq,reduceEqDiff,reduceLT,reduceLeDiff,reduceAdd,reduceMul,reduceSub,Nat.reduceBEq,Int.reduceToNat,Int.reduceLE,Int.reduceLT,Int.reduceNeg,reduceMod,zac,zad,zab,zaa,gT,TK.isInt,TK.agg,Array.toList,h5b,h6b,r11b,h7b,h8b]
  refine ⟨fun h2=>?_,fun h2=>?_⟩
  ·have hs:=zBf (r:=M.getD i []) (k:=j) (by omega)
   simp (maxSteps:=5000000) -dsimp only [↓gp,gq,reduceCtorEq,reduceEqDiff,reduceLT,reduceLeDiff,reduceAdd,reduceMul,reduceSub,Nat.reduceBEq,Int.reduceToNat,Int.reduceLE,Int.reduceLT,Int.reduceNeg,reduceMod,zac,zad,zab,zaa,gT,TK.isInt,TK.agg,Array.toList,h5b,h6b,r11b,h7b,h8b,hr]
   refine ⟨h,h,h2,h2,fun h0=>?_,fun h0=>?_⟩
   ·rw [h0,Bool.or_true] at hs
    exact zah (j + 1) (by refine ⟨?_,?_,?_,?_,?_,by omega⟩ <;> (first | (simp (maxSteps:=5000000) -dsimp only [gr,reduceEqDiff,reduceLT,reduceAdd,reduceMod,Nat.reduceBEq,zaa,zac,zad,zab,h5b,h6b,r11b,h7b,h8b,zae h2 (by omega),hs];first | done | rfl | (simp;done)) | assumption | rfl)) (by first | omega | (simp only;omega) | (dsimp only;omega) | (show _ < _;simp;omega))
   ·rw [h0,Bool.or_false] at hs
    exact zah (j + 1) (by refine ⟨?_,?_,?_,?_,?_,by omega⟩ <;> (first | (simp (maxSteps:=5000000) -dsimp only [gr,reduceEqDiff,reduceLT,reduceAdd,reduceMod,Nat.reduceBEq,zaa,zac,zad,zab,h5b,h6b,r11b,h7b,h8b,zae h2 (by omega),hs];first | done | rfl | (simp;done)) | assumption | rfl)) (by first | omega | (simp only;omega) | (dsimp only;omega) | (show _ < _;simp;omega))
  ·have ht:(M.getD i []).take j = M.getD i []:=List.take_of_length_le (by omega)
   rw [ht] at h5b
   exact zah (i + 1) (by refine ⟨?_,?_,?_,?_,by omega⟩ <;> (first | (simp (maxSteps:=5000000) -dsimp only [gr,reduceEqDiff,reduceLT,reduceAdd,reduceMod,Nat.reduceBEq,zaa,zac,zad,zab,h5a,h6a,r11a,h7a,h5b,h6b,r11b,h7b,h8b,zae h (by omega),zvz];first | done | rfl | (simp;done)) | assumption | rfl)) (by first | omega | (simp only;omega) | (dsimp only;omega) | (show _ < _;simp;omega))
 ·have:i = M.length:=by omega
  rw [this]
noncomputable def zzJ (n:Int) (xs:List Int) (p:Int):List Int:=zee (znm n xs p) (zDY n xs p + 1).toNat
theorem zkM (M:Mat) (i:Nat):(zee M i).length = i:=by simp [zee]
theorem zzK {M:Mat} (hsq:SqB M) (i:Nat) {j:Nat} (hj:j < M.length):IntKind.i64.wrap (zqc (M.getD i []) j + (M.getD i []).getD j 0) = zqc (M.getD i []) (j + 1):=by
 have h1:=zvA (fun j=>hsq.small i j) j
 have h2:=hsq.small i j
 have h3:=hsq.len
 rw [zap (by omega) (by omega)];rfl
theorem zfJ (n:Int) (xs:List Int) (p:Int):AC Tryz.prog 23 [.ag [int n,zaI xs],int p] (.fr 3 1 (iL (zzJ n xs p))):=by
 refine AC.go (rs:=[.tmp 4]) zaQ zar Tryz.func23 rfl rfl rfl (by kernel_rfl) fun hl=>?_
 simp (maxSteps:=5000000) -dsimp only [↓gp,gq,reduceCtorEq,reduceEqDiff,reduceLT,reduceLeDiff,reduceAdd,reduceMul,reduceSub,Nat.reduceBEq,Int.reduceToNat,Int.reduceLE,Int.reduceLT,Int.reduceNeg,reduceMod,zac,zad,zab,zaa,gT,TK.isInt,TK.agg,Array.toList]
 refine zaf (zdz n xs p) ?_
 simp (maxSteps:=5000000) -dsimp only [↓gp,gq,reduceCtorEq,reduceEqDiff,reduceLT,reduceLeDiff,reduceAdd,reduceMul,reduceSub,Nat.reduceBEq,Int.reduceToNat,Int.reduceLE,Int.reduceLT,Int.reduceNeg,reduceMod,zac,zad,zab,zaa,gT,TK.isInt,TK.agg,Array.toList]
 refine zaf (zkg n xs p) ?_
 have hsq:=zzL n xs p
 unfold zzJ zDY
 generalize znm n xs p = M at *
 have hl7:=hsq.len
 have hlm:=zzF M M.length
 generalize zvz M M.length = last at *
 simp (maxSteps:=5000000) -dsimp only [↓gp,gq,reduceCtorEq,reduceEqDiff,reduceLT,reduceLeDiff,reduceAdd,reduceMul,reduceSub,Nat.reduceBEq,Int.reduceToNat,Int.reduceLE,Int.reduceLT,Int.reduceNeg,reduceMod,zac,zad,zab,zaa,gT,TK.isInt,TK.agg,Array.toList]
 refine zam (fun (za:Nat × Nat) s=>match za with | (i,v)=>s.sl 5 = .own 11 v∧s.rw 11 = ⟨v,.sli 3 1 false (iL (zee M i))⟩∧s.sl 6 = .own 14 1∧s.rw 14 = ⟨1,.sli 24 1 false (iLL M)⟩∧s.sl 7 = int last∧s.sl 8 = int i∧((i:Int) ≤ last + 1)) (fun (i,v)=>(last + 1 - i).toNat) ((0,1)) (by refine ⟨?_,?_,?_,?_,?_,?_,by omega⟩ <;> (first | (simp (maxSteps:=5000000) -dsimp only [gr,reduceEqDiff,reduceLT,reduceAdd,reduceMod,Nat.reduceBEq,zaa,zac,zad,zab];first | done | rfl | (simp;done)) | assumption | rfl)) ?_
 intro (i,v) sa ⟨h5a,r11a,h6a,r14a,h7a,h8a,hIa⟩
 have hrl:=zkM M i
 simp (maxSteps:=5000000) -dsimp only [↓gp,gq,reduceCtorEq,reduceEqDiff,reduceLT,reduceLeDiff,reduceAdd,reduceMul,reduceSub,Nat.reduceBEq,Int.reduceToNat,Int.reduceLE,Int.reduceLT,Int.reduceNeg,reduceMod,zac,zad,zab,zaa,gT,TK.isInt,TK.agg,Array.toList,h5a,r11a,h6a,r14a,h7a,h8a]
 refine ⟨fun h=>?_,fun h=>?_⟩
 ·have hi:i < M.length:=by omega
  have hr:=hsq.row i hi
  refine zam (fun (j:Nat) s=>s.sl 5 = .own 11 v∧s.rw 11 = ⟨v,.sli 3 1 false (iL (zee M i))⟩∧s.sl 6 = .own 14 1∧s.rw 14 = ⟨1,.sli 24 1 false (iLL M)⟩∧s.sl 7 = int last∧s.sl 8 = int i∧s.sl 9 = int (zqc (M.getD i []) j)∧s.sl 10 = int j∧(j ≤ M.length)) (fun j=>M.length - j) (0) (by refine ⟨?_,?_,?_,?_,?_,?_,?_,?_,by omega⟩ <;> (first | (simp (maxSteps:=5000000) -dsimp only [gr,reduceEqDiff,reduceLT,reduceAdd,reduceMod,Nat.reduceBEq,zaa,zac,zad,zab,h5a,r11a,h6a,r14a,h7a,h8a,zqc];first | done | rfl | (simp;done)) | assumption | rfl)) ?_
  intro j sb ⟨h5b,r11b,h6b,r14b,h7b,h8b,h9b,h10b,hIb⟩
  simp (maxSteps:=5000000) -dsimp only [↓gp,gq,reduceCtorEq,reduceEqDiff,reduceLT,reduceLeDiff,reduceAdd,reduceMul,reduceSub,Nat.reduceBEq,Int.reduceToNat,Int.reduceLE,Int.reduceLT,Int.reduceNeg,reduceMod,zac,zad,zab,zaa,gT,TK.isInt,TK.agg,Array.toList,h5b,r11b,h6b,r14b,h7b,h8b,h9b,h10b,hr]
  refine ⟨fun h2=>?_,fun h2=>?_⟩
  ·have hw:=zzK hsq i h2
   simp (maxSteps:=5000000) -dsimp only [↓gp,gq,reduceCtorEq,reduceEqDiff,reduceLT,reduceLeDiff,reduceAdd,reduceMul,reduceSub,Nat.reduceBEq,Int.reduceToNat,Int.reduceLE,Int.reduceLT,Int.reduceNeg,reduceMod,zac,zad,zab,zaa,gT,TK.isInt,TK.agg,Array.toList,h5b,r11b,h6b,r14b,h7b,h8b,h9b,h10b,hr,hw]
   refine ⟨hi,hi,h2,h2,zah (j + 1) (by refine ⟨?_,?_,?_,?_,?_,?_,?_,?_,by omega⟩ <;> (first | (simp (maxSteps:=5000000) -dsimp only [gr,reduceEqDiff,reduceLT,reduceAdd,reduceMod,Nat.reduceBEq,zaa,zac,zad,zab,h5b,r11b,h6b,r14b,h7b,h8b,h9b,h10b,zae h2 (by omega),hw];first | done | rfl | (simp;done)) | assumption | rfl)) (by first | omega | (simp only;omega) | (dsimp only;omega) | (show _ < _;simp;omega))⟩
  ·have:j = M.length:=by omega
   subst this
   have e:=zqd M i
   refine ⟨by omega,zah ((i + 1,v + 1)) (by refine ⟨?_,?_,?_,?_,?_,?_,by dsimp only;omega⟩ <;> (first | (simp (maxSteps:=5000000) -dsimp only [gr,reduceEqDiff,reduceLT,reduceAdd,reduceMod,Nat.reduceBEq,zaa,zac,zad,zab,h5a,r11a,h6a,r14a,h7a,h8a,h5b,r11b,h6b,r14b,h7b,h8b,h9b,h10b,zae hi (by omega),e];first | done | rfl | (simp;done)) | assumption | rfl)) (by first | omega | (simp only;omega) | (dsimp only;omega) | (show _ < _;simp;omega))⟩
 ·have:(last + 1).toNat = i:=by omega
  rw [this]
def zcr (xs:List Int) (s:Nat):Bool:=xs.all fun x=>!(x.toNat &&& s == x.toNat)
theorem zrx {xs:List Int} {k s:Nat} (h:k < xs.length):zcr (xs.take (k + 1)) s = (zcr (xs.take k) s && !((xs.getD k 0).toNat &&& s == (xs.getD k 0).toNat)):=by
 unfold zcr
 rw [zaK 0 h,List.all_append];simp
theorem zry {x:Int} (hx:0 ≤ x∧x < 64) {s:Nat} (hs:s < 64):(zcS .i64 x (s:Int) != x) = !(x.toNat &&& s == x.toNat):=by
 have e:x = ((x.toNat:Nat):Int):=by omega
 rw [e,za8 (by omega) (by omega),Int.toNat_natCast]
 show (!(_ == _)) = _
 congr 1
 refine Bool.eq_iff_iff.2 ?_
 rw [beq_iff_eq,beq_iff_eq]
 omega
noncomputable def apF (n:Int) (xs:List Int) (s:Nat):Bool:=decide (s < 2 ^ n.toNat) && zcr xs s
theorem znl (n:Nat) (xs:List Int) (hn:n ≤ 6) (hx:okS xs):AC Tryz.prog 45 [int n,zaI xs] (.ag [.im (int n),.fr 3 1 (iL (ofN (zg9 (apF n xs) true)))]):=by
 refine AC.go (rs:=[.cell 4 36]) zaQ zar Tryz.func45 rfl rfl rfl (by kernel_rfl) fun hl=>?_
 simp only [zav,zaC,and_true,zaT,zby,za5,zaL,zcl,true_and] at hl
 have h64:=zaO hn
 have hsh:zz1 .i64 1 (n:Int) = ((2 ^ n:Nat):Int):=zcg hn
 have hun:IntKind.u64.wrap (n:Int) = (n:Int):=ze5 (by omega)
 simp (maxSteps:=5000000) -dsimp only [↓gp,gq,reduceCtorEq,reduceEqDiff,reduceLT,reduceLeDiff,reduceAdd,reduceMul,reduceSub,Nat.reduceBEq,Int.reduceToNat,Int.reduceLE,Int.reduceLT,Int.reduceNeg,reduceMod,zac,zad,zab,zaa,gT,TK.isInt,TK.agg,Array.toList]
 refine zam (fun (za:Nat × Nat) s=>match za with | (t,v)=>s.sl 0 = int n∧s.sl 1 = zaI xs∧s.sl 4 = .ref 4 1 0∧s.rw 4 = ⟨1,.box 36 [int 0,.v (.slice none 0 0)]⟩∧s.sl 5 = .own 9 v∧s.rw 9 = ⟨v,.sli 3 1 false (iL (ofN ((List.range t).filter (zcr xs))))⟩∧s.sl 6 = int t∧(t ≤ 2 ^ n)) (fun (t,v)=>2 ^ n - t) ((0,1)) (by refine ⟨?_,?_,?_,?_,?_,?_,?_,by simp⟩ <;> (first | (simp (maxSteps:=5000000) -dsimp only [gr,reduceEqDiff,reduceLT,reduceAdd,reduceMod,Nat.reduceBEq,zaa,zac,zad,zab];first | done | rfl | (simp;done)) | assumption | rfl)) ?_
 intro (t,v) sa ⟨h0a,h1a,h4a,r4a,h5a,r9a,h6a,hIa⟩
 have hfl:((List.range t).filter (zcr xs)).length ≤ 64:=by
  have:=List.length_filter_le (zcr xs) (List.range t)
  rw [List.length_range] at this
  omega
 simp (maxSteps:=5000000) -dsimp only [↓gp,gq,reduceCtorEq,reduceEqDiff,reduceLT,reduceLeDiff,reduceAdd,reduceMul,reduceSub,Nat.reduceBEq,Int.reduceToNat,Int.reduceLE,Int.reduceLT,Int.reduceNeg,reduceMod,zac,zad,zab,zaa,gT,TK.isInt,TK.agg,Array.toList,h0a,h1a,h4a,r4a,h5a,r9a,h6a,hsh,hun]
 refine ⟨fun h=>?_,fun h=>?_⟩
 ·have hyes:zcr xs t = true→ofN ((List.range (t + 1)).filter (zcr xs)) = ofN ((List.range t).filter (zcr xs)) ++ [(t:Int)]:=fun h=>by
   rw [List.range_succ,List.filter_append,za2]
   simp [h,ofN]
  have hno:zcr xs t = false→ofN ((List.range (t + 1)).filter (zcr xs)) = ofN ((List.range t).filter (zcr xs)):=fun h=>by
   rw [List.range_succ,List.filter_append,za2]
   simp [h,ofN]
  have hz:zcr (xs.take 0) t = true:=rfl
  refine zam (fun (k:Nat) s=>s.sl 0 = int n∧s.sl 1 = zaI xs∧s.sl 4 = .ref 4 1 0∧s.rw 4 = ⟨1,.box 36 [int 0,.v (.slice none 0 0)]⟩∧s.sl 5 = .own 9 v∧s.rw 9 = ⟨v,.sli 3 1 false (iL (ofN ((List.range t).filter (zcr xs))))⟩∧s.sl 6 = int t∧s.sl 7 = .v (.bool (zcr (xs.take k) t))∧s.sl 8 = int k∧(k ≤ xs.length)) (fun k=>xs.length - k) (0) (by refine ⟨?_,?_,?_,?_,?_,?_,?_,?_,?_,by omega⟩ <;> (first | (simp (maxSteps:=5000000) -dsimp only [gr,reduceEqDiff,reduceLT,reduceAdd,reduceMod,Nat.reduceBEq,zaa,zac,zad,zab,h0a,h1a,h4a,r4a,h5a,r9a,h6a,hz];first | done | rfl | (simp;done)) | assumption | rfl)) ?_
  intro k sb ⟨h0b,h1b,h4b,r4b,h5b,r9b,h6b,h7b,h8b,hIb⟩
  by_cases hk:k < xs.length
  ·have hs2:=zrx (s:=t) hk
   have htest:=zry (zua hx hk) (s:=t) (by omega)
   simp (maxSteps:=5000000) -dsimp only [↓gp,gq,reduceCtorEq,reduceEqDiff,reduceLT,reduceLeDiff,reduceAdd,reduceMul,reduceSub,Nat.reduceBEq,Int.reduceToNat,Int.reduceLE,Int.reduceLT,Int.reduceNeg,reduceMod,zac,zad,zab,zaa,gT,TK.isInt,TK.agg,Array.toList,h0b,h1b,h4b,r4b,h5b,r9b,h6b,h7b,h8b,htest]
   refine ⟨fun _=>⟨by kernel_rfl,fun h3=>⟨hk,hk,hk,hk,?_⟩,fun h3=>?_⟩,fun h=>absurd hk h⟩
   ·rw [h3,Bool.true_and] at hs2
    exact zah (k + 1) (by refine ⟨?_,?_,?_,?_,?_,?_,?_,?_,?_,by omega⟩ <;> (first | (simp (maxSteps:=5000000) -dsimp only [gr,reduceEqDiff,reduceLT,reduceAdd,reduceMod,Nat.reduceBEq,zaa,zac,zad,zab,h0b,h1b,h4b,r4b,h5b,r9b,h6b,h7b,h8b,zae hk (by omega),hs2];first | done | rfl | (simp;done)) | assumption | rfl)) (by first | omega | (simp only;omega) | (dsimp only;omega) | (show _ < _;simp;omega))
   ·rw [h3,Bool.false_and] at hs2
    exact zah (k + 1) (by refine ⟨?_,?_,?_,?_,?_,?_,?_,?_,?_,by omega⟩ <;> (first | (simp (maxSteps:=5000000) -dsimp only [gr,reduceEqDiff,reduceLT,reduceAdd,reduceMod,Nat.reduceBEq,zaa,zac,zad,zab,h0b,h1b,h4b,r4b,h5b,r9b,h6b,h7b,h8b,zae hk (by omega),hs2];first | done | rfl | (simp;done)) | assumption | rfl)) (by first | omega | (simp only;omega) | (dsimp only;omega) | (show _ < _;simp;omega))
  ·have ht:xs.take k = xs:=List.take_of_length_le (by omega)
   rw [ht] at h7b
   simp (maxSteps:=5000000) -dsimp only [↓gp,gq,reduceCtorEq,reduceEqDiff,reduceLT,reduceLeDiff,reduceAdd,reduceMul,reduceSub,Nat.reduceBEq,Int.reduceToNat,Int.reduceLE,Int.reduceLT,Int.reduceNeg,reduceMod,zac,zad,zab,zaa,gT,TK.isInt,TK.agg,Array.toList,h0b,h1b,h4b,r4b,h5b,r9b,h6b,h7b,h8b]
   refine ⟨fun h=>absurd h hk,fun _=>⟨fun hb=>?_,fun hb=>?_⟩⟩
   ·have e:=hyes hb
    exact ⟨by rw [zaq];omega,zah ((t + 1,v + 1)) (by refine ⟨?_,?_,?_,?_,?_,?_,?_,by dsimp only;omega⟩ <;> (first | (simp (maxSteps:=5000000) -dsimp only [gr,reduceEqDiff,reduceLT,reduceAdd,reduceMod,Nat.reduceBEq,zaa,zac,zad,zab,h0a,h1a,h4a,r4a,h5a,r9a,h6a,h0b,h1b,h4b,r4b,h5b,r9b,h6b,h7b,h8b,zae h (by omega),e];first | done | rfl | (simp;done)) | assumption | rfl)) (by first | omega | (simp only;omega) | (dsimp only;omega) | (show _ < _;simp;omega))⟩
   ·have e:=hno hb
    exact zah ((t + 1,v)) (by refine ⟨?_,?_,?_,?_,?_,?_,?_,by dsimp only;omega⟩ <;> (first | (simp (maxSteps:=5000000) -dsimp only [gr,reduceEqDiff,reduceLT,reduceAdd,reduceMod,Nat.reduceBEq,zaa,zac,zad,zab,h0a,h1a,h4a,r4a,h5a,r9a,h6a,h0b,h1b,h4b,r4b,h5b,r9b,h6b,h7b,h8b,zae h (by omega),e];first | done | rfl | (simp;done)) | assumption | rfl)) (by first | omega | (simp only;omega) | (dsimp only;omega) | (show _ < _;simp;omega))
 ·have:t = 2 ^ n:=by omega
  subst this
  refine zaf (zd8 n _ (zub fun i hi=>?_)) ?_
  ·have:=List.mem_range.1 (List.mem_filter.1 hi).1;omega
  ·have e:inF (ofN ((List.range (2 ^ n)).filter (zcr xs))) = apF n xs:=by funext s;exact zAN
   rw [e]
   simp (maxSteps:=5000000) -dsimp only [↓gp,gq,reduceCtorEq,reduceEqDiff,reduceLT,reduceLeDiff,reduceAdd,reduceMul,reduceSub,Nat.reduceBEq,Int.reduceToNat,Int.reduceLE,Int.reduceLT,Int.reduceNeg,reduceMod,zac,zad,zab,zaa,gT,TK.isInt,TK.agg,Array.toList,h0a,h1a,h4a,r4a,h5a,r9a,h6a]
end Go.Proofs.YtjikeknpidbceaaGreat

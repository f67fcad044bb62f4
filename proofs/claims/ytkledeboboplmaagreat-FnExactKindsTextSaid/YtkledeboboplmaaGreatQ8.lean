/- DERIVED by an AI agent. -/
import Derived.Test.YtkledeboboplmaaGreatQ7
import Derived.Test.YtkledeboboplmaaGreatQ4
import Derived.Test.YtkledeboboplmaaGreatQ6
import Derived.Test.YtkledeboboplmaaGreatQ1
import Derived.Test.YtkledeboboplmaaGreatA13
import Derived.Test.YtkledeboboplmaaGreatQ5
namespace Go.Proofs.YtkledeboboplmaaGreat
open Go.Abs
open Nat (reduceEqDiff reduceMod reduceAdd reduceLT reduceLeDiff reduceSub reduceMul)
set_option linter.unusedSimpArgs false
set_option linter.unusedVariables false
theorem zGz {n:Int} {xs ys:List Int} (hx:zaV n xs = true) (hy:zaV n ys = true) (h:kyX xs = kyX ys):xs = ys:=by
 rw [zAz hx,zAz hy]
 refine congrArg ofN (zhO (fun s hs=>?_) true)
 rw [← za5 (zal xs) hs,← za5 (zal ys) hs]
 exact congrArg (fun k=>Nat.testBit k s) h
def zAQ (m b:Nat) (g:Mf):Prop:=∀ ys,zaV (m:Int) ys = true→(g (kyX ys) = 1→zuX ys = true)∧(g (kyX ys) ≠ 0→g (kyX ys) ≠ 1→usX ys < b→zuX ys = false)
def OkM (m b:Nat) (g:Mf) (xs:List Int) (R:Bool × Mf):Prop:=R.1 = zuX xs∧zAQ m b R.2∧∀ ys,zaV (m:Int) ys = true→usX xs < usX ys→R.2 (kyX ys) = g (kyX ys)
theorem zuV (f:Mf) (a y:Int):zqz f a y a = y:=if_pos rfl
theorem zuW (f:Mf) {a b:Int} (y:Int) (h:b ≠ a):zqz f a y b = f b:=if_neg h
theorem zBs {m:Nat} {xs ys:List Int} (hx:zaV (m:Int) xs = true) (hy:zaV (m:Int) ys = true) (h:ys ≠ xs):((kyX ys:Nat):Int) ≠ ((kyX xs:Nat):Int):=fun e=>h (zGz hy hx (by omega))
theorem zGA {m r:Nat} (ih:∀ xs g b,zaV (m:Int) xs = true→usX xs < r→usX xs < b→zAQ m b g→OkM m b g xs (wkF r xs g)) {xs:List Int} (hx:zaV (m:Int) xs = true) (hu:usX xs < r + 1) {p:Nat} (hp:p < 6) {e:Mf} (hI:zAQ m (usX xs) e) :
 (spF (wkF r) xs p e).1 = zAR xs p∧zAQ m (usX xs) (spF (wkF r) xs p e).2∧∀ ys,zaV (m:Int) ys = true→usX xs ≤ usX ys→(spF (wkF r) xs p e).2 (kyX ys) = e (kyX ys):=by
 unfold spF zAR
 cases hs:zqF xs p
 ·rw [if_neg (by decide)]
  exact ⟨rfl,hI,fun _ _ _=>rfl⟩
 ·rw [if_pos rfl]
  have hf:=zgT hs
  have u1:=zzw hx hp hf
  have u2:=zzx hx hp hf
  obtain ⟨a1,a2,a3⟩:=ih (lkX xs p) e (usX xs) (zqG hx hp) (by omega) u1 hI
  generalize wkF r (lkX xs p) e = a at *
  rw [Bool.true_and,← a1]
  cases ha:a.1
  ·rw [if_neg (by decide)]
   exact ⟨rfl,a2,fun ys hy hl=>a3 ys hy (by omega)⟩
  ·rw [if_pos rfl]
   obtain ⟨b1,b2,b3⟩:=ih (dlX xs p) a.2 (usX xs) (zr5 hx p) (by omega) u2 a2
   exact ⟨by rw [b1];rfl,b2,fun ys hy hl=>(b3 ys hy (by omega)).trans (a3 ys hy (by omega))⟩
theorem zHL {m r b:Nat} (ih:∀ xs g b,zaV (m:Int) xs = true→usX xs < r→usX xs < b→zAQ m b g→OkM m b g xs (wkF r xs g)) {xs:List Int} (hx:zaV (m:Int) xs = true) (hu:usX xs < r + 1) (h1:¬ xs.length ≤ 1) {g:Mf} (hg:zAQ m b g) :
 ∀ (n p:Nat) (e:Mf),p + n = 6→zAQ m (usX xs) e→(∀ q,q < p→zAR xs q = false)→e (kyX xs) = 2→(∀ ys,zaV (m:Int) ys = true→ys ≠ xs→usX xs ≤ usX ys→e (kyX ys) = g (kyX ys))→OkM m b g xs (lpF (spF (wkF r) xs) (kyX xs) n p e):=by
 have hde:=zzy hx
 rw [decide_eq_false h1,Bool.false_or] at hde
 have hmix:∀ (e:Mf) (v:Int),(∀ ys,zaV (m:Int) ys = true→ys ≠ xs→usX xs ≤ usX ys→e (kyX ys) = g (kyX ys))→zAQ m (usX xs) e→e (kyX xs) = v→(v = 1→zuX xs = true)→(v ≠ 1→zuX xs = false)→zAQ m b e:=fun e v hfr hI hv h1 h2 ys hy=>by
  by_cases hyx:ys = xs
  ·subst hyx
   rw [hv]
   exact ⟨h1,fun _ h _=>h2 h⟩
  ·by_cases hlt:usX ys < usX xs
   ·exact ⟨(hI ys hy).1,fun a b _=>(hI ys hy).2 a b hlt⟩
   ·rw [hfr ys hy hyx (by omega)];exact hg ys hy
 have hfar:∀ ys,usX xs < usX ys→ys ≠ xs:=fun ys h e=>by rw [e] at h;omega
 intro n
 induction n with
 | zero =>
   intro p e hp hI hall he hfr
   have hd:zuX xs = false:=by
    rw [hde,List.any_eq_false]
    intro q hq
    rw [hall q (by have:=List.mem_range.1 hq;omega)];decide
   exact ⟨hd.symm,hmix e 2 hfr hI he (fun h=>absurd h (by decide)) (fun _=>hd),fun ys hy hl=>hfr ys hy (hfar ys hl) (by omega)⟩
 | succ n ihn =>
   intro p e hp hI hall he hfr
   obtain ⟨a1,a2,a3⟩:=zGA ih hx hu (p:=p) (by omega) hI
   rw [lpF]
   generalize spF (wkF r) xs p e = a at *
   have hfr2:∀ ys,zaV (m:Int) ys = true→ys ≠ xs→usX xs ≤ usX ys→a.2 (kyX ys) = g (kyX ys):=fun ys hy hne hl=>(a3 ys hy hl).trans (hfr ys hy hne hl)
   cases ha:a.1
   ·rw [if_neg (by decide)]
    exact ihn (p + 1) a.2 (by omega) a2 (fun q hq=>by
     rcases Nat.lt_succ_iff_lt_or_eq.1 hq with hq | rfl
     ·exact hall q hq
     ·rw [← a1,ha]) ((a3 xs hx (Nat.le_refl _)).trans he) hfr2
   ·rw [if_pos rfl]
    have hd:zuX xs = true:=by
     rw [hde,List.any_eq_true]
     exact ⟨p,List.mem_range.2 (by omega),by rw [← a1,ha]⟩
    have hfr3:∀ ys,zaV (m:Int) ys = true→ys ≠ xs→usX xs ≤ usX ys→zqz a.2 (kyX xs) 1 (kyX ys) = g (kyX ys):=fun ys hy hne hl=>by
     rw [zuW _ _ (zBs hx hy hne)];exact hfr2 ys hy hne hl
    refine ⟨hd.symm,hmix _ 1 hfr3 (fun ys hy=>?_) (zuV _ _ _) (fun _=>hd) (fun h=>absurd rfl h),fun ys hy hl=>hfr3 ys hy (hfar ys hl) (by omega)⟩
    by_cases hyx:ys = xs
    ·subst hyx
     show (zqz a.2 _ 1 _ = 1→_)∧(zqz a.2 _ 1 _ ≠ 0→zqz a.2 _ 1 _ ≠ 1→_)
     rw [zuV]
     exact ⟨fun _=>hd,fun _ h=>absurd rfl h⟩
    ·show (zqz a.2 _ 1 _ = 1→_)∧(zqz a.2 _ 1 _ ≠ 0→zqz a.2 _ 1 _ ≠ 1→_)
     rw [zuW _ _ (zBs hx hy hyx)];exact a2 ys hy
theorem zHM (m:Nat):∀ (r:Nat) (xs:List Int) (g:Mf) (b:Nat),zaV (m:Int) xs = true→usX xs < r→usX xs < b→zAQ m b g→OkM m b g xs (wkF r xs g):=by
 intro r
 induction r with
 | zero=>intro xs g b _ h;omega
 | succ r ih =>
   intro xs g b hx hu hb hg
   rw [wkF]
   by_cases h1:xs.length ≤ 1
   ·rw [if_pos h1]
    exact ⟨by rw [zzy hx,decide_eq_true h1];rfl,hg,fun _ _ _=>rfl⟩
   rw [if_neg h1]
   by_cases h2:g (kyX xs) ≠ 0
   ·rw [if_pos h2]
    refine ⟨?_,hg,fun _ _ _=>rfl⟩
    obtain ⟨q1,q2⟩:=hg xs hx
    show (g (kyX xs) == 1) = _
    by_cases h3:g (kyX xs) = 1
    ·rw [q1 h3,h3];rfl
    ·rw [q2 h2 h3 hb];exact beq_eq_false_iff_ne.2 h3
   ·rw [if_neg h2]
    refine zHL ih hx hu h1 hg 6 0 _ rfl (fun ys hy=>?_) (fun q h=>absurd h (Nat.not_lt_zero q)) (zuV _ _ _) (fun ys hy hne _=>zuW _ _ (zBs hx hy hne))
    by_cases hyx:ys = xs
    ·subst hyx
     rw [zuV]
     exact ⟨fun h=>absurd h (by decide),fun _ _ h=>absurd h (Nat.lt_irrefl _)⟩
    ·rw [zuW _ _ (zBs hx hy hyx)]
     exact ⟨(hg ys hy).1,fun a c h=>(hg ys hy).2 a c (by omega)⟩
theorem zGB {m:Nat} {xs:List Int} (h:zaV (m:Int) xs = true):(wkF 7 xs fun _=>0).1 = zuX xs:=by
 have:=zBu xs
 exact (zHM m 7 xs (fun _=>0) 7 h (by omega) (by omega) fun ys _=>⟨fun h=>absurd (show (0:Int) = 1 from h) (by decide),fun h=>absurd rfl h⟩).1
theorem zzp (ver:Nat) (f:Mf) (K:Prop):zgB ⟨ver,.mp f⟩ ver (kk K) = K:=by simp [zgB,RK.slice,kk]
theorem zfA:AG Tryz.prog 47 [] (fun _=>⟨0,.dead⟩) zzt:=by
 refine AG.go (rs:=[.cell 0 53]) zaL mixed Tryz.func47 rfl rfl rfl (by kernel_rfl) fun hl hrl z hz hr=>?_
 have yl:∀ j,z.rw j = ⟨0,.dead⟩:=hr
 clear hz hr
 simp (maxSteps:=9^7) -dsimp only [↓gp,gq,reduceCtorEq,reduceEqDiff,reduceLT,reduceLeDiff,reduceAdd,reduceMul,reduceSub,Nat.reduceBEq,Int.reduceToNat,Int.reduceLE,Int.reduceLT,Int.reduceNeg,reduceMod,gT,yl,zzp]
 exact ⟨1,1,rfl,by simp (maxSteps:=9^7) -dsimp only [gr,reduceEqDiff,reduceLT,reduceAdd,reduceMod,Nat.reduceBEq,yl]⟩
theorem ze4 (n:Int) (xs:List Int):AC Tryz.prog 25 [.ag [int n,zaH xs]] (.im (bool (zBw n xs))):=by
 refine AC.go (rs:=[.tmp 2]) zaL mixed Tryz.func25 rfl rfl rfl (by kernel_rfl) fun hl=>?_
 simp (maxSteps:=9^7) -dsimp only [↓gp,gq,reduceCtorEq,reduceEqDiff,reduceLT,reduceLeDiff,reduceAdd,reduceMul,reduceSub,Nat.reduceBEq,Int.reduceToNat,Int.reduceLE,Int.reduceLT,Int.reduceNeg,reduceMod,gT]
 refine ⟨by kernel_rfl,zab (zaC n xs) ?_⟩
 simp (maxSteps:=9^7) -dsimp only [↓gp,gq,reduceCtorEq,reduceEqDiff,reduceLT,reduceLeDiff,reduceAdd,reduceMul,reduceSub,Nat.reduceBEq,Int.reduceToNat,Int.reduceLE,Int.reduceLT,Int.reduceNeg,reduceMod,gT]
 unfold zBw
 refine ⟨fun h=>?_,fun h=>?_⟩
 ·obtain ⟨h1,h6,_⟩:=za2.1 h
  obtain ⟨m,rfl⟩:∃ m:Nat,n = m:=⟨n.toNat,by omega⟩
  have hu:=zBu xs
  refine zzu 999 zfA (by decide) ?_
  simp (maxSteps:=9^7) -dsimp only [↓gp,gq,reduceCtorEq,reduceEqDiff,reduceLT,reduceLeDiff,reduceAdd,reduceMul,reduceSub,Nat.reduceBEq,Int.reduceToNat,Int.reduceLE,Int.reduceLT,Int.reduceNeg,reduceMod,gT]
  refine zab (zb2 m xs (zcQ h)) ?_
  simp (maxSteps:=9^7) -dsimp only [↓gp,gq,reduceCtorEq,reduceEqDiff,reduceLT,reduceLeDiff,reduceAdd,reduceMul,reduceSub,Nat.reduceBEq,Int.reduceToNat,Int.reduceLE,Int.reduceLT,Int.reduceNeg,reduceMod,gT]
  have hA:=zqE m 7 xs (fun _=>0) h (by omega)
  refine zkv hA (plu _) (by simp (maxSteps:=9^7) -dsimp only [gr,reduceEqDiff,reduceLT,reduceAdd,reduceMod,Nat.reduceBEq]) (by decide) ?_
  rw [h,Bool.true_and,← zGB h]
  simp (maxSteps:=9^7) -dsimp only [↓gp,gq,reduceCtorEq,reduceEqDiff,reduceLT,reduceLeDiff,reduceAdd,reduceMul,reduceSub,Nat.reduceBEq,Int.reduceToNat,Int.reduceLE,Int.reduceLT,Int.reduceNeg,reduceMod,gT]
  kernel_rfl
 ·rw [h];rfl
def rcB (d:Int) (s:Nat) (x:Int):Bool:=(x.toNat &&& s == s) && decide ((zat x.toNat:Int) = d + 1)
def rcN (xs:List Int) (d:Int) (s j:Nat):Nat:=((xs.take j).filter (rcB d s)).length
theorem zof (xs:List Int) (d:Int) (s:Nat):rcN xs d s 0 = 0:=by unfold rcN;rw [List.take_zero];rfl
theorem zvl {xs:List Int} (d:Int) (s:Nat) {j:Nat} (h:j < xs.length):rcN xs d s (j + 1) = rcN xs d s j + if rcB d s (xs.getD j 0) = true then 1 else 0:=by
 unfold rcN
 rw [zay 0 h,List.filter_append,List.length_append]
 congr 1
 rw [List.filter_cons]
 split <;> rfl
theorem zDI (xs:List Int) (d:Int) (s j:Nat):rcN xs d s j ≤ xs.length:=by
 unfold rcN
 have h1:=List.length_filter_le (rcB d s) (xs.take j)
 have h2:=List.length_take_le j xs
 have h3:=List.length_take_le' j xs
 omega
noncomputable def rgL (n:Int) (xs:List Int):List Nat:=if zdE n xs < 0 then [] else zaN (zbb n xs) (zdE n xs).toNat 64
noncomputable def rcL (n:Int) (xs:List Int):List Int:=(rgL n xs).map fun s=>(rcN xs (zdE n xs) s xs.length:Int)
def csL (xs:List Int) (d:Int) (L:List Nat) (i j:Nat):List Int:=(List.range L.length).map fun t=>(rcN xs d (L.getD t 0) (if t < i then xs.length else if t = i then j else 0):Int)
theorem zAC (xs:List Int) (d:Int) (L:List Nat) (i j:Nat):(csL xs d L i j).length = L.length:=by simp [csL]
theorem zHf {xs:List Int} {d:Int} {L:List Nat} {i:Nat} (j:Nat) (h:i < L.length):(csL xs d L i j).getD i 0 = (rcN xs d (L.getD i 0) j:Int):=by
 rw [zb9 0 (by rw [zAC];exact h)]
 simp [csL]
theorem zE6 {xs:List Int} {d:Int} {L:List Nat} {i j:Nat} (h:i < L.length):(csL xs d L i j).set i (rcN xs d (L.getD i 0) (j + 1):Int) = csL xs d L i (j + 1):=by
 refine List.ext_getElem (by simp [csL]) fun t h1 h2=>?_
 rw [List.getElem_set]
 by_cases e:i = t
 ·subst e;rw [if_pos rfl];simp [csL]
 ·rw [if_neg e]
  simp only [csL,List.getElem_map,List.getElem_range]
  rw [if_neg (show ¬ t = i from fun h=>e h.symm)]
  rw [if_neg (show ¬ t = i from fun h=>e h.symm)]
theorem zvm {xs:List Int} {d:Int} {L:List Nat} {i j:Nat} (h:rcN xs d (L.getD i 0) (j + 1) = rcN xs d (L.getD i 0) j):csL xs d L i (j + 1) = csL xs d L i j:=by
 refine List.ext_getElem (by simp [csL]) fun t h1 h2=>?_
 simp only [csL,List.getElem_map,List.getElem_range]
 by_cases ht:t < i
 ·rw [if_pos ht,if_pos ht]
 ·rw [if_neg ht,if_neg ht]
  by_cases e:t = i
  ·rw [if_pos e,if_pos e,e,h]
  ·rw [if_neg e,if_neg e]
theorem zCc (xs:List Int) (d:Int) (L:List Nat):List.replicate L.length (0:Int) = csL xs d L 0 0:=by
 refine List.ext_getElem (by simp [csL]) fun t h1 h2=>?_
 simp [csL,zof]
theorem zCd (xs:List Int) (d:Int) (L:List Nat) (i:Nat):csL xs d L i xs.length = csL xs d L (i + 1) 0:=by
 refine List.ext_getElem (by simp [csL]) fun t h1 h2=>?_
 simp only [csL,List.getElem_map,List.getElem_range]
 by_cases h:t < i
 ·rw [if_pos h,if_pos (by omega)]
 ·rw [if_neg h]
  by_cases e:t = i
  ·rw [if_pos e,if_pos (by omega)]
  ·rw [if_neg e,if_neg (by omega)]
   split <;> rfl
theorem zE7 (xs:List Int) (d:Int) (L:List Nat):csL xs d L L.length 0 = L.map fun s=>(rcN xs d s xs.length:Int):=by
 refine List.ext_getElem (by simp [csL]) fun t h1 h2=>?_
 have ht:t < L.length:=by simpa [csL] using h1
 simp only [csL,List.getElem_map,List.getElem_range]
 rw [if_pos ht]
 simp [List.getD,ht]
theorem zjb {n:Int} {xs:List Int} (h:¬ zdE n xs < 0):zaV n xs = true∧∃ d:Nat,zdE n xs = d∧d ≤ 5:=by
 have hF:zmY n xs = true:=Classical.byContradiction fun hc=>h (by rw [show zdE n xs = -2 from if_neg hc];decide)
 have h1:=zm4 hF
 have h2:=zcA (zal xs)
 exact ⟨(zbV.1 hF).1,(zdE n xs).toNat,by omega,by omega⟩
theorem zk3 (n:Int) (xs:List Int) (hx:xs.length ≤ 1048576):AC Tryz.prog 81 [.ag [int n,zaH xs]] (.tup [.fr 3 1 (iL (ofN (rgL n xs))),.fr 3 1 (iL (rcL n xs))]):=by
 refine AC.go (rs:=[.tmp 2,.tmp 3]) zaL mixed Tryz.func81 rfl rfl rfl (by kernel_rfl) fun hl=>?_
 simp (maxSteps:=9^7) -dsimp only [↓gp,gq,reduceCtorEq,reduceEqDiff,reduceLT,reduceLeDiff,reduceAdd,reduceMul,reduceSub,Nat.reduceBEq,Int.reduceToNat,Int.reduceLE,Int.reduceLT,Int.reduceNeg,reduceMod,gT]
 refine zab (ze6 n xs) ?_
 simp (maxSteps:=9^7) -dsimp only [↓gp,gq,reduceCtorEq,reduceEqDiff,reduceLT,reduceLeDiff,reduceAdd,reduceMul,reduceSub,Nat.reduceBEq,Int.reduceToNat,Int.reduceLE,Int.reduceLT,Int.reduceNeg,reduceMod,gT]
 refine ⟨fun hd=>?_,fun hd=>?_⟩
 ·have e:rgL n xs = []:=if_pos hd
  unfold rcL
  rw [e]
  exact ⟨rfl,rfl⟩
 ·obtain ⟨hcx,d,hdd,hd6⟩:=zjb hd
  have hok:=zcQ hcx
  have e:rgL n xs = zaN (zbb n xs) d 64:=by unfold rgL;rw [if_neg hd,hdd,Int.toNat_natCast]
  have hLm:∀ s ∈ rgL n xs,s < 64:=fun s hs=>by rw [e] at hs;exact (zbW.1 hs).1
  have hLl:(rgL n xs).length ≤ 64:=by rw [e];exact zb5 _ _ (Nat.le_refl 64)
  unfold rcL
  rw [hdd]
  refine zab (zdt n xs d (by omega)) ?_
  rw [← e]
  generalize rgL n xs = L at *
  simp (maxSteps:=9^7) -dsimp only [↓gp,gq,reduceCtorEq,reduceEqDiff,reduceLT,reduceLeDiff,reduceAdd,reduceMul,reduceSub,Nat.reduceBEq,Int.reduceToNat,Int.reduceLE,Int.reduceLT,Int.reduceNeg,reduceMod,gT,zad]
  refine ⟨by omega,by omega,?_⟩
  have hz:List.replicate L.length (0:Int) = csL xs d L 0 0:=zCc xs d L
  refine zah (fun (i:Nat) s=>s.sl 1 = .ref 1 1 0∧s.rw 1 = ⟨1,.box 27 [int n,zaH xs]⟩∧s.sl 4 = int d∧s.sl 5 = .own 17 1∧s.rw 17 = ⟨1,.sli 3 1 false (iL (ofN L))⟩∧s.sl 6 = .own 20 1∧s.rw 20 = ⟨1,.sli 3 1 false (iL (csL xs d L i 0))⟩∧s.sl 21 = .own 17 1∧s.sl 22 = int L.length∧s.sl 23 = int i∧(i ≤ L.length)) (fun i=>L.length - i) (0) (by refine ⟨?_,?_,?_,?_,?_,?_,?_,?_,?_,?_,Nat.zero_le _⟩ <;> (first | (simp (maxSteps:=9^7) -dsimp only [gr,reduceEqDiff,reduceLT,reduceAdd,reduceMod,Nat.reduceBEq,hz];first | done | rfl | (simp;done)) | assumption | rfl)) ?_
  intro i sa ⟨h1a,r1a,h4a,h5a,r17a,h6a,r20a,h21a,h22a,h23a,hIa⟩
  simp (maxSteps:=9^7) -dsimp only [↓gp,gq,reduceCtorEq,reduceEqDiff,reduceLT,reduceLeDiff,reduceAdd,reduceMul,reduceSub,Nat.reduceBEq,Int.reduceToNat,Int.reduceLE,Int.reduceLT,Int.reduceNeg,reduceMod,gT,h1a,r1a,h4a,h5a,r17a,h6a,r20a,h21a,h22a,h23a,zad]
  refine ⟨fun hi=>⟨by omega,by omega,?_⟩,fun hi=>?_⟩
  ·have hge:(ofN L).getD i 0 = ((L.getD i 0:Nat):Int):=zaF hi
   have hs:=hLm _ (zan 0 hi)
   rw [hge]
   refine zah (fun (j:Nat) s=>s.sl 1 = .ref 1 1 0∧s.rw 1 = ⟨1,.box 27 [int n,zaH xs]⟩∧s.sl 4 = int d∧s.sl 5 = .own 17 1∧s.rw 17 = ⟨1,.sli 3 1 false (iL (ofN L))⟩∧s.sl 6 = .own 20 1∧s.rw 20 = ⟨1,.sli 3 1 false (iL (csL xs d L i j))⟩∧s.sl 7 = int i∧s.sl 8 = int (L.getD i 0)∧s.sl 21 = .own 17 1∧s.sl 22 = int L.length∧s.sl 23 = int i∧s.sl 29 = zaH xs∧s.sl 30 = int xs.length∧s.sl 31 = int j∧(j ≤ xs.length)) (fun j=>xs.length - j) (0) (by refine ⟨?_,?_,?_,?_,?_,?_,?_,?_,?_,?_,?_,?_,?_,?_,?_,Nat.zero_le _⟩ <;> (first | (simp (maxSteps:=9^7) -dsimp only [gr,reduceEqDiff,reduceLT,reduceAdd,reduceMod,Nat.reduceBEq,h1a,r1a,h4a,h5a,r17a,h6a,r20a,h21a,h22a,h23a];first | done | rfl | (simp;done)) | assumption | rfl)) ?_
   intro j sb ⟨h1b,r1b,h4b,h5b,r17b,h6b,r20b,h7b,h8b,h21b,h22b,h23b,h29b,h30b,h31b,hIb⟩
   simp (maxSteps:=9^7) -dsimp only [↓gp,gq,reduceCtorEq,reduceEqDiff,reduceLT,reduceLeDiff,reduceAdd,reduceMul,reduceSub,Nat.reduceBEq,Int.reduceToNat,Int.reduceLE,Int.reduceLT,Int.reduceNeg,reduceMod,gT,h1b,r1b,h4b,h5b,r17b,h6b,r20b,h7b,h8b,h21b,h22b,h23b,h29b,h30b,h31b]
   refine ⟨fun hj=>⟨by omega,by omega,zab (zaz _) ?_⟩,fun hj=>?_⟩
   ·have hxj:=hok _ (zan 0 hj)
    have hsz:=zcC hxj
    have hw:IntKind.i64.wrap ((d:Int) + 1) = ((d + 1:Nat):Int):=zaa (show d < 6 by omega) (by omega)
    have hsu:=zvl (d:Int) (L.getD i 0) hj
    have hle:=zDI xs d (L.getD i 0) j
    have hat:=zHf (xs:=xs) (d:=d) j hi
    have hlen:=zAC xs d L i j
    have hset:=zE6 (xs:=xs) (d:=(d:Int)) (j:=j) hi
    have hxn:xs.getD j 0 = (((xs.getD j 0).toNat:Nat):Int):=by omega
    have hand:(zcv .i64 ((L.getD i 0:Nat):Int) (xs.getD j 0) == 0) = ((xs.getD j 0).toNat &&& L.getD i 0 == L.getD i 0):=by
     rw [hxn,zbm (by omega) (by omega),Int.toNat_natCast]
     refine Bool.eq_iff_iff.2 ?_
     rw [beq_iff_eq,beq_iff_eq,Nat.and_comm (xs.getD j 0).toNat,← zbP]
     omega
    simp (maxSteps:=9^7) -dsimp only [↓gp,gq,reduceCtorEq,reduceEqDiff,reduceLT,reduceLeDiff,reduceAdd,reduceMul,reduceSub,Nat.reduceBEq,Int.reduceToNat,Int.reduceLE,Int.reduceLT,Int.reduceNeg,reduceMod,gT,h1b,r1b,h4b,h5b,r17b,h6b,r20b,h7b,h8b,h21b,h22b,h23b,h29b,h30b,h31b,hsz,hw,hand]
    have hrb:rcB (d:Int) (L.getD i 0) (xs.getD j 0) = (((xs.getD j 0).toNat &&& L.getD i 0 == L.getD i 0) && decide ((zat (xs.getD j 0).toNat:Int) = (d:Int) + 1)):=rfl
    refine ⟨fun h1=>⟨fun h2=>⟨by omega,by omega,by omega,by omega,?_⟩,fun h2=>?_⟩,fun h1=>?_⟩
    ·rw [if_pos (by rw [hrb,h2,Bool.true_and,decide_eq_true_iff];have:=beq_iff_eq.1 h1;omega)] at hsu
     have hw2:IntKind.i64.wrap ((rcN xs (d:Int) (L.getD i 0) j:Int) + 1) = (rcN xs (d:Int) (L.getD i 0) (j + 1):Int):=by rw [hsu,zap (by omega) (by omega)];omega
     exact zac (j + 1) (by refine ⟨?_,?_,?_,?_,?_,?_,?_,?_,?_,?_,?_,?_,?_,?_,?_,by omega⟩ <;> (first | (simp (maxSteps:=9^7) -dsimp only [gr,reduceEqDiff,reduceLT,reduceAdd,reduceMod,Nat.reduceBEq,h1b,r1b,h4b,h5b,r17b,h6b,r20b,h7b,h8b,h21b,h22b,h23b,h29b,h30b,h31b,hat,hw2,hset,zaa hj (by omega)];first | done | rfl | (simp;done)) | assumption | rfl)) (by first | omega | (simp only;omega) | (dsimp only;omega) | (show _ < _;simp;omega))
    ·rw [if_neg (by rw [hrb,h2];simp),Nat.add_zero] at hsu
     exact zac (j + 1) (by refine ⟨?_,?_,?_,?_,?_,?_,?_,?_,?_,?_,?_,?_,?_,?_,?_,by omega⟩ <;> (first | (simp (maxSteps:=9^7) -dsimp only [gr,reduceEqDiff,reduceLT,reduceAdd,reduceMod,Nat.reduceBEq,h1b,r1b,h4b,h5b,r17b,h6b,r20b,h7b,h8b,h21b,h22b,h23b,h29b,h30b,h31b,zvm hsu,zaa hj (by omega)];first | done | rfl | (simp;done)) | assumption | rfl)) (by first | omega | (simp only;omega) | (dsimp only;omega) | (show _ < _;simp;omega))
    ·rw [if_neg (by rw [hrb,Bool.and_eq_true,decide_eq_true_iff];rintro ⟨_,h⟩;have:=beq_eq_false_iff_ne.1 h1;omega),Nat.add_zero] at hsu
     exact zac (j + 1) (by refine ⟨?_,?_,?_,?_,?_,?_,?_,?_,?_,?_,?_,?_,?_,?_,?_,by omega⟩ <;> (first | (simp (maxSteps:=9^7) -dsimp only [gr,reduceEqDiff,reduceLT,reduceAdd,reduceMod,Nat.reduceBEq,h1b,r1b,h4b,h5b,r17b,h6b,r20b,h7b,h8b,h21b,h22b,h23b,h29b,h30b,h31b,zvm hsu,zaa hj (by omega)];first | done | rfl | (simp;done)) | assumption | rfl)) (by first | omega | (simp only;omega) | (dsimp only;omega) | (show _ < _;simp;omega))
   ·have:j = xs.length:=by omega
    rw [this,zCd] at r20b
    exact zac (i + 1) (by refine ⟨?_,?_,?_,?_,?_,?_,?_,?_,?_,?_,by omega⟩ <;> (first | (simp (maxSteps:=9^7) -dsimp only [gr,reduceEqDiff,reduceLT,reduceAdd,reduceMod,Nat.reduceBEq,h1a,r1a,h4a,h5a,r17a,h6a,r20a,h21a,h22a,h23a,h1b,r1b,h4b,h5b,r17b,h6b,r20b,h7b,h8b,h21b,h22b,h23b,h29b,h30b,h31b,zaa hi (by omega)];first | done | rfl | (simp;done)) | assumption | rfl)) (by first | omega | (simp only;omega) | (dsimp only;omega) | (show _ < _;simp;omega))
  ·have:i = L.length:=by omega
   rw [this,zE7]
theorem zAD {n:Int} {xs:List Int}:(rcL n xs).length ≤ 64:=by
 unfold rcL rgL
 rw [List.length_map]
 split
 ·simp
 ·exact zb5 _ _ (Nat.le_refl 64)
theorem zAE {s:St} (d e sz e2 sz2:Nat) (c c2:List PV):zak s d (.tup [.fr e sz c,.fr e2 sz2 c2]) =
 ((s.row (d + 1000) ⟨(s.rw (d + 1000)).ver + 1,.sli e2 sz2 false c2⟩).row d ⟨(s.rw d).ver + 1,.sli e sz false c⟩).put (some d) (.tup [.own d ((s.rw d).ver + 1),.own (d + 1000) ((s.rw (d + 1000)).ver + 1)]):=by
 unfold zak
 simp [zco,zbH,zag,zau,zaS,zce,zbv,zbK,zaj,St.row,zgO]
 rfl
theorem zE8 (n:Int) (xs:List Int):decide (0 < (rcL n xs).length) = decide (0 ≤ zdE n xs):=by
 have hl:(rcL n xs).length = (rgL n xs).length:=by unfold rcL;rw [List.length_map]
 rw [hl]
 by_cases hd:zdE n xs < 0
 ·rw [decide_eq_false (show ¬ 0 ≤ zdE n xs by omega),show rgL n xs = [] from if_pos hd];rfl
 ·rw [decide_eq_true (show 0 ≤ zdE n xs by omega),decide_eq_true_iff]
  obtain ⟨hcx,d,hdd,hd6⟩:=zjb hd
  have hF:zmY n xs = true:=Classical.byContradiction fun hc=>hd (by rw [show zdE n xs = -2 from if_neg hc];decide)
  obtain ⟨m,rfl,h1,h6,hdn,h0,hs⟩:=zja hF
  have hde:=zm4 hF
  have hdm:zbh (zal xs) = zil (zal xs) 64:=rfl
  obtain ⟨T,a,b,c⟩:=zkK (f:=zal xs) 64 (by omega)
  have hT:T ≠ 0:=fun e=>by
   subst e
   have:zat 0 = 0:=by decide +kernel
   omega
  obtain ⟨v,hv⟩:∃ v,T.testBit v = true:=Classical.byContradiction fun hc=>hT (Nat.eq_of_testBit_eq fun i=>by
   rw [Nat.zero_testBit]
   cases h:T.testBit i with
   | false=>rfl
   | true=>exact absurd ⟨i,h⟩ hc)
  have hv6:v < 6:=Classical.byContradiction fun hc=>by
   have h1:=Nat.ge_two_pow_of_testBit hv
   have:(2:Nat) ^ 6 ≤ 2 ^ v:=Nat.pow_le_pow_right (by omega) (by omega)
   omega
  obtain ⟨x1,x2⟩:=zkU hv
  have hx64:=zAc a hv6
  have hp:=zq6 _ hx64 v hv6 x1
  rw [x2] at hp
  have hsub:T &&& (T ^^^ 2 ^ v) = T ^^^ 2 ^ v:=by
   have:=zel (a:=T ^^^ 2 ^ v) (v:=v)
   rwa [x2] at this
  refine List.length_pos_of_mem (a:=T ^^^ 2 ^ v) ?_
  unfold rgL
  rw [if_neg hd,hdd,Int.toNat_natCast,zbW]
  refine ⟨hx64,?_,by omega⟩
  unfold zbb
  rw [hcx,Bool.true_and]
  exact hdn _ _ b hsub
theorem zhg (n:Int) (xs:List Int) (hx:xs.length ≤ 1048576):AC Tryz.prog 54 [.ag [int n,zaH xs]] (.fr 3 1 (iL (rcL n xs))):=by
 refine AC.go (rs:=[.tmp 2]) zaL mixed Tryz.func54 rfl rfl rfl (by kernel_rfl) fun hl=>?_
 simp (maxSteps:=9^7) -dsimp only [↓gp,gq,reduceCtorEq,reduceEqDiff,reduceLT,reduceLeDiff,reduceAdd,reduceMul,reduceSub,Nat.reduceBEq,Int.reduceToNat,Int.reduceLE,Int.reduceLT,Int.reduceNeg,reduceMod,gT]
 refine zab (zk3 n xs hx) ?_
 simp (maxSteps:=9^7) -dsimp only [↓gp,gq,reduceCtorEq,reduceEqDiff,reduceLT,reduceLeDiff,reduceAdd,reduceMul,reduceSub,Nat.reduceBEq,Int.reduceToNat,Int.reduceLE,Int.reduceLT,Int.reduceNeg,reduceMod,gT,zAE]
noncomputable def zCe (n:Int) (xs:List Int):Bool:=puB n xs && (decide (0 ≤ zdE n xs) && (rcL n xs).all fun x=>decide (x = 2))
theorem zk4 (n:Int) (xs:List Int) (hx:xs.length ≤ 1048576):AC Tryz.prog 28 [.ag [int n,zaH xs]] (.im (bool (zCe n xs))):=by
 refine AC.go (rs:=[.tmp 2]) zaL mixed Tryz.func28 rfl rfl rfl (by kernel_rfl) fun hl=>?_
 simp (maxSteps:=9^7) -dsimp only [↓gp,gq,reduceCtorEq,reduceEqDiff,reduceLT,reduceLeDiff,reduceAdd,reduceMul,reduceSub,Nat.reduceBEq,Int.reduceToNat,Int.reduceLE,Int.reduceLT,Int.reduceNeg,reduceMod,gT]
 refine zab (zhc n xs) ?_
 simp (maxSteps:=9^7) -dsimp only [↓gp,gq,reduceCtorEq,reduceEqDiff,reduceLT,reduceLeDiff,reduceAdd,reduceMul,reduceSub,Nat.reduceBEq,Int.reduceToNat,Int.reduceLE,Int.reduceLT,Int.reduceNeg,reduceMod,gT]
 unfold zCe
 refine ⟨fun hp=>zab (ze6 n xs) ?_,fun hp=>?_⟩
 ·have hp:puB n xs = true:=by simpa using hp
  rw [hp,Bool.true_and]
  by_cases hd0:zdE n xs < 0
  ·rw [decide_eq_false (show ¬ 0 ≤ zdE n xs by omega),Bool.false_and]
   simp (maxSteps:=9^7) -dsimp only [↓gp,gq,reduceCtorEq,reduceEqDiff,reduceLT,reduceLeDiff,reduceAdd,reduceMul,reduceSub,Nat.reduceBEq,Int.reduceToNat,Int.reduceLE,Int.reduceLT,Int.reduceNeg,reduceMod,gT]
   exact fun h=>absurd hd0 h
  ·rw [decide_eq_true (show 0 ≤ zdE n xs by omega),Bool.true_and]
   simp (maxSteps:=9^7) -dsimp only [↓gp,gq,reduceCtorEq,reduceEqDiff,reduceLT,reduceLeDiff,reduceAdd,reduceMul,reduceSub,Nat.reduceBEq,Int.reduceToNat,Int.reduceLE,Int.reduceLT,Int.reduceNeg,reduceMod,gT]
   refine ⟨fun hd=>absurd hd hd0,fun hd=>zab (zhg n xs hx) ?_⟩
   have hlen:=zAD (n:=n) (xs:=xs)
   generalize rcL n xs = R at *
   simp (maxSteps:=9^7) -dsimp only [↓gp,gq,reduceCtorEq,reduceEqDiff,reduceLT,reduceLeDiff,reduceAdd,reduceMul,reduceSub,Nat.reduceBEq,Int.reduceToNat,Int.reduceLE,Int.reduceLT,Int.reduceNeg,reduceMod,gT]
   refine zah (fun (k:Nat) s=>s.sl 14 = .own 14 1∧s.rw 14 = ⟨1,.sli 3 1 false (iL R)⟩∧s.sl 15 = int R.length∧s.sl 16 = int k∧(k ≤ R.length∧(∀ i,i < k→R.getD i 0 = 2))) (fun k=>R.length - k) (0) (by refine ⟨?_,?_,?_,?_,by simp⟩ <;> (first | (simp (maxSteps:=9^7) -dsimp only [gr,reduceEqDiff,reduceLT,reduceAdd,reduceMod,Nat.reduceBEq];first | done | rfl | (simp;done)) | assumption | rfl)) ?_
   intro k sa ⟨h14a,r14a,h15a,h16a,hIa⟩
   obtain ⟨hk,hall⟩:=hIa
   simp (maxSteps:=9^7) -dsimp only [↓gp,gq,reduceCtorEq,reduceEqDiff,reduceLT,reduceLeDiff,reduceAdd,reduceMul,reduceSub,Nat.reduceBEq,Int.reduceToNat,Int.reduceLE,Int.reduceLT,Int.reduceNeg,reduceMod,gT,h14a,r14a,h15a,h16a]
   refine ⟨fun h=>⟨h,h,fun h2=>?_,fun h2=>?_⟩,fun h=>?_⟩
   ·exact zCi h (p:=fun x=>decide (x = 2)) (decide_eq_false (bne_iff_ne.1 h2))
   ·exact zac (k + 1) (by refine ⟨?_,?_,?_,?_,⟨by omega,fun i hi=>by
     by_cases e:i = k
     ·rw [e];simpa using h2
     ·exact hall i (by omega)⟩⟩ <;> (first | (simp (maxSteps:=9^7) -dsimp only [gr,reduceEqDiff,reduceLT,reduceAdd,reduceMod,Nat.reduceBEq,h14a,r14a,h15a,h16a,zaa h (by omega)];first | done | rfl | (simp;done)) | assumption | rfl)) (by first | omega | (simp only;omega) | (dsimp only;omega) | (show _ < _;simp;omega))
   ·exact zwE (l:=R) (p:=fun x=>decide (x = 2)) fun i hi=>decide_eq_true (hall i (by omega))
 ·rw [show puB n xs = false by simpa using hp];rfl
theorem ziG (n:Int) (xs:List Int) (hd:¬ zdE n xs < 0):AC Tryz.prog 67 [.ag [int n,zaH xs]] (.fr 3 1 (iL (ofN (rgL n xs)))):=by
 refine AC.go (rs:=[.tmp 2]) zaL mixed Tryz.func67 rfl rfl rfl (by kernel_rfl) fun hl=>?_
 simp (maxSteps:=9^7) -dsimp only [↓gp,gq,reduceCtorEq,reduceEqDiff,reduceLT,reduceLeDiff,reduceAdd,reduceMul,reduceSub,Nat.reduceBEq,Int.reduceToNat,Int.reduceLE,Int.reduceLT,Int.reduceNeg,reduceMod,gT]
 refine ⟨by kernel_rfl,zab (zch n xs) ?_⟩
 obtain ⟨_,d,hdd,_⟩:=zjb hd
 have e:rgL n xs = zaN (zbb n xs) d 64:=by unfold rgL;rw [if_neg hd,hdd,Int.toNat_natCast]
 rw [e,hdd]
 simp (maxSteps:=9^7) -dsimp only [↓gp,gq,reduceCtorEq,reduceEqDiff,reduceLT,reduceLeDiff,reduceAdd,reduceMul,reduceSub,Nat.reduceBEq,Int.reduceToNat,Int.reduceLE,Int.reduceLT,Int.reduceNeg,reduceMod,gT]
 refine zab (zcb n xs d) ?_
 simp (maxSteps:=9^7) -dsimp only [↓gp,gq,reduceCtorEq,reduceEqDiff,reduceLT,reduceLeDiff,reduceAdd,reduceMul,reduceSub,Nat.reduceBEq,Int.reduceToNat,Int.reduceLE,Int.reduceLT,Int.reduceNeg,reduceMod,gT]
theorem zhh (n:Int) (xs:List Int) (hx:xs.length ≤ 1048576):AC Tryz.prog 41 [.ag [int n,zaH xs]] (.fr 3 1 (iL (rcL n xs))):=by
 refine AC.go (rs:=[.tmp 2]) zaL mixed Tryz.func41 rfl rfl rfl (by kernel_rfl) fun hl=>?_
 simp (maxSteps:=9^7) -dsimp only [↓gp,gq,reduceCtorEq,reduceEqDiff,reduceLT,reduceLeDiff,reduceAdd,reduceMul,reduceSub,Nat.reduceBEq,Int.reduceToNat,Int.reduceLE,Int.reduceLT,Int.reduceNeg,reduceMod,gT]
 refine zab (zch n xs) ?_
 simp (maxSteps:=9^7) -dsimp only [↓gp,gq,reduceCtorEq,reduceEqDiff,reduceLT,reduceLeDiff,reduceAdd,reduceMul,reduceSub,Nat.reduceBEq,Int.reduceToNat,Int.reduceLE,Int.reduceLT,Int.reduceNeg,reduceMod,gT]
 refine ⟨fun hd=>?_,fun hd=>zab (ziG n xs hd) ?_⟩
 ·have e:rgL n xs = []:=if_pos hd
  unfold rcL
  rw [e];rfl
 ·obtain ⟨hcx,d,hdd,hd6⟩:=zjb hd
  have hok:=zcQ hcx
  have e:rgL n xs = zaN (zbb n xs) d 64:=by unfold rgL;rw [if_neg hd,hdd,Int.toNat_natCast]
  have hLm:∀ s ∈ rgL n xs,s < 64:=fun s hs=>by rw [e] at hs;exact (zbW.1 hs).1
  have hLl:(rgL n xs).length ≤ 64:=by rw [e];exact zb5 _ _ (Nat.le_refl 64)
  have hdim:=zch n xs
  unfold rcL
  rw [hdd] at hdim ⊢
  generalize rgL n xs = L at *
  simp (maxSteps:=9^7) -dsimp only [↓gp,gq,reduceCtorEq,reduceEqDiff,reduceLT,reduceLeDiff,reduceAdd,reduceMul,reduceSub,Nat.reduceBEq,Int.reduceToNat,Int.reduceLE,Int.reduceLT,Int.reduceNeg,reduceMod,gT,zad]
  have hz:((L.take 0).map fun s=>(rcN xs (d:Int) s xs.length:Int)) = []:=rfl
  have hzi:iL ([]:List Int) = []:=rfl
  refine zah (fun (za:Nat × Nat) s=>match za with | (i,v)=>s.sl 1 = .ref 1 1 0∧s.rw 1 = ⟨1,.box 27 [int n,zaH xs]⟩∧s.sl 3 = .own 8 v∧s.rw 8 = ⟨v,.sli 3 1 false (iL ((L.take i).map fun s=>(rcN xs (d:Int) s xs.length:Int)))⟩∧s.sl 4 = .own 14 1∧s.rw 14 = ⟨1,.sli 3 1 false (iL (ofN L))⟩∧s.sl 5 = int i∧(i ≤ L.length)) (fun (i,v)=>L.length - i) ((0,1)) (by refine ⟨?_,?_,?_,?_,?_,?_,?_,Nat.zero_le _⟩ <;> (first | (simp (maxSteps:=9^7) -dsimp only [gr,reduceEqDiff,reduceLT,reduceAdd,reduceMod,Nat.reduceBEq,hz,hzi];first | done | rfl | (simp;done)) | assumption | rfl)) ?_
  intro (i,v) sa ⟨h1a,r1a,h3a,r8a,h4a,r14a,h5a,hIa⟩
  simp (maxSteps:=9^7) -dsimp only [↓gp,gq,reduceCtorEq,reduceEqDiff,reduceLT,reduceLeDiff,reduceAdd,reduceMul,reduceSub,Nat.reduceBEq,Int.reduceToNat,Int.reduceLE,Int.reduceLT,Int.reduceNeg,reduceMod,gT,h1a,r1a,h3a,r8a,h4a,r14a,h5a,zad]
  refine ⟨fun hi=>?_,fun hi=>?_⟩
  ·have hge:(ofN L).getD i 0 = ((L.getD i 0:Nat):Int):=zaF hi
   have hs:=hLm _ (zan 0 hi)
   have hz2:((0:Nat):Int) = (rcN xs (d:Int) (L.getD i 0) 0:Int):=by rw [zof]
   refine zah (fun (j:Nat) s=>s.sl 1 = .ref 1 1 0∧s.rw 1 = ⟨1,.box 27 [int n,zaH xs]⟩∧s.sl 3 = .own 8 v∧s.rw 8 = ⟨v,.sli 3 1 false (iL ((L.take i).map fun s=>(rcN xs (d:Int) s xs.length:Int)))⟩∧s.sl 4 = .own 14 1∧s.rw 14 = ⟨1,.sli 3 1 false (iL (ofN L))⟩∧s.sl 5 = int i∧s.sl 6 = int (rcN xs (d:Int) (L.getD i 0) j)∧s.sl 7 = int j∧(j ≤ xs.length)) (fun j=>xs.length - j) (0) (by refine ⟨?_,?_,?_,?_,?_,?_,?_,?_,?_,Nat.zero_le _⟩ <;> (first | (simp (maxSteps:=9^7) -dsimp only [gr,reduceEqDiff,reduceLT,reduceAdd,reduceMod,Nat.reduceBEq,h1a,r1a,h3a,r8a,h4a,r14a,h5a,zof];first | done | rfl | (simp;done)) | assumption | rfl)) ?_
   intro j sb ⟨h1b,r1b,h3b,r8b,h4b,r14b,h5b,h6b,h7b,hIb⟩
   simp (maxSteps:=9^7) -dsimp only [↓gp,gq,reduceCtorEq,reduceEqDiff,reduceLT,reduceLeDiff,reduceAdd,reduceMul,reduceSub,Nat.reduceBEq,Int.reduceToNat,Int.reduceLE,Int.reduceLT,Int.reduceNeg,reduceMod,gT,h1b,r1b,h3b,r8b,h4b,r14b,h5b,h6b,h7b]
   refine ⟨fun hj=>?_,fun hj=>?_⟩
   ·have hxj:=hok _ (zan 0 hj)
    have hw:IntKind.i64.wrap ((d:Int) + 1) = ((d + 1:Nat):Int):=zaa (show d < 6 by omega) (by omega)
    have hsu:=zvl (d:Int) (L.getD i 0) hj
    have hle:=zDI xs d (L.getD i 0) j
    obtain ⟨t,ht,ht6⟩:∃ t:Nat,xs.getD j 0 = t∧t < 64:=⟨(xs.getD j 0).toNat,by omega,by omega⟩
    have hand:(zfO .i64 (t:Int) ((L.getD i 0:Nat):Int) == ((L.getD i 0:Nat):Int)) = (t &&& L.getD i 0 == L.getD i 0):=by
     rw [za7 (by omega) (by omega)]
     refine Bool.eq_iff_iff.2 ?_
     rw [beq_iff_eq,beq_iff_eq]
     omega
    have hrb:rcB (d:Int) (L.getD i 0) (xs.getD j 0) = ((t &&& L.getD i 0 == L.getD i 0) && decide ((zat t:Int) = (d:Int) + 1)):=by rw [ht];unfold rcB;rw [Int.toNat_natCast]
    rw [hrb] at hsu
    simp (maxSteps:=9^7) -dsimp only [↓gp,gq,reduceCtorEq,reduceEqDiff,reduceLT,reduceLeDiff,reduceAdd,reduceMul,reduceSub,Nat.reduceBEq,Int.reduceToNat,Int.reduceLE,Int.reduceLT,Int.reduceNeg,reduceMod,gT,h1b,r1b,h3b,r8b,h4b,r14b,h5b,h6b,h7b,zad,hge,hand,ht]
    refine ⟨by kernel_rfl,hj,hj,hi,hi,hi,hi,fun h1=>⟨hj,hj,zab (zaP t (by omega)) ?_⟩,fun h1=>?_⟩
    ·rw [h1,Bool.true_and] at hsu
     simp (maxSteps:=9^7) -dsimp only [↓gp,gq,reduceCtorEq,reduceEqDiff,reduceLT,reduceLeDiff,reduceAdd,reduceMul,reduceSub,Nat.reduceBEq,Int.reduceToNat,Int.reduceLE,Int.reduceLT,Int.reduceNeg,reduceMod,gT,h1b,r1b,h3b,r8b,h4b,r14b,h5b,h6b,h7b,hw]
     refine zab hdim ?_
     simp (maxSteps:=9^7) -dsimp only [↓gp,gq,reduceCtorEq,reduceEqDiff,reduceLT,reduceLeDiff,reduceAdd,reduceMul,reduceSub,Nat.reduceBEq,Int.reduceToNat,Int.reduceLE,Int.reduceLT,Int.reduceNeg,reduceMod,gT,h1b,r1b,h3b,r8b,h4b,r14b,h5b,h6b,h7b,hw]
     refine zab (zin _) ?_
     have hb:IntKind.i64.wrap ((rcN xs (d:Int) (L.getD i 0) j:Int) + (if ((zat t:Int) == ((d + 1:Nat):Int)) = true then 1 else 0)) = (rcN xs (d:Int) (L.getD i 0) (j + 1):Int):=by
      rw [hsu]
      by_cases h2:(zat t:Int) = (d:Int) + 1
      ·rw [if_pos (beq_iff_eq.2 (by omega)),if_pos (decide_eq_true h2),zap (by omega) (by omega)];omega
      ·rw [if_neg (fun h=>h2 (by have:=beq_iff_eq.1 h;omega)),if_neg (fun h=>h2 (of_decide_eq_true h)),zap (by omega) (by omega)];omega
     simp (maxSteps:=9^7) -dsimp only [↓gp,gq,reduceCtorEq,reduceEqDiff,reduceLT,reduceLeDiff,reduceAdd,reduceMul,reduceSub,Nat.reduceBEq,Int.reduceToNat,Int.reduceLE,Int.reduceLT,Int.reduceNeg,reduceMod,gT,h1b,r1b,h3b,r8b,h4b,r14b,h5b,h6b,h7b,hb]
     exact zac (j + 1) (by refine ⟨?_,?_,?_,?_,?_,?_,?_,?_,?_,by omega⟩ <;> (first | (simp (maxSteps:=9^7) -dsimp only [gr,reduceEqDiff,reduceLT,reduceAdd,reduceMod,Nat.reduceBEq,h1b,r1b,h3b,r8b,h4b,r14b,h5b,h6b,h7b,hb,zaa hj (by omega)];first | done | rfl | (simp;done)) | assumption | rfl)) (by first | omega | (simp only;omega) | (dsimp only;omega) | (show _ < _;simp;omega))
    ·rw [h1,Bool.false_and,if_neg (by decide),Nat.add_zero] at hsu
     refine zab (zin _) ?_
     have hb:IntKind.i64.wrap ((rcN xs (d:Int) (L.getD i 0) j:Int) + 0) = (rcN xs (d:Int) (L.getD i 0) (j + 1):Int):=by rw [hsu,zap (by omega) (by omega)];omega
     simp (maxSteps:=9^7) -dsimp only [↓gp,gq,reduceCtorEq,reduceEqDiff,reduceLT,reduceLeDiff,reduceAdd,reduceMul,reduceSub,Nat.reduceBEq,Int.reduceToNat,Int.reduceLE,Int.reduceLT,Int.reduceNeg,reduceMod,gT,h1b,r1b,h3b,r8b,h4b,r14b,h5b,h6b,h7b,hb]
     exact zac (j + 1) (by refine ⟨?_,?_,?_,?_,?_,?_,?_,?_,?_,by omega⟩ <;> (first | (simp (maxSteps:=9^7) -dsimp only [gr,reduceEqDiff,reduceLT,reduceAdd,reduceMod,Nat.reduceBEq,h1b,r1b,h3b,r8b,h4b,r14b,h5b,h6b,h7b,hb,zaa hj (by omega)];first | done | rfl | (simp;done)) | assumption | rfl)) (by first | omega | (simp only;omega) | (dsimp only;omega) | (show _ < _;simp;omega))
   ·have:j = xs.length:=by omega
    have hsn:(L.take (i + 1)).map (fun s=>(rcN xs (d:Int) s xs.length:Int)) = (L.take i).map (fun s=>(rcN xs (d:Int) s xs.length:Int)) ++ [(rcN xs (d:Int) (L.getD i 0) j:Int)]:=by rw [this,zay 0 hi,List.map_append];rfl
    refine ⟨by rw [List.length_map,List.length_take];omega,?_⟩
    exact zac ((i + 1,v + 1)) (by refine ⟨?_,?_,?_,?_,?_,?_,?_,by dsimp only;omega⟩ <;> (first | (simp (maxSteps:=9^7) -dsimp only [gr,reduceEqDiff,reduceLT,reduceAdd,reduceMod,Nat.reduceBEq,h1a,r1a,h3a,r8a,h4a,r14a,h5a,h1b,r1b,h3b,r8b,h4b,r14b,h5b,h6b,h7b,hsn,zaa hi (by omega)];first | done | rfl | (simp;done)) | assumption | rfl)) (by first | omega | (simp only;omega) | (dsimp only;omega) | (show _ < _;simp;omega))
  ·have:i = L.length:=by omega
   rw [this,List.take_length]
theorem zk5 (n:Int) (xs:List Int) (hx:xs.length ≤ 1048576):AC Tryz.prog 17 [.ag [int n,zaH xs]] (.im (bool (zCe n xs))):=by
 refine AC.go (rs:=[.tmp 2]) zaL mixed Tryz.func17 rfl rfl rfl (by kernel_rfl) fun hl=>?_
 simp (maxSteps:=9^7) -dsimp only [↓gp,gq,reduceCtorEq,reduceEqDiff,reduceLT,reduceLeDiff,reduceAdd,reduceMul,reduceSub,Nat.reduceBEq,Int.reduceToNat,Int.reduceLE,Int.reduceLT,Int.reduceNeg,reduceMod,gT]
 refine zab (zhh n xs hx) ?_
 have hne:=zE8 n xs
 have hlen:=zAD (n:=n) (xs:=xs)
 unfold zCe
 generalize rcL n xs = R at *
 simp (maxSteps:=9^7) -dsimp only [↓gp,gq,reduceCtorEq,reduceEqDiff,reduceLT,reduceLeDiff,reduceAdd,reduceMul,reduceSub,Nat.reduceBEq,Int.reduceToNat,Int.reduceLE,Int.reduceLT,Int.reduceNeg,reduceMod,gT]
 refine zah (fun (k:Nat) s=>s.sl 1 = .ref 1 1 0∧s.rw 1 = ⟨1,.box 27 [int n,zaH xs]⟩∧s.sl 3 = .own 6 1∧s.rw 6 = ⟨1,.sli 3 1 false (iL R)⟩∧s.sl 4 = int k∧(k ≤ R.length∧(∀ i,i < k→R.getD i 0 = 2))) (fun k=>R.length - k) (0) (by refine ⟨?_,?_,?_,?_,?_,by simp⟩ <;> (first | (simp (maxSteps:=9^7) -dsimp only [gr,reduceEqDiff,reduceLT,reduceAdd,reduceMod,Nat.reduceBEq];first | done | rfl | (simp;done)) | assumption | rfl)) ?_
 intro k sa ⟨h1a,r1a,h3a,r6a,h4a,hIa⟩
 obtain ⟨hk,hall⟩:=hIa
 simp (maxSteps:=9^7) -dsimp only [↓gp,gq,reduceCtorEq,reduceEqDiff,reduceLT,reduceLeDiff,reduceAdd,reduceMul,reduceSub,Nat.reduceBEq,Int.reduceToNat,Int.reduceLE,Int.reduceLT,Int.reduceNeg,reduceMod,gT,h1a,r1a,h3a,r6a,h4a]
 refine ⟨fun h=>⟨h,h,fun h2=>?_,fun h2=>?_⟩,fun h=>?_⟩
 ·rw [zCi h (p:=fun x=>decide (x = 2)) (decide_eq_false (bne_iff_ne.1 h2)),Bool.and_false,Bool.and_false]
 ·exact zac (k + 1) (by refine ⟨?_,?_,?_,?_,?_,⟨by omega,fun i hi=>by
   by_cases e:i = k
   ·rw [e];simpa using h2
   ·exact hall i (by omega)⟩⟩ <;> (first | (simp (maxSteps:=9^7) -dsimp only [gr,reduceEqDiff,reduceLT,reduceAdd,reduceMod,Nat.reduceBEq,h1a,r1a,h3a,r6a,h4a,zaa h (by omega)];first | done | rfl | (simp;done)) | assumption | rfl)) (by first | omega | (simp only;omega) | (dsimp only;omega) | (show _ < _;simp;omega))
 ·rw [zwE (l:=R) (p:=fun x=>decide (x = 2)) fun i hi=>decide_eq_true (hall i (by omega)),Bool.and_true,← hne]
  refine zab (zhb n xs) ?_
  simp (maxSteps:=9^7) -dsimp only [↓gp,gq,reduceCtorEq,reduceEqDiff,reduceLT,reduceLeDiff,reduceAdd,reduceMul,reduceSub,Nat.reduceBEq,Int.reduceToNat,Int.reduceLE,Int.reduceLT,Int.reduceNeg,reduceMod,gT,h1a,r1a,h3a,r6a,h4a]
  refine ⟨fun h=>?_,fun h=>?_⟩
  ·rw [h,Bool.true_and]
   exact decide_eq_decide.2 (by omega)
  ·rw [h];rfl
theorem zAF:∀ (l:List UInt8) (a:ByteArray),((l.map fun x=>(x.toNat:Int)).foldl (fun r n=>r.push (UInt8.ofNat n.toNat)) a) = ⟨(a.data.toList ++ l).toArray⟩:=by
 intro l
 induction l with
 | nil=>intro a;simp
 | cons x l ih =>
   intro a
   rw [List.map_cons,List.foldl_cons,ih]
   have:UInt8.ofNat ((x.toNat:Int)).toNat = x:=by simp
   rw [this]
   congr 1
   simp [ByteArray.push]
theorem zwy (ver e:Nat) (fz:Bool) (b:ByteArray) {Kp:PV→Prop}:zAS ⟨ver,.sli e 1 fz (zga b)⟩ ver Kp = Kp (.v (.string b)):=by
 unfold zAS
 simp only [true_and]
 have hb:zga b = (b.data.toList.map fun x=>(x.toNat:Int)).map (fun n=>PV.v (.int .u8 n)):=by simp [zga]
 have hf:=zAF b.data.toList ByteArray.empty
 have hf:((b.data.toList.map fun x=>(x.toNat:Int)).foldl (fun r n=>r.push (UInt8.ofNat n.toNat)) ByteArray.empty) = b:=by
  rw [hf];show (⟨(([]:List UInt8) ++ b.data.toList).toArray⟩:ByteArray) = b;simp
 refine propext ⟨fun ⟨bs,h1,h2⟩=>?_,fun h=>⟨_,hb,by rw [hf];exact h⟩⟩
 rw [hb] at h1
 have:b.data.toList.map (fun x=>(x.toNat:Int)) = bs:=(List.map_inj_right (fun x y h=>by simpa using h)).1 h1
 rw [← this,hf] at h2
 exact h2
theorem zf9 (a b:ByteArray):zga a ++ zga b = zga (a ++ b):=by
 unfold zga
 rw [← List.map_append,ByteArray.data_append,Array.toList_append]
theorem zCh:zga ⟨#[]⟩ = []:=rfl
def zdj (l:List ByteArray) (sep:ByteArray):Nat→ByteArray | 0=>⟨#[]⟩ | i + 1=>(if i = 0 then zdj l sep i else zdj l sep i ++ sep) ++ l.getD i ⟨#[]⟩
theorem zsC (l:List ByteArray) (sep:ByteArray) (hN:l.length ≤ 1000000000000) (hb:∀ i,i ≤ l.length→(zdj l sep i).size + sep.size ≤ 70000000000000):AC Tryz.prog 19 [.sl false 1 (sL l),str sep] (.im (str (zdj l sep l.length))):=by
 refine AC.go (rs:=[.tmp 4]) zaL mixed Tryz.func19 rfl rfl rfl (by kernel_rfl) fun hl=>?_
 simp only [zaJ,zaX,and_true,zbM,zc6,zcm,zbx,zcl,true_and] at hl
 simp (maxSteps:=9^7) -dsimp only [↓gp,gq,reduceCtorEq,reduceEqDiff,reduceLT,reduceLeDiff,reduceAdd,reduceMul,reduceSub,Nat.reduceBEq,Int.reduceToNat,Int.reduceLE,Int.reduceLT,Int.reduceNeg,reduceMod,gT]
 refine zah (fun (za:Nat × Nat) s=>match za with | (i,v)=>s.sl 0 = .sl false 1 (sL l)∧s.sl 1 = str sep∧s.sl 5 = .own 7 v∧s.rw 7 = ⟨v,.sli 5 1 false (zga (zdj l sep i))⟩∧s.sl 6 = int i∧(i ≤ l.length)) (fun (i,v)=>l.length - i) ((0,1)) (by refine ⟨?_,?_,?_,?_,?_,by omega⟩ <;> (first | (simp (maxSteps:=9^7) -dsimp only [gr,reduceEqDiff,reduceLT,reduceAdd,reduceMod,Nat.reduceBEq,zdj,zCh];first | done | rfl | (simp;done)) | assumption | rfl)) ?_
 intro (i,v) sa ⟨h0a,h1a,h5a,r7a,h6a,hIa⟩
 have hsl:(sL l).length = l.length:=by simp [sL]
 have hbi:=hb i hIa
 simp (maxSteps:=9^7) -dsimp only [↓gp,gq,reduceCtorEq,reduceEqDiff,reduceLT,reduceLeDiff,reduceAdd,reduceMul,reduceSub,Nat.reduceBEq,Int.reduceToNat,Int.reduceLE,Int.reduceLT,Int.reduceNeg,reduceMod,gT,h0a,h1a,h5a,r7a,h6a,hsl,zAT,zwy]
 refine ⟨fun h=>?_,fun h=>?_⟩
 ·have hb1:=hb (i + 1) h
  have hw:=zaa h (show l.length ≤ 9223372036854775807 by omega)
  have hse:=zfZ sep
  have hsj:=zfZ (zdj l sep i)
  refine ⟨fun h0=>?_,fun h0=>?_⟩
  ·have e:zdj l sep (i + 1) = (zdj l sep i ++ sep) ++ l.getD i ⟨#[]⟩:=by rw [zdj,if_neg (by omega)]
   rw [e,ByteArray.size_append,ByteArray.size_append] at hb1
   have e2:zga (zdj l sep i) ++ zga sep ++ zga (l.getD i ⟨#[]⟩) = zga (zdj l sep (i + 1)):=by rw [zf9,zf9,e]
   exact ⟨by omega,h,h,by rw [List.length_append];omega,zac ((i + 1,v + 1 + 1)) (by refine ⟨?_,?_,?_,?_,?_,by dsimp only;omega⟩ <;> (first | (simp (maxSteps:=9^7) -dsimp only [gr,reduceEqDiff,reduceLT,reduceAdd,reduceMod,Nat.reduceBEq,h0a,h1a,h5a,r7a,h6a,hw,e2];first | done | rfl | (simp;done)) | assumption | rfl)) (by first | omega | (simp only;omega) | (dsimp only;omega) | (show _ < _;simp;omega))⟩
  ·have e:zdj l sep (i + 1) = zdj l sep i ++ l.getD i ⟨#[]⟩:=by rw [zdj,if_pos (by omega)]
   rw [e,ByteArray.size_append] at hb1
   have e2:zga (zdj l sep i) ++ zga (l.getD i ⟨#[]⟩) = zga (zdj l sep (i + 1)):=by rw [zf9,e]
   exact ⟨h,h,by omega,zac ((i + 1,v + 1)) (by refine ⟨?_,?_,?_,?_,?_,by dsimp only;omega⟩ <;> (first | (simp (maxSteps:=9^7) -dsimp only [gr,reduceEqDiff,reduceLT,reduceAdd,reduceMod,Nat.reduceBEq,h0a,h1a,h5a,r7a,h6a,hw,e2];first | done | rfl | (simp;done)) | assumption | rfl)) (by first | omega | (simp only;omega) | (dsimp only;omega) | (show _ < _;simp;omega))⟩
 ·have:i = l.length:=by omega
  rw [this]
theorem zog (sep:List UInt8):∀ (xs:List (List UInt8)) (x:List UInt8),xs ≠ []→Go.Lib.join (xs ++ [x]) sep = Go.Lib.join xs sep ++ sep ++ x:=by
 intro xs x h
 cases xs with
 | nil=>exact absurd rfl h
 | cons y r =>
   rw [List.cons_append,Go.Lib.join_cons,Go.Lib.join_cons]
   simp [Go.Lib.joinTail]
theorem zCg (l:List ByteArray) (sep:ByteArray):∀ i,i ≤ l.length→zdj l sep i = zly (l.take i) sep:=by
 intro i
 induction i with
 | zero=>intro _;rfl
 | succ i ih =>
   intro hi
   have hi:i < l.length:=by omega
   rw [zdj,ih (by omega),zay ⟨#[]⟩ hi]
   unfold zly
   rw [List.map_append,List.map_cons,List.map_nil]
   by_cases h0:i = 0
   ·subst h0
    rw [if_pos rfl]
    refine ByteArray.ext ?_
    simp [Go.Lib.join_nil,Go.Lib.join_one]
   ·rw [if_neg h0,zog _ _ _ (by intro e;have:=congrArg List.length e;rw [List.length_map,List.length_take,List.length_nil] at this;omega)]
    refine ByteArray.ext ?_
    simp
end Go.Proofs.YtkledeboboplmaaGreat
namespace Go.Proofs.YtkledeboboplmaaGreat
open Go.Abs Go.Shelf
set_option linter.unusedSimpArgs false
set_option linter.unusedVariables false
def zDJ:Go.Shelf.Ren where
 f:=fun x=>match x with | 156=>30 | 165=>56 | 166=>57 | 169=>58 | 240=>83 | 241=>84 | 276=>114 | 277=>115 | n=>n
 t:=fun x=>match x with | 31=>33 | 9=>9 | 3=>3 | 4=>4 | 0=>0 | 20=>20 | 72=>62 | 76=>66 | 70=>60 | 37=>49 | 75=>65 | 127=>84 | 164=>106 | 5=>5 | 80=>68 | n=>n
 g:=fun x=>x
theorem zE9:Lays.n156 Tryz.prog zDJ where
 mixed:=mixed
 f156:=(show Tryz.prog.funcs[30]? = some _ from Tryz.func30).trans (congrArg some (by kernel_rfl))
 f165:=(show Tryz.prog.funcs[56]? = some _ from Tryz.func56).trans (congrArg some (by kernel_rfl))
 f166:=(show Tryz.prog.funcs[57]? = some _ from Tryz.func57).trans (congrArg some (by kernel_rfl))
 f169:=(show Tryz.prog.funcs[58]? = some _ from Tryz.func58).trans (congrArg some (by kernel_rfl))
 f240:=(show Tryz.prog.funcs[83]? = some _ from Tryz.func83).trans (congrArg some (by kernel_rfl))
 f241:=(show Tryz.prog.funcs[84]? = some _ from Tryz.func84).trans (congrArg some (by kernel_rfl))
 f276:=(show Tryz.prog.funcs[114]? = some _ from Tryz.func114).trans (congrArg some (by kernel_rfl))
 f277:=(show Tryz.prog.funcs[115]? = some _ from Tryz.func115).trans (congrArg some (by kernel_rfl))
 t0:=Tryz.underlying0
 a0:=Tryz.isAgg0
 z0:=Tryz.sizeOf0
 v0:=Tryz.zeroValue0
 t3:=Tryz.underlying3
 a3:=Tryz.isAgg3
 z3:=Tryz.sizeOf3
 v3:=Tryz.zeroValue3
 t4:=Tryz.underlying4
 a4:=Tryz.isAgg4
 z4:=Tryz.sizeOf4
 v4:=Tryz.zeroValue4
 t9:=Tryz.underlying9
 a9:=Tryz.isAgg9
 z9:=Tryz.sizeOf9
 v9:=Tryz.zeroValue9
 t20:=Tryz.underlying20
 a20:=Tryz.isAgg20
 z20:=Tryz.sizeOf20
 v20:=Tryz.zeroValue20
 t31:=Tryz.underlying33
 a31:=Tryz.isAgg33
 z31:=Tryz.sizeOf33
 v31:=Tryz.zeroValue33
 t37:=Tryz.underlying49
 a37:=Tryz.isAgg49
 z37:=Tryz.sizeOf49
 v37:=Tryz.zeroValue49
 t70:=Tryz.underlying60
 a70:=Tryz.isAgg60
 z70:=Tryz.sizeOf60
 v70:=Tryz.zeroValue60
 t72:=Tryz.underlying62
 a72:=Tryz.isAgg62
 z72:=Tryz.sizeOf62
 v72:=Tryz.zeroValue62
 t75:=Tryz.underlying65
 a75:=Tryz.isAgg65
 z75:=Tryz.sizeOf65
 v75:=Tryz.zeroValue65
 t76:=Tryz.underlying66
 a76:=Tryz.isAgg66
 z76:=Tryz.sizeOf66
 v76:=Tryz.zeroValue66
 t127:=Tryz.underlying84
 a127:=Tryz.isAgg84
 z127:=Tryz.sizeOf84
 v127:=Tryz.zeroValue84
 t164:=Tryz.underlying106
 a164:=Tryz.isAgg106
 z164:=Tryz.sizeOf106
 v164:=Tryz.zeroValue106
theorem zCf:Builder.Extra Tryz.prog zDJ where
 sizeBuilder:=by kernel_rfl
 liesBuilder:=by kernel_rfl
 t5:=Tryz.underlying5
 a5:=Tryz.isAgg5
 z5:=Tryz.sizeOf5
 v5:=Tryz.zeroValue5
 infoByte:=by kernel_rfl
 cellsByte:=by kernel_rfl
 sizeByte:=by kernel_rfl
 neB5:=by decide
theorem zlx (l:List ByteArray) (sep:ByteArray) (hN:l.length ≤ 140737488355328) (hlen:(zly l sep).size ≤ 140737488355328):AC Tryz.prog 30 [.sl false 1 (sL l),str sep] (.im (str (zly l sep))) :=
 zFa zE9 zCf ⟨_,Tryz.func30,by kernel_rfl,by kernel_rfl⟩ (fun h=>h) l sep hN hlen
end Go.Proofs.YtkledeboboplmaaGreat
namespace Go.Proofs.YtkledeboboplmaaGreat
open Go.Abs
open Nat (reduceEqDiff reduceMod reduceAdd reduceLT reduceLeDiff reduceSub reduceMul)
set_option linter.unusedSimpArgs false
set_option linter.unusedVariables false
def adL (ws:List ByteArray) (b:Bool) (w:ByteArray):List ByteArray:=if b = true then ws ++ [w] else ws
def adR (b:Bool) (ws:List ByteArray) (i:Nat):Row :=
 if i = 1000000 then ⟨1,.box 33 [if b = true then .v (.slice none 0 0) else .own 1000001 1]⟩ else if i = 1000001 then (if b = true then ⟨0,.dead⟩ else ⟨1,.sli 9 1 false (sL ws)⟩) else ⟨0,.dead⟩
theorem zDs (b:Bool) (ws:List ByteArray) {i:Nat} (h:i < 1000000):adR b ws i = ⟨0,.dead⟩:=by unfold adR;rw [if_neg (by omega),if_neg (by omega)]
theorem zzm {b:Bool} {ws:List ByteArray} {i:Nat} (h:(adR b ws i).kind.nd = true):i = 1000000 ∨ (i = 1000001∧b = false):=by
 by_cases h0:i = 1000000
 ·exact .inl h0
 by_cases h1:i = 1000001
 ·cases b
  ·exact .inr ⟨h1,rfl⟩
  ·rw [h1] at h;cases h
 ·unfold adR at h;rw [if_neg h0,if_neg h1] at h;cases h
def zzn (out:List ByteArray) (R1:Nat→Row) (p:PV):Prop:=p = .tup []∧∃ v,0 < v∧R1 1000000 = ⟨1,.box 33 [.own 1000001 v]⟩∧R1 1000001 = ⟨v,.sli 9 1 false (sL out)⟩
theorem zBr {b:Bool} {ws:List ByteArray} (hb:b = true→ws = []) {s:St} (hr:∀ k,s.rw k = adR b ws k) :
 ∃ s',Wk s s'∧s'.sl = s.sl∧s'.rw 1000000 = ⟨1,.box 33 [.own 1000001 1]⟩∧s'.rw 1000001 = ⟨1,.sli 9 1 false (sL ws)⟩∧∀ k,k < 1000000→s'.rw k = ⟨0,.dead⟩:=by
 cases b with
 | false=>exact ⟨s,Wk.refl s,rfl,by rw [hr];rfl,by rw [hr];rfl,fun k hk=>by rw [hr,zDs _ _ hk]⟩
 | true =>
   have hl:=hb rfl
   subst hl
   have h0:s.rw 1000000 = ⟨1,.box 33 [.v (.slice none 0 0)]⟩:=by rw [hr];rfl
   have h1:s.rw 1000001 = ⟨0,.dead⟩:=by rw [hr];rfl
   have hw:=Wk.nilBox (o:=0) 1000001 9 h0 rfl (by decide)
   rw [h1] at hw
   refine ⟨_,hw,rfl,by rw [zaA];rfl,by rw [zar _ _ _ _ (by decide),zaA];rfl,fun k hk=>?_⟩
   rw [zar _ _ _ _ (by omega),zar _ _ _ _ (by omega),hr,zDs _ _ hk]
theorem zcx (b:Bool) (ws:List ByteArray) (hb:b = true→ws = []) (hN:ws.length ≤ 100) (ap:Bool) (w:ByteArray):AG Tryz.prog 22 [bool ap,str w,.ref 1000000 1 0] (adR b ws) (zzn (adL ws ap w)):=by
 refine AG.goW (rs:=[]) zaL mixed Tryz.func22 rfl rfl rfl (by kernel_rfl) fun hl hrl z hz hr=>?_
 obtain ⟨s,hw,hsl,y0,y1,ylow⟩:=zBr hb hr
 refine ⟨s,hw,?_⟩
 have z0:s.sl 0 = bool ap:=by rw [hsl,hz];rfl
 have z1:s.sl 1 = str w:=by rw [hsl,hz];rfl
 have z2:s.sl 2 = .ref 1000000 1 0:=by rw [hsl,hz];rfl
 clear hz hr hw hsl z
 have hsn:sL ws ++ [str w] = sL (ws ++ [w]):=by simp [sL]
 have hsl2:(sL ws).length = ws.length:=by simp [sL]
 simp (maxSteps:=9^7) -dsimp only [↓gp,gq,reduceCtorEq,reduceEqDiff,reduceLT,reduceLeDiff,reduceAdd,reduceMul,reduceSub,Nat.reduceBEq,Int.reduceToNat,Int.reduceLE,Int.reduceLT,Int.reduceNeg,reduceMod,gT,z0,z1,z2,y0,y1,ylow,hsl2]
 unfold adL
 refine ⟨fun h=>⟨by omega,?_⟩,fun h=>?_⟩
 ·rw [if_pos h];exact ⟨rfl,2,by decide,by simp (maxSteps:=9^7) -dsimp only [gr,reduceEqDiff,reduceLT,reduceAdd,reduceMod,Nat.reduceBEq,y0],by simp (maxSteps:=9^7) -dsimp only [gr,reduceEqDiff,reduceLT,reduceAdd,reduceMod,Nat.reduceBEq,y1]⟩
 ·rw [if_neg (by rw [h];decide)];exact ⟨rfl,1,by decide,y0,y1⟩
theorem zHK [zae] {s:St} {K:St→Prop} {f:FuncId} {ap:Bool} {w:ByteArray} {ws out:List ByteArray} {b:Bool} {c:PV} {d k vk j vj:Nat} (hc:AG Tryz.prog f [bool ap,str w,.ref 1000000 1 0] (adR b ws) (zzn out)) (hk:s.rw k = ⟨vk,.box 33 [c]⟩)
 (hcs:(b = true∧c = .v (.slice none 0 0)) ∨ (b = false∧c = .own j vj∧s.rw j = ⟨vj,.sli 9 1 false (sL ws)⟩)) (hjk:j ≠ k)
 (hK:∀ v',K (((s.row j ⟨v',.sli 9 1 false (sL out)⟩).row k ⟨vk,.box 33 [.own j v']⟩).put (some d) (.tup []))):askG Tryz.prog s f [bool ap,str w,.ref k vk 0] (some d) K:=by
 let rho:Nat→Option Nat:=fun a=>if a = 1000000 then some k else if a = 1000001 then (if b = true then none else some j) else none
 let rho1:Nat→Option Nat:=fun a=>if a = 1000000 then some k else if a = 1000001 then some j else none
 have s1:∀ {a x:Nat},rho1 a = some x→(a = 1000000∧x = k) ∨ (a = 1000001∧x = j):=fun {a x} h=>by
  have h:(if a = 1000000 then some k else if a = 1000001 then some j else none) = some x:=h
  split at h
  ·cases h;exact .inl ⟨‹_›,rfl⟩
  ·split at h
   ·cases h;exact .inr ⟨‹_›,rfl⟩
   ·cases h
 have kp:∀ a,(adR b ws a).kind.nd = true→rho1 a = rho a:=fun a h=>by
  rcases zzm h with rfl | ⟨rfl,rfl⟩ <;> rfl
 have hG0:GvA rho (fun _=>False) (adR b ws) s.rw (if b = true then .v (.slice none 0 0) else .own 1000001 1) c:=by
  rcases hcs with ⟨rfl,rfl⟩ | ⟨rfl,rfl,hj⟩
  ·exact .v _
  ·exact .own rfl rfl (by rw [hj]) rfl
 have inj1:∀ a a' x,rho1 a = some x→rho1 a' = some x→a = a':=fun a a' x h h'=>by
  rcases s1 h with ⟨rfl,rfl⟩ | ⟨rfl,rfl⟩ <;> rcases s1 h' with ⟨rfl,e⟩ | ⟨rfl,e⟩
  ·rfl
  ·exact absurd e.symm hjk
  ·exact absurd e hjk
  ·rfl
 refine ⟨_,_,_,rho,fun _=>False,hc,.one (.v _) (.one (.v _) (.one (.ref rfl rfl (by rw [hk]) rfl) .nil)),⟨fun a ha=>?_,fun a a' x ha ha' h h'=>inj1 a a' x ((kp a ha).trans h) ((kp a' ha').trans h'),fun _ _ _ _ h=>h⟩,fun R1 p ⟨e0,v,hv,e1,e2⟩=>?_⟩
 ·rcases zzm ha with rfl | ⟨rfl,rfl⟩
  ·exact ⟨Nat.le_refl _,Nat.one_pos,k,rfl,by rw [hk];exact ⟨rfl,.one hG0 .nil⟩⟩
  ·rcases hcs with ⟨h,_⟩ | ⟨_,_,hj⟩
   ·cases h
   ·exact ⟨by decide,Nat.one_pos,j,rfl,by rw [hj];exact ⟨rfl,rfl,rfl,zut _⟩⟩
 ·subst e0
  let nv:Nat→Nat:=fun a=>if a = 1000000 then vk else (s.rw j).ver + (if b = true then v else v - 1)
  refine ⟨rho1,nv,true,⟨kp,inj1,fun a x h hn hver=>?_,fun a x h hn=>?_,fun _ _ h=>h⟩,fun S hS=>?_⟩
  ·rcases s1 h with ⟨rfl,rfl⟩ | ⟨rfl,rfl⟩
   ·rw [hk];rfl
   ·rcases zzm hn with h | ⟨_,rfl⟩
    ·cases h
    ·rw [e2] at hver
     have:v = 1:=hver
     subst this
     rfl
  ·rcases s1 h with ⟨rfl,rfl⟩ | ⟨rfl,rfl⟩
   ·exact absurd (by rw [e1];rfl) (hn rfl)
   ·show (s.rw x).ver < (s.rw x).ver + (if b = true then v else v - 1)
    cases b with
    | true=>rw [if_pos rfl];omega
    | false =>
      have:=hn rfl
      rw [e2] at this
      have:v ≠ 1:=this
      rw [if_neg (by decide)];omega
  ·have e:S = ((s.row j ⟨nv 1000001,.sli 9 1 false (sL out)⟩).row k ⟨vk,.box 33 [.own j (nv 1000001)]⟩).put (some d) (.tup []):=by
    refine St.ext2 (fun i=>?_) fun a=>?_
    ·rw [hS.sl]
     by_cases e:i = d
     ·subst e;rw [zav,zav];rfl
     ·rw [zaK _ _ _ _ e,zaK _ _ _ _ e];rfl
    ·rw [zeq]
     by_cases e:a = k
     ·subst e
      rw [zaA,hS.row 1000000 a rfl,e1]
      have:zv6 rho1 R1 nv true (.own 1000001 v) = .own j (nv 1000001):=by
       rw [zd8,e2]
       show (match some j,v == v with | some j,true=>PV.own j (nv 1000001) | _,_=>.junk) = _
       rw [beq_self_eq_true]
      show (⟨vk,.box 33 [zuQ rho1 R1 nv true (.own 1000001 v)]⟩:Row) = _
      rw [show zuQ rho1 R1 nv true (.own 1000001 v) = zv6 rho1 R1 nv true (.own 1000001 v) from rfl,this]
     ·rw [zar _ _ _ _ e]
      by_cases e':a = j
      ·subst e';rw [zaA,hS.row 1000001 a rfl,e2];rfl
      ·rw [zar _ _ _ _ e']
       refine hS.off a fun b hb=>?_
       rcases s1 hb with ⟨_,h⟩ | ⟨_,h⟩
       ·exact e h
       ·exact e' h
   rw [e];exact hK _
theorem zeb [zae] {s:St} {K:St→Prop} {f:FuncId} {ap:Bool} {w:ByteArray} {ws out:List ByteArray} (b:Bool) {c:PV} {d k vk:Nat} (j vj:Nat) {lents:List PV} {Ka:RV→Prop} {us:Dm s} {u:Dm K} (hc:AG Tryz.prog f [bool ap,str w,.ref 1000000 1 0] (adR b ws) (zzn out)) (hk:s.rw k = ⟨vk,.box 33 [c]⟩)
 (hcs:(b = true∧c = .v (.slice none 0 0)) ∨ (b = false∧c = .own j vj∧s.rw j = ⟨vj,.sli 9 1 false (sL ws)⟩)) (hjk:j ≠ k)
 (hK:∀ v',K (((s.row j ⟨v',.sli 9 1 false (sL out)⟩).row k ⟨vk,.box 33 [.own j v']⟩).put (some d) (.tup []))):zhY Tryz.prog f lents Ka (zrr Tryz.prog f lents [bool ap,str w,.ref k vk 0] (some d) (kk s us) (kk K u)):=.inr (.inr (.inr (.inr (zHK hc hk hcs hjk hK))))
def lsR (ws:List ByteArray) (i:Nat):Row:=if i = 1000000 then ⟨1,.sli 9 1 false (sL ws)⟩ else ⟨0,.dead⟩
theorem zzo {ws:List ByteArray} {i:Nat} (h:(lsR ws i).kind.nd = true):i = 1000000:=Classical.byContradiction fun e=>by unfold lsR at h;rw [if_neg e] at h;cases h
def zDt (out:List ByteArray) (R1:Nat→Row) (p:PV):Prop:=∃ v,0 < v∧p = .own 1000000 v∧R1 1000000 = ⟨v,.sli 9 1 false (sL out)⟩
theorem zbC (ws:List ByteArray) (hN:ws.length ≤ 100) (ap:Bool) (w:ByteArray):AG Tryz.prog 11 [.own 1000000 1,bool ap,str w] (lsR ws) (zDt (adL ws ap w)):=by
 refine AG.go (rs:=[.tmp 6]) zaL mixed Tryz.func11 rfl rfl rfl (by kernel_rfl) fun hl hrl z hz hr=>?_
 have z0:z.sl 0 = .own 1000000 1:=by rw [hz];rfl
 have z1:z.sl 1 = bool ap:=by rw [hz];rfl
 have z2:z.sl 2 = str w:=by rw [hz];rfl
 have y0:z.rw 1000000 = ⟨1,.sli 9 1 false (sL ws)⟩:=by rw [hr];rfl
 have yl:∀ j,j < 1000000→z.rw j = ⟨0,.dead⟩:=fun j hj=>by rw [hr];unfold lsR;rw [if_neg (by omega)]
 clear hz hr
 have hsn:sL ws ++ [str w] = sL (ws ++ [w]):=by simp [sL]
 have hsl2:(sL ws).length = ws.length:=by simp [sL]
 simp (maxSteps:=9^7) -dsimp only [↓gp,gq,reduceCtorEq,reduceEqDiff,reduceLT,reduceLeDiff,reduceAdd,reduceMul,reduceSub,Nat.reduceBEq,Int.reduceToNat,Int.reduceLE,Int.reduceLT,Int.reduceNeg,reduceMod,gT,z0,z1,z2,y0,yl,hsl2]
 unfold adL
 refine ⟨fun h=>⟨by omega,?_⟩,fun h=>?_⟩
 ·rw [if_pos h];exact ⟨2,by decide,rfl,by simp (maxSteps:=9^7) -dsimp only [gr,reduceEqDiff,reduceLT,reduceAdd,reduceMod,Nat.reduceBEq,y0]⟩
 ·rw [if_neg (by rw [h];decide)];exact ⟨1,by decide,rfl,y0⟩
theorem zec [zae] {s:St} {K:St→Prop} {f:FuncId} {ap:Bool} {w:ByteArray} {ws out:List ByteArray} {d j vj:Nat} {lents:List PV} {Ka:RV→Prop} {us:Dm s} {u:Dm K} (hc:AG Tryz.prog f [.own 1000000 1,bool ap,str w] (lsR ws) (zDt out)) (hj:s.rw j = ⟨vj,.sli 9 1 false (sL ws)⟩)
 (hK:∀ v',K ((s.row j ⟨v',.sli 9 1 false (sL out)⟩).put (some d) (.own j v'))):zhY Tryz.prog f lents Ka (zrr Tryz.prog f lents [.own j vj,bool ap,str w] (some d) (kk s us) (kk K u)):=by
 refine .inr (.inr (.inr (.inr (show askG Tryz.prog s f [.own j vj,bool ap,str w] (some d) K from ?_))))
 let rho:Nat→Option Nat:=fun a=>if a = 1000000 then some j else none
 have s1:∀ {a x:Nat},rho a = some x→a = 1000000∧x = j:=fun {a x} h=>by
  have h:(if a = 1000000 then some j else none) = some x:=h
  split at h
  ·cases h;exact ⟨‹_›,rfl⟩
  ·cases h
 refine ⟨_,_,_,rho,fun _=>False,hc,.one (.own rfl rfl (by rw [hj]) rfl) (.one (.v _) (.one (.v _) .nil)),⟨fun a ha=>?_,fun a a' x ha ha' _ _=>(zzo ha).trans (zzo ha').symm,fun _ _ _ _ h=>h⟩,fun R1 p ⟨v,hv,e0,e1⟩=>?_⟩
 ·have:=zzo ha
  subst this
  exact ⟨Nat.le_refl _,Nat.one_pos,j,rfl,by rw [hj];exact ⟨rfl,rfl,rfl,zut _⟩⟩
 ·subst e0
  refine ⟨rho,fun _=>vj + (v - 1),true,⟨fun _ _=>rfl,fun a a' x h h'=>(s1 h).1.trans (s1 h').1.symm,fun a x h _ hver=>?_,fun a x h hn=>?_,fun _ _ h=>h⟩,fun S hS=>?_⟩
  ·obtain ⟨rfl,rfl⟩:=s1 h
   rw [e1] at hver
   have:v = 1:=hver
   subst this
   rw [hj];rfl
  ·obtain ⟨rfl,rfl⟩:=s1 h
   have:=hn rfl
   rw [e1] at this
   have:v ≠ 1:=this
   rw [hj]
   show vj < vj + (v - 1)
   omega
  ·have e:S = (s.row j ⟨vj + (v - 1),.sli 9 1 false (sL out)⟩).put (some d) (.own j (vj + (v - 1))):=by
    refine St.ext2 (fun i=>?_) fun a=>?_
    ·rw [hS.sl]
     have hr2:zDn rho R1 (fun _=>vj + (v - 1)) true (.own 1000000 v) = .own j (vj + (v - 1)):=by
      show zv6 rho R1 (fun _=>vj + (v - 1)) true (.own 1000000 v) = _
      rw [zd8,e1]
      show (match some j,v == v with | some j,true=>PV.own j (vj + (v - 1)) | _,_=>.junk) = _
      rw [beq_self_eq_true]
     rw [hr2]
     by_cases e:i = d
     ·subst e;rw [zav,zav]
     ·rw [zaK _ _ _ _ e,zaK _ _ _ _ e];rfl
    ·rw [zeq]
     by_cases e:a = j
     ·subst e;rw [zaA,hS.row 1000000 a rfl,e1];rfl
     ·rw [zar _ _ _ _ e]
      exact hS.off a fun b hb=>e (s1 hb).2
   rw [e];exact hK _
noncomputable def zAP (n:Int) (xs:List Int):List ByteArray :=
 adL (adL (adL (adL (adL (adL (adL [] (puB n xs) ⟨#[112,117,114,101]⟩) (zvj n xs).isSome ⟨#[115,104,101,108,108,97,98,108,101]⟩) (zBw n xs) ⟨#[100,101,99,111,109,112,111,115,97,98,108,101]⟩) (cmO n xs 2) ⟨#[102,117,108,108]⟩) (zBB n xs) ⟨#[102,108,97,103]⟩) (zCe n xs) ⟨#[99,108,111,115,101,100]⟩) (zBy n xs) ⟨#[98,97,108,97,110,99,101,100]⟩
noncomputable def zHp (n:Int) (xs:List Int):ByteArray:=if zaV n xs = true then (if (zAP n xs).length = 0 then ⟨#[45]⟩ else zly (zAP n xs) ⟨#[32]⟩) else ⟨#[]⟩
def adK (k:Nat) (ws:List ByteArray):Prop:=ws.length ≤ k∧∀ w ∈ ws,w.size ≤ 12
theorem zr2:adK 0 []:=⟨Nat.le_refl _,fun _ h=>by cases h⟩
theorem zbn {k:Nat} {ws:List ByteArray} (h:adK k ws) (b:Bool) {w:ByteArray} (hw:w.size ≤ 12):adK (k + 1) (adL ws b w):=by
 unfold adL
 cases b
 ·exact ⟨Nat.le_succ_of_le h.1,h.2⟩
 ·refine ⟨by rw [if_pos rfl,List.length_append,List.length_singleton];have:=h.1;omega,fun x hx=>?_⟩
  rw [if_pos rfl] at hx
  rcases List.mem_append.1 hx with hx | hx
  ·exact h.2 x hx
  ·rw [List.mem_singleton.1 hx];exact hw
theorem zr3 {m:Nat} {l:List ByteArray} {sep:ByteArray} (h:∀ i,i < l.length→(l.getD i ⟨#[]⟩).size ≤ m) (hs:sep.size ≤ 1):∀ i,i ≤ l.length→(zdj l sep i).size ≤ (m + 1) * i:=by
 intro i
 induction i with
 | zero=>intro _;exact Nat.le_refl _
 | succ i ih =>
   intro hi
   have h1:=ih (by omega)
   have h2:=h i (by omega)
   have e:(m + 1) * (i + 1) = (m + 1) * i + (m + 1):=Nat.mul_succ _ _
   unfold zdj
   rw [ByteArray.size_append]
   split
   ·omega
   ·rw [ByteArray.size_append];omega
theorem zGy (n:Int) (xs:List Int):adK 7 (zAP n xs):=zbn (zbn (zbn (zbn (zbn (zbn (zbn zr2 _ (by decide)) _ (by decide)) _ (by decide)) _ (by decide)) _ (by decide)) _ (by decide)) _ (by decide)
theorem zuU (n:Int) (xs:List Int):(∀ i,i ≤ (zAP n xs).length→(zdj (zAP n xs) ⟨#[32]⟩ i).size ≤ 13 * i)∧zdj (zAP n xs) ⟨#[32]⟩ (zAP n xs).length = zly (zAP n xs) ⟨#[32]⟩ :=
 ⟨zr3 (fun i hi=>(zGy n xs).2 _ (zan ⟨#[]⟩ hi)) (Nat.le_refl 1),by rw [zCg _ _ _ (Nat.le_refl _),List.take_length]⟩
theorem zev (n:Int) (xs:List Int):AC Tryz.prog 7 [.ag [int n,zaH xs]] (.im (str (zHp n xs))):=by
 refine AC.go (rs:=[.tmp 2]) zaL mixed Tryz.func7 rfl rfl rfl (by kernel_rfl) fun hl=>?_
 simp (maxSteps:=9^7) -dsimp only [↓gp,gq,reduceCtorEq,reduceEqDiff,reduceLT,reduceLeDiff,reduceAdd,reduceMul,reduceSub,Nat.reduceBEq,Int.reduceToNat,Int.reduceLE,Int.reduceLT,Int.reduceNeg,reduceMod,gT]
 refine zab (zaC n xs) ?_
 simp (maxSteps:=9^7) -dsimp only [↓gp,gq,reduceCtorEq,reduceEqDiff,reduceLT,reduceLeDiff,reduceAdd,reduceMul,reduceSub,Nat.reduceBEq,Int.reduceToNat,Int.reduceLE,Int.reduceLT,Int.reduceNeg,reduceMod,gT]
 unfold zHp
 refine ⟨fun hc=>?_,fun hc=>?_⟩
 ·rw [if_neg (by intro h;rw [h] at hc;cases hc)]
 have hc:zaV n xs = true:=by simpa using hc
 rw [if_pos hc]
 have hxl:=zkR hc
 refine zab (zhc n xs) ?_
 simp (maxSteps:=9^7) -dsimp only [↓gp,gq,reduceCtorEq,reduceEqDiff,reduceLT,reduceLeDiff,reduceAdd,reduceMul,reduceSub,Nat.reduceBEq,Int.reduceToNat,Int.reduceLE,Int.reduceLT,Int.reduceNeg,reduceMod,gT]
 refine zeb true 90 0 (zcx true [] (fun _=>rfl) (by decide) (puB n xs) ⟨#[112,117,114,101]⟩) (by simp (maxSteps:=9^7) -dsimp only [gr,reduceEqDiff,reduceLT,reduceAdd,reduceMod,Nat.reduceBEq]) (.inl ⟨rfl,rfl⟩) (by decide) fun v1=>?_
 obtain ⟨W1,hW1⟩:∃ W,W = adL [] (puB n xs) ⟨#[112,117,114,101]⟩:=⟨_,rfl⟩
 rw [← hW1]
 have hk1:adK 1 W1:=hW1 ▸ zbn zr2 _ (by decide)
 simp (maxSteps:=9^7) -dsimp only [↓gp,gq,reduceCtorEq,reduceEqDiff,reduceLT,reduceLeDiff,reduceAdd,reduceMul,reduceSub,Nat.reduceBEq,Int.reduceToNat,Int.reduceLE,Int.reduceLT,Int.reduceNeg,reduceMod,gT]
 refine zab (zgX n xs) ?_
 simp (maxSteps:=9^7) -dsimp only [↓gp,gq,reduceCtorEq,reduceEqDiff,reduceLT,reduceLeDiff,reduceAdd,reduceMul,reduceSub,Nat.reduceBEq,Int.reduceToNat,Int.reduceLE,Int.reduceLT,Int.reduceNeg,reduceMod,gT]
 refine zeb false 90 v1 (zcx false W1 (fun h=>by cases h) (by have:=hk1.1;omega) ((zvj n xs).isSome) ⟨#[115,104,101,108,108,97,98,108,101]⟩) (by simp (maxSteps:=9^7) -dsimp only [gr,reduceEqDiff,reduceLT,reduceAdd,reduceMod,Nat.reduceBEq]) (.inr ⟨rfl,rfl,by simp (maxSteps:=9^7) -dsimp only [gr,reduceEqDiff,reduceLT,reduceAdd,reduceMod,Nat.reduceBEq]⟩) (by decide) fun v2=>?_
 obtain ⟨W2,hW2⟩:∃ W,W = adL W1 ((zvj n xs).isSome) ⟨#[115,104,101,108,108,97,98,108,101]⟩:=⟨_,rfl⟩
 rw [← hW2]
 have hk2:adK 2 W2:=hW2 ▸ zbn hk1 _ (by decide)
 simp (maxSteps:=9^7) -dsimp only [↓gp,gq,reduceCtorEq,reduceEqDiff,reduceLT,reduceLeDiff,reduceAdd,reduceMul,reduceSub,Nat.reduceBEq,Int.reduceToNat,Int.reduceLE,Int.reduceLT,Int.reduceNeg,reduceMod,gT]
 refine zab (ze4 n xs) ?_
 simp (maxSteps:=9^7) -dsimp only [↓gp,gq,reduceCtorEq,reduceEqDiff,reduceLT,reduceLeDiff,reduceAdd,reduceMul,reduceSub,Nat.reduceBEq,Int.reduceToNat,Int.reduceLE,Int.reduceLT,Int.reduceNeg,reduceMod,gT]
 refine zeb false 90 v2 (zcx false W2 (fun h=>by cases h) (by have:=hk2.1;omega) (zBw n xs) ⟨#[100,101,99,111,109,112,111,115,97,98,108,101]⟩) (by simp (maxSteps:=9^7) -dsimp only [gr,reduceEqDiff,reduceLT,reduceAdd,reduceMod,Nat.reduceBEq]) (.inr ⟨rfl,rfl,by simp (maxSteps:=9^7) -dsimp only [gr,reduceEqDiff,reduceLT,reduceAdd,reduceMod,Nat.reduceBEq]⟩) (by decide) fun v3=>?_
 obtain ⟨W3,hW3⟩:∃ W,W = adL W2 (zBw n xs) ⟨#[100,101,99,111,109,112,111,115,97,98,108,101]⟩:=⟨_,rfl⟩
 rw [← hW3]
 have hk3:adK 3 W3:=hW3 ▸ zbn hk2 _ (by decide)
 simp (maxSteps:=9^7) -dsimp only [↓gp,gq,reduceCtorEq,reduceEqDiff,reduceLT,reduceLeDiff,reduceAdd,reduceMul,reduceSub,Nat.reduceBEq,Int.reduceToNat,Int.reduceLE,Int.reduceLT,Int.reduceNeg,reduceMod,gT]
 refine zab (zeF n xs 2) ?_
 simp (maxSteps:=9^7) -dsimp only [↓gp,gq,reduceCtorEq,reduceEqDiff,reduceLT,reduceLeDiff,reduceAdd,reduceMul,reduceSub,Nat.reduceBEq,Int.reduceToNat,Int.reduceLE,Int.reduceLT,Int.reduceNeg,reduceMod,gT]
 refine zeb false 90 v3 (zcx false W3 (fun h=>by cases h) (by have:=hk3.1;omega) (cmO n xs 2) ⟨#[102,117,108,108]⟩) (by simp (maxSteps:=9^7) -dsimp only [gr,reduceEqDiff,reduceLT,reduceAdd,reduceMod,Nat.reduceBEq]) (.inr ⟨rfl,rfl,by simp (maxSteps:=9^7) -dsimp only [gr,reduceEqDiff,reduceLT,reduceAdd,reduceMod,Nat.reduceBEq]⟩) (by decide) fun v4=>?_
 obtain ⟨W4,hW4⟩:∃ W,W = adL W3 (cmO n xs 2) ⟨#[102,117,108,108]⟩:=⟨_,rfl⟩
 rw [← hW4]
 have hk4:adK 4 W4:=hW4 ▸ zbn hk3 _ (by decide)
 simp (maxSteps:=9^7) -dsimp only [↓gp,gq,reduceCtorEq,reduceEqDiff,reduceLT,reduceLeDiff,reduceAdd,reduceMul,reduceSub,Nat.reduceBEq,Int.reduceToNat,Int.reduceLE,Int.reduceLT,Int.reduceNeg,reduceMod,gT]
 refine zab (znX n xs) ?_
 simp (maxSteps:=9^7) -dsimp only [↓gp,gq,reduceCtorEq,reduceEqDiff,reduceLT,reduceLeDiff,reduceAdd,reduceMul,reduceSub,Nat.reduceBEq,Int.reduceToNat,Int.reduceLE,Int.reduceLT,Int.reduceNeg,reduceMod,gT]
 refine zeb false 90 v4 (zcx false W4 (fun h=>by cases h) (by have:=hk4.1;omega) (zBB n xs) ⟨#[102,108,97,103]⟩) (by simp (maxSteps:=9^7) -dsimp only [gr,reduceEqDiff,reduceLT,reduceAdd,reduceMod,Nat.reduceBEq]) (.inr ⟨rfl,rfl,by simp (maxSteps:=9^7) -dsimp only [gr,reduceEqDiff,reduceLT,reduceAdd,reduceMod,Nat.reduceBEq]⟩) (by decide) fun v5=>?_
 obtain ⟨W5,hW5⟩:∃ W,W = adL W4 (zBB n xs) ⟨#[102,108,97,103]⟩:=⟨_,rfl⟩
 rw [← hW5]
 have hk5:adK 5 W5:=hW5 ▸ zbn hk4 _ (by decide)
 simp (maxSteps:=9^7) -dsimp only [↓gp,gq,reduceCtorEq,reduceEqDiff,reduceLT,reduceLeDiff,reduceAdd,reduceMul,reduceSub,Nat.reduceBEq,Int.reduceToNat,Int.reduceLE,Int.reduceLT,Int.reduceNeg,reduceMod,gT]
 refine zab (zk4 n xs (by omega)) ?_
 simp (maxSteps:=9^7) -dsimp only [↓gp,gq,reduceCtorEq,reduceEqDiff,reduceLT,reduceLeDiff,reduceAdd,reduceMul,reduceSub,Nat.reduceBEq,Int.reduceToNat,Int.reduceLE,Int.reduceLT,Int.reduceNeg,reduceMod,gT]
 refine zeb false 90 v5 (zcx false W5 (fun h=>by cases h) (by have:=hk5.1;omega) (zCe n xs) ⟨#[99,108,111,115,101,100]⟩) (by simp (maxSteps:=9^7) -dsimp only [gr,reduceEqDiff,reduceLT,reduceAdd,reduceMod,Nat.reduceBEq]) (.inr ⟨rfl,rfl,by simp (maxSteps:=9^7) -dsimp only [gr,reduceEqDiff,reduceLT,reduceAdd,reduceMod,Nat.reduceBEq]⟩) (by decide) fun v6=>?_
 obtain ⟨W6,hW6⟩:∃ W,W = adL W5 (zCe n xs) ⟨#[99,108,111,115,101,100]⟩:=⟨_,rfl⟩
 rw [← hW6]
 have hk6:adK 6 W6:=hW6 ▸ zbn hk5 _ (by decide)
 simp (maxSteps:=9^7) -dsimp only [↓gp,gq,reduceCtorEq,reduceEqDiff,reduceLT,reduceLeDiff,reduceAdd,reduceMul,reduceSub,Nat.reduceBEq,Int.reduceToNat,Int.reduceLE,Int.reduceLT,Int.reduceNeg,reduceMod,gT]
 refine zab (zhC n xs) ?_
 simp (maxSteps:=9^7) -dsimp only [↓gp,gq,reduceCtorEq,reduceEqDiff,reduceLT,reduceLeDiff,reduceAdd,reduceMul,reduceSub,Nat.reduceBEq,Int.reduceToNat,Int.reduceLE,Int.reduceLT,Int.reduceNeg,reduceMod,gT]
 refine zeb false 90 v6 (zcx false W6 (fun h=>by cases h) (by have:=hk6.1;omega) (zBy n xs) ⟨#[98,97,108,97,110,99,101,100]⟩) (by simp (maxSteps:=9^7) -dsimp only [gr,reduceEqDiff,reduceLT,reduceAdd,reduceMod,Nat.reduceBEq]) (.inr ⟨rfl,rfl,by simp (maxSteps:=9^7) -dsimp only [gr,reduceEqDiff,reduceLT,reduceAdd,reduceMod,Nat.reduceBEq]⟩) (by decide) fun v7=>?_
 obtain ⟨W7,hW7⟩:∃ W,W = adL W6 (zBy n xs) ⟨#[98,97,108,97,110,99,101,100]⟩:=⟨_,rfl⟩
 rw [← hW7]
 have hk7:adK 7 W7:=hW7 ▸ zbn hk6 _ (by decide)
 simp (maxSteps:=9^7) -dsimp only [↓gp,gq,reduceCtorEq,reduceEqDiff,reduceLT,reduceLeDiff,reduceAdd,reduceMul,reduceSub,Nat.reduceBEq,Int.reduceToNat,Int.reduceLE,Int.reduceLT,Int.reduceNeg,reduceMod,gT]
 have hW:W7 = zAP n xs:=by rw [hW7,hW6,hW5,hW4,hW3,hW2,hW1];rfl
 obtain ⟨j1,j2⟩:=zuU n xs
 rw [← hW] at j1 j2 ⊢
 have hl7:=hk7.1
 refine ⟨fun h=>?_,fun h=>?_⟩
 ·rw [if_pos (by have:=beq_iff_eq.1 h;omega)]
 ·rw [if_neg (by intro e;rw [e] at h;cases h)]
  have j3:=j1 W7.length (Nat.le_refl _)
  rw [j2] at j3
  refine zab (zlx W7 ⟨#[32]⟩ (by omega) (by omega)) ?_
  simp (maxSteps:=9^7) -dsimp only [↓gp,gq,reduceCtorEq,reduceEqDiff,reduceLT,reduceLeDiff,reduceAdd,reduceMul,reduceSub,Nat.reduceBEq,Int.reduceToNat,Int.reduceLE,Int.reduceLT,Int.reduceNeg,reduceMod,gT]
theorem zew (n:Int) (xs:List Int):AC Tryz.prog 5 [.ag [int n,zaH xs]] (.im (str (zHp n xs))):=by
 refine AC.go (rs:=[.tmp 2]) zaL mixed Tryz.func5 rfl rfl rfl (by kernel_rfl) fun hl=>?_
 simp (maxSteps:=9^7) -dsimp only [↓gp,gq,reduceCtorEq,reduceEqDiff,reduceLT,reduceLeDiff,reduceAdd,reduceMul,reduceSub,Nat.reduceBEq,Int.reduceToNat,Int.reduceLE,Int.reduceLT,Int.reduceNeg,reduceMod,gT]
 refine zab (zaI n xs) ?_
 simp (maxSteps:=9^7) -dsimp only [↓gp,gq,reduceCtorEq,reduceEqDiff,reduceLT,reduceLeDiff,reduceAdd,reduceMul,reduceSub,Nat.reduceBEq,Int.reduceToNat,Int.reduceLE,Int.reduceLT,Int.reduceNeg,reduceMod,gT]
 unfold zHp
 refine ⟨fun hc=>?_,fun hc=>?_⟩
 ·rw [if_neg (by intro h;rw [h] at hc;cases hc)]
 have hc:zaV n xs = true:=by simpa using hc
 rw [if_pos hc]
 have hxl:=zkR hc
 refine zab (zhb n xs) ?_
 simp (maxSteps:=9^7) -dsimp only [↓gp,gq,reduceCtorEq,reduceEqDiff,reduceLT,reduceLeDiff,reduceAdd,reduceMul,reduceSub,Nat.reduceBEq,Int.reduceToNat,Int.reduceLE,Int.reduceLT,Int.reduceNeg,reduceMod,gT]
 refine zec (zbC [] (by decide) (puB n xs) ⟨#[112,117,114,101]⟩) (by simp (maxSteps:=9^7) -dsimp only [gr,reduceEqDiff,reduceLT,reduceAdd,reduceMod,Nat.reduceBEq] <;> rfl) fun v1=>?_
 obtain ⟨W1,hW1⟩:∃ W,W = adL [] (puB n xs) ⟨#[112,117,114,101]⟩:=⟨_,rfl⟩
 rw [← hW1]
 have hk1:adK 1 W1:=hW1 ▸ zbn zr2 _ (by decide)
 simp (maxSteps:=9^7) -dsimp only [↓gp,gq,reduceCtorEq,reduceEqDiff,reduceLT,reduceLeDiff,reduceAdd,reduceMul,reduceSub,Nat.reduceBEq,Int.reduceToNat,Int.reduceLE,Int.reduceLT,Int.reduceNeg,reduceMod,gT]
 refine zab (zha n xs) ?_
 simp (maxSteps:=9^7) -dsimp only [↓gp,gq,reduceCtorEq,reduceEqDiff,reduceLT,reduceLeDiff,reduceAdd,reduceMul,reduceSub,Nat.reduceBEq,Int.reduceToNat,Int.reduceLE,Int.reduceLT,Int.reduceNeg,reduceMod,gT]
 refine zec (zbC W1 (by have:=hk1.1;omega) ((zvj n xs).isSome) ⟨#[115,104,101,108,108,97,98,108,101]⟩) (by simp (maxSteps:=9^7) -dsimp only [gr,reduceEqDiff,reduceLT,reduceAdd,reduceMod,Nat.reduceBEq] <;> rfl) fun v2=>?_
 obtain ⟨W2,hW2⟩:∃ W,W = adL W1 ((zvj n xs).isSome) ⟨#[115,104,101,108,108,97,98,108,101]⟩:=⟨_,rfl⟩
 rw [← hW2]
 have hk2:adK 2 W2:=hW2 ▸ zbn hk1 _ (by decide)
 simp (maxSteps:=9^7) -dsimp only [↓gp,gq,reduceCtorEq,reduceEqDiff,reduceLT,reduceLeDiff,reduceAdd,reduceMul,reduceSub,Nat.reduceBEq,Int.reduceToNat,Int.reduceLE,Int.reduceLT,Int.reduceNeg,reduceMod,gT]
 refine zab (ze5 n xs) ?_
 simp (maxSteps:=9^7) -dsimp only [↓gp,gq,reduceCtorEq,reduceEqDiff,reduceLT,reduceLeDiff,reduceAdd,reduceMul,reduceSub,Nat.reduceBEq,Int.reduceToNat,Int.reduceLE,Int.reduceLT,Int.reduceNeg,reduceMod,gT]
 refine zec (zbC W2 (by have:=hk2.1;omega) (zBw n xs) ⟨#[100,101,99,111,109,112,111,115,97,98,108,101]⟩) (by simp (maxSteps:=9^7) -dsimp only [gr,reduceEqDiff,reduceLT,reduceAdd,reduceMod,Nat.reduceBEq] <;> rfl) fun v3=>?_
 obtain ⟨W3,hW3⟩:∃ W,W = adL W2 (zBw n xs) ⟨#[100,101,99,111,109,112,111,115,97,98,108,101]⟩:=⟨_,rfl⟩
 rw [← hW3]
 have hk3:adK 3 W3:=hW3 ▸ zbn hk2 _ (by decide)
 simp (maxSteps:=9^7) -dsimp only [↓gp,gq,reduceCtorEq,reduceEqDiff,reduceLT,reduceLeDiff,reduceAdd,reduceMul,reduceSub,Nat.reduceBEq,Int.reduceToNat,Int.reduceLE,Int.reduceLT,Int.reduceNeg,reduceMod,gT]
 refine zab (zeG n xs 2) ?_
 simp (maxSteps:=9^7) -dsimp only [↓gp,gq,reduceCtorEq,reduceEqDiff,reduceLT,reduceLeDiff,reduceAdd,reduceMul,reduceSub,Nat.reduceBEq,Int.reduceToNat,Int.reduceLE,Int.reduceLT,Int.reduceNeg,reduceMod,gT]
 refine zec (zbC W3 (by have:=hk3.1;omega) (cmO n xs 2) ⟨#[102,117,108,108]⟩) (by simp (maxSteps:=9^7) -dsimp only [gr,reduceEqDiff,reduceLT,reduceAdd,reduceMod,Nat.reduceBEq] <;> rfl) fun v4=>?_
 obtain ⟨W4,hW4⟩:∃ W,W = adL W3 (cmO n xs 2) ⟨#[102,117,108,108]⟩:=⟨_,rfl⟩
 rw [← hW4]
 have hk4:adK 4 W4:=hW4 ▸ zbn hk3 _ (by decide)
 simp (maxSteps:=9^7) -dsimp only [↓gp,gq,reduceCtorEq,reduceEqDiff,reduceLT,reduceLeDiff,reduceAdd,reduceMul,reduceSub,Nat.reduceBEq,Int.reduceToNat,Int.reduceLE,Int.reduceLT,Int.reduceNeg,reduceMod,gT]
 refine zab (znY n xs) ?_
 simp (maxSteps:=9^7) -dsimp only [↓gp,gq,reduceCtorEq,reduceEqDiff,reduceLT,reduceLeDiff,reduceAdd,reduceMul,reduceSub,Nat.reduceBEq,Int.reduceToNat,Int.reduceLE,Int.reduceLT,Int.reduceNeg,reduceMod,gT]
 refine zec (zbC W4 (by have:=hk4.1;omega) (zBB n xs) ⟨#[102,108,97,103]⟩) (by simp (maxSteps:=9^7) -dsimp only [gr,reduceEqDiff,reduceLT,reduceAdd,reduceMod,Nat.reduceBEq] <;> rfl) fun v5=>?_
 obtain ⟨W5,hW5⟩:∃ W,W = adL W4 (zBB n xs) ⟨#[102,108,97,103]⟩:=⟨_,rfl⟩
 rw [← hW5]
 have hk5:adK 5 W5:=hW5 ▸ zbn hk4 _ (by decide)
 simp (maxSteps:=9^7) -dsimp only [↓gp,gq,reduceCtorEq,reduceEqDiff,reduceLT,reduceLeDiff,reduceAdd,reduceMul,reduceSub,Nat.reduceBEq,Int.reduceToNat,Int.reduceLE,Int.reduceLT,Int.reduceNeg,reduceMod,gT]
 refine zab (zk5 n xs (by omega)) ?_
 simp (maxSteps:=9^7) -dsimp only [↓gp,gq,reduceCtorEq,reduceEqDiff,reduceLT,reduceLeDiff,reduceAdd,reduceMul,reduceSub,Nat.reduceBEq,Int.reduceToNat,Int.reduceLE,Int.reduceLT,Int.reduceNeg,reduceMod,gT]
 refine zec (zbC W5 (by have:=hk5.1;omega) (zCe n xs) ⟨#[99,108,111,115,101,100]⟩) (by simp (maxSteps:=9^7) -dsimp only [gr,reduceEqDiff,reduceLT,reduceAdd,reduceMod,Nat.reduceBEq] <;> rfl) fun v6=>?_
 obtain ⟨W6,hW6⟩:∃ W,W = adL W5 (zCe n xs) ⟨#[99,108,111,115,101,100]⟩:=⟨_,rfl⟩
 rw [← hW6]
 have hk6:adK 6 W6:=hW6 ▸ zbn hk5 _ (by decide)
 simp (maxSteps:=9^7) -dsimp only [↓gp,gq,reduceCtorEq,reduceEqDiff,reduceLT,reduceLeDiff,reduceAdd,reduceMul,reduceSub,Nat.reduceBEq,Int.reduceToNat,Int.reduceLE,Int.reduceLT,Int.reduceNeg,reduceMod,gT]
 refine zab (zhD n xs) ?_
 simp (maxSteps:=9^7) -dsimp only [↓gp,gq,reduceCtorEq,reduceEqDiff,reduceLT,reduceLeDiff,reduceAdd,reduceMul,reduceSub,Nat.reduceBEq,Int.reduceToNat,Int.reduceLE,Int.reduceLT,Int.reduceNeg,reduceMod,gT]
 refine zec (zbC W6 (by have:=hk6.1;omega) (zBy n xs) ⟨#[98,97,108,97,110,99,101,100]⟩) (by simp (maxSteps:=9^7) -dsimp only [gr,reduceEqDiff,reduceLT,reduceAdd,reduceMod,Nat.reduceBEq] <;> rfl) fun v7=>?_
 obtain ⟨W7,hW7⟩:∃ W,W = adL W6 (zBy n xs) ⟨#[98,97,108,97,110,99,101,100]⟩:=⟨_,rfl⟩
 rw [← hW7]
 have hk7:adK 7 W7:=hW7 ▸ zbn hk6 _ (by decide)
 simp (maxSteps:=9^7) -dsimp only [↓gp,gq,reduceCtorEq,reduceEqDiff,reduceLT,reduceLeDiff,reduceAdd,reduceMul,reduceSub,Nat.reduceBEq,Int.reduceToNat,Int.reduceLE,Int.reduceLT,Int.reduceNeg,reduceMod,gT]
 have hW:W7 = zAP n xs:=by rw [hW7,hW6,hW5,hW4,hW3,hW2,hW1];rfl
 obtain ⟨j1,j2⟩:=zuU n xs
 rw [← hW] at j1 j2 ⊢
 have hl7:=hk7.1
 refine ⟨fun h=>?_,fun h=>?_⟩
 ·rw [if_pos (by have:=beq_iff_eq.1 h;omega)]
 ·rw [if_neg (by intro e;rw [e] at h;cases h)]
  refine zab (zsC W7 ⟨#[32]⟩ (by omega) (fun i hi=>by
   have:=j1 i hi
   have e:(ByteArray.mk #[32]).size = 1:=rfl
   omega)) ?_
  rw [j2]
  simp (maxSteps:=9^7) -dsimp only [↓gp,gq,reduceCtorEq,reduceEqDiff,reduceLT,reduceLeDiff,reduceAdd,reduceMul,reduceSub,Nat.reduceBEq,Int.reduceToNat,Int.reduceLE,Int.reduceLT,Int.reduceNeg,reduceMod,gT]
end Go.Proofs.YtkledeboboplmaaGreat

/- DERIVED by an AI agent. -/
import Derived.Test.YtjikeknpidbceaaGreatQ5
import Derived.Test.YtjikeknpidbceaaGreatQ3
import Derived.Test.YtjikeknpidbceaaGreatA14
import Derived.Test.YtjikeknpidbceaaGreatQ4
namespace Go.Proofs.YtjikeknpidbceaaGreat
open Go.Abs
open Nat (reduceEqDiff reduceMod reduceAdd reduceLT reduceLeDiff reduceSub reduceMul)
set_option linter.unusedSimpArgs false
set_option linter.unusedVariables false
def oX (p0:PV) (f:FuncId) (fl:List Bool) (p:PV):List PV:=p0 :: .clo f [] :: (bL fl ++ [p])
theorem zCF (p0:PV) (f:FuncId):p0 :: .clo f [] :: List.map PV.v (List.replicate 256 (Value.bool false) ++ [Value.slice none 0 0]) = oX p0 f (List.replicate 256 false) (.v (.slice none 0 0)):=by
 unfold oX bL
 rw [List.map_append,List.map_replicate,List.map_replicate];rfl
theorem zuw {p0 p:PV} {f:FuncId} {fl:List Bool} (h:fl.length = 256):(oX p0 f fl p).length = 259:=by simp [oX,bL,h]
theorem zFz {p0 p:PV} {f:FuncId} {fl:List Bool} {Kp:PV→Prop} {t:TypeId} (h:fl.length = 256) (h0:(T t).k.agg = false) (h1:0 < (T t).size):ldK T t .asis (oX p0 f fl p) 258 Kp = Kp p:=by
 have e:(oX p0 f fl p).getD 258 .junk = p:=by
  have h2:(bL fl).length = 256:=by simp [bL,h]
  simp only [oX,List.getD,show 258 = 256 + 1 + 1 by omega,List.getElem?_cons_succ]
  rw [List.getElem?_append_right (by omega),h2]
  simp
 have hl:=zuw (p0:=p0) (f:=f) (p:=p) h
 simp only [ldK,h0,h1,hl,true_and]
 rw [e]
 simp [Md.fix]
theorem zD3 {c c':List PV} (h:c'.length = c.length):spl c 0 c' = c':=by
 rw [zCk c 0 c' (by omega)]
 simp [h]
theorem zD4 {rw:Nat→Row} {p0 p:PV} {f:FuncId} {fl:List Bool} (h0:zhM rw p0) (h1:zhM rw p):Go.Abs.allP rw (oX p0 f fl p):=by
 unfold oX Go.Abs.allP
 intro q hq
 rcases List.mem_cons.1 hq with rfl | hq
 ·exact h0
 rcases List.mem_cons.1 hq with rfl | hq
 ·trivial
 rcases List.mem_append.1 hq with hq | hq
 ·obtain ⟨b,_,rfl⟩:=List.mem_map.1 hq
  rfl
 ·rw [List.mem_singleton.1 hq];exact h1
theorem zBj {s:St} {K:St→Prop} {j ver:Nat} {bt:TypeId} {c:List PV} {p0 p:PV} {f:FuncId} {fl:List Bool} (hf:fl.length = 256) (hc:c.length = 259) (h0:zhM s.rw p0) (h1:zhM s.rw p) (u:Dm K) :
 K (s.row j ⟨ver,.box bt (oX p0 f fl p)⟩)→zeh s 259 j ver 0 ⟨ver,.box bt c⟩ (.ag (oX p0 f fl p)) (kk K u):=by
 intro hk
 rw [zez 258,zmu]
 refine ⟨zuw hf,by rw [zuw hf,hc];exact Nat.le_refl _,zD4 h0 h1,?_⟩
 rw [zD3 (by rw [zuw hf,hc])]
 exact hk
theorem zD5 {s:St} {K:St→Prop} {g f:FuncId} {ft:List Int→Int→Bool} {items:List Int} {fl:List Bool} {n d kb ki vi ei:Nat} {fz:Bool} {lent:List PV} {Ka:RV→Prop} {us:Dm s} {uu:Dm K}
 (h:AG Tryz.prog g [.ref 1000000 1 0,int 0] (oR true items f fl []) (zvF ft items f n [])) (hb:s.rw kb = ⟨1,.box 69 (oX (.own ki vi) f fl (.v (.slice none 0 0)))⟩) (hi:s.rw ki = ⟨vi,.sli ei 1 fz (iL items)⟩) (hd:s.rw d = ⟨0,.dead⟩)
 (h1:ki ≠ kb) (h2:d ≠ kb)
 (hk:∀ (S:St) (fl':List Bool),fl'.length = 256→S.sl d = bool (zbX ft items n []).isSome→(∀ t,t ≠ d→S.sl t = s.sl t) →
  S.rw kb = ⟨1,.box 69 (oX .junk f fl' (.own d 1))⟩→S.rw d = ⟨1,.sli 3 1 false (iL ((zbX ft items n []).getD []))⟩→(∀ i,i ≠ kb→i ≠ d→S.rw i = s.rw i)→K S) :
 zhY Tryz.prog g lent Ka (zqy Tryz.prog g lent [.ref kb 1 0,int 0] (some d) (kk s us) (kk K uu)):=by
 have R00:oR true items f fl [] 1000000 = ⟨1,.box 69 (oC items f fl (.v (.slice none 0 0)))⟩:=rfl
 have R0n:∀ k,k ≠ 1000000→oR true items f fl [] k = ⟨0,.dead⟩:=fun k hk=>by unfold oR;rw [if_neg hk,if_neg (fun h=>by cases h.2)]
 have nd0:∀ k,(oR true items f fl [] k).kind.nd = true→k = 1000000:=fun k hk=>by
  by_cases h:k = 1000000
  ·exact h
  ·rw [R0n k h] at hk;cases hk
 have r0:(fun k:Nat=>if k = 1000000 then some kb else none) 1000000 = some kb:=if_pos rfl
 have q0:(fun k:Nat=>if k = 1000000 then some kb else if k = 1000001 then some d else none) 1000000 = some kb:=if_pos rfl
 have q1:(fun k:Nat=>if k = 1000000 then some kb else if k = 1000001 then some d else none) 1000001 = some d:=rfl
 have qq:∀ {k j:Nat},(fun k:Nat=>if k = 1000000 then some kb else if k = 1000001 then some d else none) k = some j→(k = 1000000∧j = kb) ∨ (k = 1000001∧j = d):=fun {k j} h=>by
  have h:(if k = 1000000 then some kb else if k = 1000001 then some d else none) = some j:=h
  by_cases a:k = 1000000
  ·rw [if_pos a] at h;exact .inl ⟨a,(Option.some.inj h).symm⟩
  ·rw [if_neg a] at h
   by_cases b:k = 1000001
   ·rw [if_pos b] at h;exact .inr ⟨b,(Option.some.inj h).symm⟩
   ·rw [if_neg b] at h;cases h
 refine zqA h (fun k=>if k = 1000000 then some kb else none) (fun j=>j = ki) (.one (.ref r0 (by rw [R00]) (by rw [hb]) (by rw [R00];rfl)) (.one (.v _) .nil)) ⟨fun k hk=>?_,fun k k' j a b _ _=>by rw [nd0 k a,nd0 k' b],fun k j a b e=>?_⟩ fun R1 p hp=>?_
 ·have:=nd0 k hk;subst this
  refine ⟨Nat.le_refl _,by rw [R00];exact Nat.one_pos,kb,r0,?_⟩
  rw [R00,hb]
  exact ⟨rfl,.one (.lent rfl hi) (.clo .nil (zCG (.one (.v _) .nil) fl))⟩
 ·have:=nd0 k a;subst this
  have b:some kb = some j:=b
  cases b
  exact h1 e.symm
 ·obtain ⟨fl',v',hfl,hI,rfl,hb1,hl1⟩:=hp
  refine ⟨fun k=>if k = 1000000 then some kb else if k = 1000001 then some d else none,fun k=>1,false,⟨fun k hk=>?_,fun a b i a1 a2=>?_,fun a i a1 a2 a3=>?_,fun a i a1 a2=>?_,fun h=>by cases h⟩,fun S hS=>?_⟩
  ·have:=nd0 k hk;subst this;rfl
  ·rcases qq a1 with ⟨rfl,e1⟩ | ⟨rfl,e1⟩ <;> rcases qq a2 with ⟨rfl,e2⟩ | ⟨rfl,e2⟩ <;> first | rfl | (exact absurd (e1.symm.trans e2) (Ne.symm h2)) | (exact absurd (e1.symm.trans e2) h2)
  ·have:=nd0 a a2;subst this
   rcases qq a1 with ⟨_,rfl⟩ | ⟨h,_⟩
   ·rw [hb]
   ·exact absurd h (by decide)
  ·rcases qq a1 with ⟨rfl,rfl⟩ | ⟨rfl,rfl⟩
   ·have:=a2 (by rw [R00];rfl)
    rw [hb1,R00] at this
    exact absurd rfl this
   ·rw [hd];exact Nat.one_pos
  ·have e0:=hS.row 1000000 kb q0
   have e1:=hS.row 1000001 d q1
   rw [hb1] at e0
   rw [hl1] at e1
   have e0:S.rw kb = ⟨1,.box 69 ((oC items f fl' (.own 1000001 v')).map (ren1 (fun k:Nat=>if k = 1000000 then some kb else if k = 1000001 then some d else none) R1 _ false))⟩:=e0
   rw [zCH q1 (by rw [hl1])] at e0
   refine hk S fl' hfl ?_ (fun t ht=>?_) e0 e1 fun i a b=>hS.off i fun k hk=>?_
   ·rw [hS.sl,zaA];rfl
   ·rw [hS.sl,zaU _ _ _ _ ht]
   ·rcases qq hk with ⟨_,rfl⟩ | ⟨_,rfl⟩
    ·exact a rfl
    ·exact b rfl
def zmf (ft:List Int→Int→Bool) (xs:List Int):Option (List Int):=if xs.length ≤ 8 then zbX ft (zhe xs) xs.length [] else none
theorem zqi (f:FuncId) (ft:List Int→Int→Bool) (hF:∀ l x,okL l→(0 ≤ x∧x < 64)→AC Tryz.prog f [zaI l,int x] (.im (bool (ft l x)))) (hP:∀ l l' x,l.Perm l'→ft l x = ft l' x) (xs:List Int) (hn:xs.Nodup) (hok:okL xs) :
 AC Tryz.prog 29 [zaI xs,.clo f []] (.tup [.fr 3 1 (iL ((zmf ft xs).getD [])),.im (bool (zmf ft xs).isSome)]):=by
 refine AC.go (rs:=[.tmp 4,.tmp 5]) zaQ zar Tryz.func29 rfl rfl rfl (by kernel_rfl) fun hl=>?_
 simp only [zav,zaC,and_true,zaT,zby,za5,zaL,zcl,true_and] at hl
 simp (maxSteps:=5000000) -dsimp only [↓gp,gq,reduceCtorEq,reduceEqDiff,reduceLT,reduceLeDiff,reduceAdd,reduceMul,reduceSub,Nat.reduceBEq,Int.reduceToNat,Int.reduceLE,Int.reduceLT,Int.reduceNeg,reduceMod,zac,zad,zab,zaa,gT,TK.isInt,TK.agg,Array.toList,zhm,zhn]
 refine ⟨fun h=>?_,fun h=>?_⟩
 ·unfold zmf;rw [if_neg (by omega)];exact ⟨rfl,rfl⟩
 ·have h8:xs.length ≤ 8:=by omega
  unfold zmf;rw [if_pos h8]
  refine zaf (zkI xs (by omega)) ?_
  simp (maxSteps:=5000000) -dsimp only [↓gp,gq,reduceCtorEq,reduceEqDiff,reduceLT,reduceLeDiff,reduceAdd,reduceMul,reduceSub,Nat.reduceBEq,Int.reduceToNat,Int.reduceLE,Int.reduceLT,Int.reduceNeg,reduceMod,zac,zad,zab,zaa,gT,TK.isInt,TK.agg,Array.toList,zhm,zhn]
  refine zqz (zno xs h8) [(12,1)] (by repeat (first | exact GiveL.nil | refine GiveL.v ?_ | refine GiveL.clo ?_ | refine GiveL.own 0 rfl ?_ | refine GiveL.own 1 rfl ?_ | refine GiveL.ag ?_ ?_)) ⟨by simp (maxSteps:=5000000) -dsimp only [gr,reduceEqDiff,reduceLT,reduceAdd,reduceMod,Nat.reduceBEq,zaa,zac,zad,zab];try rfl,trivial⟩ (by decide) ?_
  simp (maxSteps:=5000000) -dsimp only [↓gp,gq,reduceCtorEq,reduceEqDiff,reduceLT,reduceLeDiff,reduceAdd,reduceMul,reduceSub,Nat.reduceBEq,Int.reduceToNat,Int.reduceLE,Int.reduceLT,Int.reduceNeg,reduceMod,zac,zad,zab,zaa,gT,TK.isInt,TK.agg,Array.toList,zhm,zhn,zCF]
  refine zBj List.length_replicate (by simp only [List.length_cons,List.length_map,List.length_append,List.length_replicate,List.length_nil]) ?_ (by exact rfl) _ ?_
  ·simp (maxSteps:=5000000) -dsimp only [↓gp,gq,reduceCtorEq,reduceEqDiff,reduceLT,reduceLeDiff,reduceAdd,reduceMul,reduceSub,Nat.reduceBEq,Int.reduceToNat,Int.reduceLE,Int.reduceLT,Int.reduceNeg,reduceMod,zac,zad,zab,zaa,gT,TK.isInt,TK.agg,Array.toList,zmv]
  have hC:=zvG f ft hF hP (zhe xs) ((zfb xs).nodup_iff.2 hn) (fun b hb=>hok b ((zfb xs).mem_iff.1 hb)) (by rw [zj6];exact h8) xs.length true (List.replicate 256 false) 0 [] (fun _=>rfl) List.length_replicate (fun u hu=>by
   have hu:(List.replicate 256 false).getD u false = true:=hu
   have:(List.replicate 256 false).getD u false = false:=by
    rw [List.getD,List.getElem?_replicate];split <;> rfl
   rw [this] at hu;cases hu) (zvs _) (by rw [zj6];simp) (fun b hb=>by cases hb) (by decide)
  simp (maxSteps:=5000000) -dsimp only [↓gp,gq,reduceCtorEq,reduceEqDiff,reduceLT,reduceLeDiff,reduceAdd,reduceMul,reduceSub,Nat.reduceBEq,Int.reduceToNat,Int.reduceLE,Int.reduceLT,Int.reduceNeg,reduceMod,zac,zad,zab,zaa,gT,TK.isInt,TK.agg,Array.toList,zhm,zhn,zCF]
  refine zD5 (ki:=12) (vi:=1) (ei:=3) (fz:=false) hC (by simp (maxSteps:=5000000) -dsimp only [gr,reduceEqDiff,reduceLT,reduceAdd,reduceMod,Nat.reduceBEq,zaa,zac,zad,zab]) (by simp (maxSteps:=5000000) -dsimp only [gr,reduceEqDiff,reduceLT,reduceAdd,reduceMod,Nat.reduceBEq,zaa,zac,zad,zab]) (by simp (maxSteps:=5000000) -dsimp only [gr,reduceEqDiff,reduceLT,reduceAdd,reduceMod,Nat.reduceBEq,zaa,zac,zad,zab]) (by decide) (by decide) fun S fl' hfl' hSd hSs w7 w18 hoff=>?_
  have u7:S.sl 7 = .ref 7 1 0:=by rw [hSs 7 (by decide)];simp (maxSteps:=5000000) -dsimp only [gr,reduceEqDiff,reduceLT,reduceAdd,reduceMod,Nat.reduceBEq,zaa,zac,zad,zab]
  simp (maxSteps:=5000000) -dsimp only [↓gp,gq,reduceCtorEq,reduceEqDiff,reduceLT,reduceLeDiff,reduceAdd,reduceMul,reduceSub,Nat.reduceBEq,Int.reduceToNat,Int.reduceLE,Int.reduceLT,Int.reduceNeg,reduceMod,zac,zad,zab,zaa,gT,TK.isInt,TK.agg,Array.toList,hSd,u7,w7,w18,zFz hfl']
  generalize zbX ft (zhe xs) xs.length [] = o
  cases o with
  | none=>exact ⟨fun _=>⟨rfl,rfl⟩,fun h=>by cases h⟩
  | some l=>exact ⟨fun h=>(by cases h),fun _=>rfl⟩
theorem zCE {n:Int} {xs:List Int} (h:cxP n xs):okL xs:=fun b hb=>by
 obtain ⟨i,hi,rfl⟩:=zaY 0 hb
 exact zcZ (h.2.2 i hi).1
theorem zBi (n:Int) (xs:List Int):zh8 n xs = if zdj n xs = true then zmf zb9 xs else none:=by
 unfold zh8 zmf
 by_cases hc:zdj n xs = true
 ·have hp:=zaS.1 hc
  have e:=zBk (zdv hp) (zCE hp)
  rw [if_pos hc,← e,zj6]
  by_cases h8:xs.length ≤ 8
  ·rw [if_pos ⟨hc,h8⟩,if_pos h8]
  ·rw [if_neg (fun h=>h8 h.2),if_neg h8]
 ·rw [if_neg hc,if_neg (fun h=>hc h.1)]
theorem zh7 (n:Int) (xs:List Int):AC Tryz.prog 7 [.ag [int n,zaI xs]] (.tup [.fr 3 1 (iL ((zh8 n xs).getD [])),.im (bool (zh8 n xs).isSome)]):=by
 refine AC.go (rs:=[.tmp 2,.tmp 3]) zaQ zar Tryz.func7 rfl rfl rfl (by kernel_rfl) fun hl=>?_
 rw [zBi]
 simp (maxSteps:=5000000) -dsimp only [↓gp,gq,reduceCtorEq,reduceEqDiff,reduceLT,reduceLeDiff,reduceAdd,reduceMul,reduceSub,Nat.reduceBEq,Int.reduceToNat,Int.reduceLE,Int.reduceLT,Int.reduceNeg,reduceMod,zac,zad,zab,zaa,gT,TK.isInt,TK.agg,Array.toList]
 refine zaf (zfG n xs) ?_
 simp (maxSteps:=5000000) -dsimp only [↓gp,gq,reduceCtorEq,reduceEqDiff,reduceLT,reduceLeDiff,reduceAdd,reduceMul,reduceSub,Nat.reduceBEq,Int.reduceToNat,Int.reduceLE,Int.reduceLT,Int.reduceNeg,reduceMod,zac,zad,zab,zaa,gT,TK.isInt,TK.agg,Array.toList]
 refine ⟨fun hc=>?_,fun hc=>?_⟩
 ·have hc:zdj n xs = false:=by simpa using hc
  rw [if_neg (by rw [hc];decide)];exact ⟨rfl,rfl⟩
 ·have hc:zdj n xs = true:=by simpa using hc
  have hp:=zaS.1 hc
  rw [if_pos hc]
  refine zaf (zqi 30 zb9 (fun l x _ _=>zfE l x) zvI xs (zdv hp) (zCE hp)) ?_
  simp (maxSteps:=5000000) -dsimp only [↓gp,gq,reduceCtorEq,reduceEqDiff,reduceLT,reduceLeDiff,reduceAdd,reduceMul,reduceSub,Nat.reduceBEq,Int.reduceToNat,Int.reduceLE,Int.reduceLT,Int.reduceNeg,reduceMod,zac,zad,zab,zaa,gT,TK.isInt,TK.agg,Array.toList]
theorem zqh {ft:List Int→Int→Bool} {gens:List Int}:∀ (n:Nat) (head l:List Int),zbX ft gens n head = some l→l.length = head.length + n:=by
 intro n
 induction n with
 | zero=>intro head l h;rw [← Option.some.inj (show some head = some l from h)];rfl
 | succ n ih =>
   intro head l h
   obtain ⟨x,_,hx⟩:=List.exists_of_findSome?_eq_some (show gens.findSome? _ = some l from h)
   split at hx
   ·cases hx
   ·rw [ih _ _ hx];simp;omega
def kcl (Q:Int→List Int→List Int→Prop) (rv:RV):Prop:=∃ n xs l,rv = .tup [.ag [.im (int n),.fr 3 1 (iL xs)],.fr 3 1 (iL l)]∧Q n xs l
def idO (n:Int) (xs l:List Int):Prop:=idQ n xs∧l.length ≤ 450
theorem zqs (n:Int) (xs:List Int):((zh8 n xs).getD []).length ≤ 450:=by
 unfold zh8
 split
 ·rename_i h
  cases e:zbX zb9 (zks xs) (zks xs).length [] with
  | none=>simp
  | some l =>
    have:=zqh _ _ _ e
    have h2:=zzQ xs
    simp at this ⊢
    omega
 ·simp
theorem zkO {s:St} (d e sz e2 sz2:Nat) (x:Value) (c c2:List PV):zak s d (.tup [.ag [.im (.v x),.fr e sz c],.fr e2 sz2 c2]) =
 ((s.row (d + 1000) ⟨(s.rw (d + 1000)).ver + 1,.sli e2 sz2 false c2⟩).row d ⟨(s.rw d).ver + 1,.sli e sz false c⟩).put (some d) (.tup [.ag [.v x,.own d ((s.rw d).ver + 1)],.own (d + 1000) ((s.rw (d + 1000)).ver + 1)]):=by
 unfold zak
 simp [zb1,zbr,leaves,zau,zaV,zbI,zba,zbw,zaj,St.row,zgx]
 rfl
theorem zrG (l:List Int):∀ p ∈ iL l,isV p = true:=fun p hp=>by
 obtain ⟨x,_,rfl⟩:=List.mem_map.1 hp
 rfl
theorem zkt (bs:List Int) (hbs:bs.length ≤ 9223372036854775806):ADr Tryz.prog 25 [.sl false 1 (kL .u8 bs)] (kcl idO):=by
 refine AG.goS (rs:=[.cell 2 26,.tmp 3]) zaQ zar Tryz.func25 rfl rfl rfl (by kernel_rfl) fun hl s hs hR=>?_
 refine zcB zaQ zar (by kernel_rfl) ?_
 simp (maxSteps:=5000000) -dsimp only [↓gp,gq,reduceCtorEq,reduceEqDiff,reduceLT,reduceLeDiff,reduceAdd,reduceMul,reduceSub,Nat.reduceBEq,Int.reduceToNat,Int.reduceLE,Int.reduceLT,Int.reduceNeg,reduceMod,zac,zad,zab,zaa,gT,TK.isInt,TK.agg,Array.toList,hs,hR]
 refine zcB zaQ zar (by kernel_rfl) ?_
 simp (maxSteps:=5000000) -dsimp only [↓gp,gq,reduceCtorEq,reduceEqDiff,reduceLT,reduceLeDiff,reduceAdd,reduceMul,reduceSub,Nat.reduceBEq,Int.reduceToNat,Int.reduceLE,Int.reduceLT,Int.reduceNeg,reduceMod,zac,zad,zab,zaa,gT,TK.isInt,TK.agg,Array.toList,hs,hR]
 refine zhQ (zho bs) (.one (.sl _ _ _) .nil) fun h0=>?_
 simp (maxSteps:=5000000) -dsimp only [↓gp,gq,reduceCtorEq,reduceEqDiff,reduceLT,reduceLeDiff,reduceAdd,reduceMul,reduceSub,Nat.reduceBEq,Int.reduceToNat,Int.reduceLE,Int.reduceLT,Int.reduceNeg,reduceMod,zac,zad,zab,zaa,gT,TK.isInt,TK.agg,Array.toList,hs,hR]
 refine zcB zaQ zar (by kernel_rfl) ?_
 simp (maxSteps:=5000000) -dsimp only [↓gp,gq,reduceCtorEq,reduceEqDiff,reduceLT,reduceLeDiff,reduceAdd,reduceMul,reduceSub,Nat.reduceBEq,Int.reduceToNat,Int.reduceLE,Int.reduceLT,Int.reduceNeg,reduceMod,zac,zad,zab,zaa,gT,TK.isInt,TK.agg,Array.toList,hs,hR]
 refine za3 (zfn bs hbs) .none (by simp (maxSteps:=5000000) -dsimp only [gr,reduceEqDiff,reduceLT,reduceAdd,reduceMod,Nat.reduceBEq,zaa,zac,zad,zab,hR] <;> rfl) (GvL.one (zcq (by simp (maxSteps:=5000000) -dsimp only [gr,reduceEqDiff,reduceLT,reduceAdd,reduceMod,Nat.reduceBEq,zaa,zac,zad,zab,hR] <;> rfl)) (by repeat (first | exact GvL.nil | refine GvL.one (GvA.v _) ?_ | refine GvL.one (GvA.sl _ _ _) ?_))) rfl (fun _ h=>by cases h) fun rv i1 g1 ⟨n,xs,hrv,hq⟩=>?_
 subst hrv
 simp (maxSteps:=5000000) -dsimp only [↓gp,gq,reduceCtorEq,reduceEqDiff,reduceLT,reduceLeDiff,reduceAdd,reduceMul,reduceSub,Nat.reduceBEq,Int.reduceToNat,Int.reduceLE,Int.reduceLT,Int.reduceNeg,reduceMod,zac,zad,zab,zaa,gT,TK.isInt,TK.agg,Array.toList,hs,hR]
 refine zcB zaQ zar (by kernel_rfl) ?_
 simp (maxSteps:=5000000) -dsimp only [↓gp,gq,reduceCtorEq,reduceEqDiff,reduceLT,reduceLeDiff,reduceAdd,reduceMul,reduceSub,Nat.reduceBEq,Int.reduceToNat,Int.reduceLE,Int.reduceLT,Int.reduceNeg,reduceMod,zac,zad,zab,zaa,gT,TK.isInt,TK.agg,Array.toList,hs,hR]
 refine zaf (zen n xs) ?_
 simp (maxSteps:=5000000) -dsimp only [↓gp,gq,reduceCtorEq,reduceEqDiff,reduceLT,reduceLeDiff,reduceAdd,reduceMul,reduceSub,Nat.reduceBEq,Int.reduceToNat,Int.reduceLE,Int.reduceLT,Int.reduceNeg,reduceMod,zac,zad,zab,zaa,gT,TK.isInt,TK.agg,Array.toList,hs,hR]
 refine zcB zaQ zar (by kernel_rfl) ?_
 simp (maxSteps:=5000000) -dsimp only [↓gp,gq,reduceCtorEq,reduceEqDiff,reduceLT,reduceLeDiff,reduceAdd,reduceMul,reduceSub,Nat.reduceBEq,Int.reduceToNat,Int.reduceLE,Int.reduceLT,Int.reduceNeg,reduceMod,zac,zad,zab,zaa,gT,TK.isInt,TK.agg,Array.toList,hs,hR]
 refine ⟨fun hk=>?_,fun hk=>?_⟩
 ·refine za3 (zcV bs hbs 2 (by decide)) .none (by simp (maxSteps:=5000000) -dsimp only [gr,reduceEqDiff,reduceLT,reduceAdd,reduceMod,Nat.reduceBEq,zaa,zac,zad,zab,hR] <;> rfl) (GvL.one (zcq (by simp (maxSteps:=5000000) -dsimp only [gr,reduceEqDiff,reduceLT,reduceAdd,reduceMod,Nat.reduceBEq,zaa,zac,zad,zab,hR] <;> rfl)) (by repeat (first | exact GvL.nil | refine GvL.one (GvA.v _) ?_ | refine GvL.one (GvA.sl _ _ _) ?_))) rfl (fun _ h=>by cases h) fun rv i2 g2 ⟨b,hrv⟩=>?_
  subst hrv
  simp (maxSteps:=5000000) -dsimp only [↓gp,gq,reduceCtorEq,reduceEqDiff,reduceLT,reduceLeDiff,reduceAdd,reduceMul,reduceSub,Nat.reduceBEq,Int.reduceToNat,Int.reduceLE,Int.reduceLT,Int.reduceNeg,reduceMod,zac,zad,zab,zaa,gT,TK.isInt,TK.agg,Array.toList,hs,hR,zeQ]
  refine ⟨fun hb=>?_,fun hb=>?_⟩
  ·refine ⟨_,_,⟨n,xs,_,rfl,hq,?_⟩,.tup (.cons (.ag (.cons (.im _) (.cons (.fr (by simp (maxSteps:=5000000) -dsimp only [gr,reduceEqDiff,reduceLT,reduceAdd,reduceMod,Nat.reduceBEq,zaa,zac,zad,zab] <;> rfl) (by decide)) .nil))) (.cons (.lf (.fr (by simp (maxSteps:=5000000) -dsimp only [gr,reduceEqDiff,reduceLT,reduceAdd,reduceMod,Nat.reduceBEq,zaa,zac,zad,zab] <;> rfl) (by decide))) .nil)),by simp⟩
   have:=zqs n xs
   omega
  ·refine zcB zaQ zar (by kernel_rfl) ?_
   simp (maxSteps:=5000000) -dsimp only [↓gp,gq,reduceCtorEq,reduceEqDiff,reduceLT,reduceLeDiff,reduceAdd,reduceMul,reduceSub,Nat.reduceBEq,Int.reduceToNat,Int.reduceLE,Int.reduceLT,Int.reduceNeg,reduceMod,zac,zad,zab,zaa,gT,TK.isInt,TK.agg,Array.toList,hs,hR]
   refine zeg (zcB zaQ zar (by kernel_rfl) ?_)
   simp (maxSteps:=5000000) -dsimp only [↓gp,gq,reduceCtorEq,reduceEqDiff,reduceLT,reduceLeDiff,reduceAdd,reduceMul,reduceSub,Nat.reduceBEq,Int.reduceToNat,Int.reduceLE,Int.reduceLT,Int.reduceNeg,reduceMod,zac,zad,zab,zaa,gT,TK.isInt,TK.agg,Array.toList,hs,hR]
   refine zfg (zmg ?_)
   refine zam (fun (za:Nat × Nat × Nat × Int × List Int) s=>match za with | (k,v,j,g,L)=>s.sl 2 = .ref 2 1 0∧s.rw 2 = ⟨1,.box 26 [int 0,.v (.slice none 0 0)]⟩∧s.sl 3 = .own 3 1∧s.rw 3 = ⟨1,.sli 3 1 false []⟩∧s.sl 4 = .ref 13 1 0∧s.rw 13 = ⟨1,.box TC [.sl false 1 (kL .u8 bs),int j,int g]⟩∧s.sl 5 = .ref 5 1 0∧s.rw 5 = ⟨1,.box 26 [int n,.own 15 1]⟩∧s.rw 15 = ⟨1,.sli 3 1 false (iL xs)⟩∧s.sl 8 = .own 28 v∧s.rw 28 = ⟨v,.sli 3 1 false (iL L)⟩∧s.sl 9 = int k∧(k ≤ xs.length∧L.length = k)) (fun (k,v,j,g,L)=>xs.length - k) ((0,1,_,_,[])) (by refine ⟨?_,?_,?_,?_,?_,?_,?_,?_,?_,?_,?_,?_,⟨Nat.zero_le _,rfl⟩⟩ <;> (first | (simp (maxSteps:=5000000) -dsimp only [gr,reduceEqDiff,reduceLT,reduceAdd,reduceMod,Nat.reduceBEq,zaa,zac,zad,zab,hs,hR];first | done | rfl | (simp;done)) | assumption | rfl)) ?_
   intro (k,v,j,g,L) sa ⟨h2a,r2a,h3a,r3a,h4a,r13a,h5a,r5a,r15a,h8a,r28a,h9a,hIa⟩
   obtain ⟨hkl,hL⟩:=hIa
   obtain ⟨hn0,hn7,hxl⟩:=id hq
   have hil:(iL xs).length = xs.length:=by simp [iL]
   refine zcB zaQ zar (by kernel_rfl) ?_
   simp (maxSteps:=5000000) -dsimp only [↓gp,gq,reduceCtorEq,reduceEqDiff,reduceLT,reduceLeDiff,reduceAdd,reduceMul,reduceSub,Nat.reduceBEq,Int.reduceToNat,Int.reduceLE,Int.reduceLT,Int.reduceNeg,reduceMod,zac,zad,zab,zaa,gT,TK.isInt,TK.agg,Array.toList,h2a,r2a,h3a,r3a,h4a,r13a,h5a,r5a,r15a,h8a,r28a,h9a]
   refine ⟨fun hk3=>zeg (zfg (zcB zaQ zar (by kernel_rfl) ?_)),fun hk3=>zeA zaQ zar (by kernel_rfl) ?_⟩
   ·have hw1:IntKind.i64.wrap ((L.length:Int) + 1) = ((k + 1:Nat):Int):=by rw [zap (by omega) (by omega)];omega
    simp (maxSteps:=5000000) -dsimp only [↓gp,gq,reduceCtorEq,reduceEqDiff,reduceLT,reduceLeDiff,reduceAdd,reduceMul,reduceSub,Nat.reduceBEq,Int.reduceToNat,Int.reduceLE,Int.reduceLT,Int.reduceNeg,reduceMod,zac,zad,zab,zaa,gT,TK.isInt,TK.agg,Array.toList,h2a,r2a,h3a,r3a,h4a,r13a,h5a,r5a,r15a,h8a,r28a,h9a,hw1]
    refine za3 (zbK bs hbs ((k + 1:Nat):Int) (by omega)) .none (by simp (maxSteps:=5000000) -dsimp only [gr,reduceEqDiff,reduceLT,reduceAdd,reduceMod,Nat.reduceBEq,zaa,zac,zad,zab,h2a,r2a,h3a,r3a,h4a,r13a,h5a,r5a,r15a,h8a,r28a,h9a] <;> rfl) (GvL.one (zcq (by simp (maxSteps:=5000000) -dsimp only [gr,reduceEqDiff,reduceLT,reduceAdd,reduceMod,Nat.reduceBEq,zaa,zac,zad,zab,h2a,r2a,h3a,r3a,h4a,r13a,h5a,r5a,r15a,h8a,r28a,h9a] <;> rfl)) (by repeat (first | exact GvL.nil | refine GvL.one (GvA.v _) ?_ | refine GvL.one (GvA.sl _ _ _) ?_))) rfl (fun _ h=>by cases h) fun rv j2 g2 ⟨x,hrv,hx⟩=>?_
    subst hrv
    obtain ⟨m,rfl,hm⟩:=ziB (n:=k + 1) (by omega) hx
    simp (maxSteps:=5000000) -dsimp only [↓gp,gq,reduceCtorEq,reduceEqDiff,reduceLT,reduceLeDiff,reduceAdd,reduceMul,reduceSub,Nat.reduceBEq,Int.reduceToNat,Int.reduceLE,Int.reduceLT,Int.reduceNeg,reduceMod,zac,zad,zab,zaa,gT,TK.isInt,TK.agg,Array.toList,h2a,r2a,h3a,r3a,h4a,r13a,h5a,r5a,r15a,h8a,r28a,h9a]
    refine zeg (zkm (zci zaQ rfl (fun d hd=>by cases hd;decide) ?_))
    simp (maxSteps:=5000000) -dsimp only [↓gp,gq,reduceCtorEq,reduceEqDiff,reduceLT,reduceLeDiff,reduceAdd,reduceMul,reduceSub,Nat.reduceBEq,Int.reduceToNat,Int.reduceLE,Int.reduceLT,Int.reduceNeg,reduceMod,zac,zad,zab,zaa,gT,TK.isInt,TK.agg,Array.toList,h2a,r2a,h3a,r3a,h4a,r13a,h5a,r5a,r15a,h8a,r28a,h9a]
    refine zci zaQ rfl (fun d hd=>by cases hd;decide) ?_
    simp (maxSteps:=5000000) -dsimp only [↓gp,gq,reduceCtorEq,reduceEqDiff,reduceLT,reduceLeDiff,reduceAdd,reduceMul,reduceSub,Nat.reduceBEq,Int.reduceToNat,Int.reduceLE,Int.reduceLT,Int.reduceNeg,reduceMod,zac,zad,zab,zaa,gT,TK.isInt,TK.agg,Array.toList,h2a,r2a,h3a,r3a,h4a,r13a,h5a,r5a,r15a,h8a,r28a,h9a]
    refine zci zaQ rfl (fun d hd=>by cases hd;decide) ?_
    simp (maxSteps:=5000000) -dsimp only [↓gp,gq,reduceCtorEq,reduceEqDiff,reduceLT,reduceLeDiff,reduceAdd,reduceMul,reduceSub,Nat.reduceBEq,Int.reduceToNat,Int.reduceLE,Int.reduceLT,Int.reduceNeg,reduceMod,zac,zad,zab,zaa,gT,TK.isInt,TK.agg,Array.toList,h2a,r2a,h3a,r3a,h4a,r13a,h5a,r5a,r15a,h8a,r28a,h9a]
    refine zmh (e:=3) (k:=28) (v:=v) (j:=41) (kd:=.i64) (m:=(m:Int)) (c:=iL L) (c0:=[]) zaQ rfl rfl rfl (by decide) rfl rfl rfl (by decide) (by decide) rfl (by decide) rfl (by decide)
     (by simp (maxSteps:=5000000) -dsimp only [gr,reduceEqDiff,reduceLT,reduceAdd,reduceMod,Nat.reduceBEq,zaa,zac,zad,zab,h2a,r2a,h3a,r3a,h4a,r13a,h5a,r5a,r15a,h8a,r28a,h9a]) (by simp (maxSteps:=5000000) -dsimp only [gr,reduceEqDiff,reduceLT,reduceAdd,reduceMod,Nat.reduceBEq,zaa,zac,zad,zab,h2a,r2a,h3a,r3a,h4a,r13a,h5a,r5a,r15a,h8a,r28a,h9a] <;> rfl) (zrG _) (by simp (maxSteps:=5000000) -dsimp only [gr,reduceEqDiff,reduceLT,reduceAdd,reduceMod,Nat.reduceBEq,zaa,zac,zad,zab,h2a,r2a,h3a,r3a,h4a,r13a,h5a,r5a,r15a,h8a,r28a,h9a]) (by omega) (by simp [iL];omega) (by simp (maxSteps:=5000000) -dsimp only [gr,reduceEqDiff,reduceLT,reduceAdd,reduceMod,Nat.reduceBEq,zaa,zac,zad,zab,h2a,r2a,h3a,r3a,h4a,r13a,h5a,r5a,r15a,h8a,r28a,h9a] <;> rfl) (by simp (maxSteps:=5000000) -dsimp only [gr,reduceEqDiff,reduceLT,reduceAdd,reduceMod,Nat.reduceBEq,zaa,zac,zad,zab,h2a,r2a,h3a,r3a,h4a,r13a,h5a,r5a,r15a,h8a,r28a,h9a] <;> rfl) ?_ (zci zaQ rfl (fun d hd=>by cases hd;decide) ?_)
    ·show (0 + ((iL L).length - ((m:Int)).toNat)) * 8 ≤ _
     simp [iL];omega
    simp (maxSteps:=5000000) -dsimp only [↓gp,gq,reduceCtorEq,reduceEqDiff,reduceLT,reduceLeDiff,reduceAdd,reduceMul,reduceSub,Nat.reduceBEq,Int.reduceToNat,Int.reduceLE,Int.reduceLT,Int.reduceNeg,reduceMod,zac,zad,zab,zaa,gT,TK.isInt,TK.agg,Array.toList,h2a,r2a,h3a,r3a,h4a,r13a,h5a,r5a,r15a,h8a,r28a,h9a]
    refine zql ?_
    simp (maxSteps:=5000000) -dsimp only [↓gp,gq,reduceCtorEq,reduceEqDiff,reduceLT,reduceLeDiff,reduceAdd,reduceMul,reduceSub,Nat.reduceBEq,Int.reduceToNat,Int.reduceLE,Int.reduceLT,Int.reduceNeg,reduceMod,zac,zad,zab,zaa,gT,TK.isInt,TK.agg,Array.toList,h2a,r2a,h3a,r3a,h4a,r13a,h5a,r5a,r15a,h8a,r28a,h9a]
    refine zeA zaQ zar (by kernel_rfl) ?_
    simp (maxSteps:=5000000) -dsimp only [↓gp,gq,reduceCtorEq,reduceEqDiff,reduceLT,reduceLeDiff,reduceAdd,reduceMul,reduceSub,Nat.reduceBEq,Int.reduceToNat,Int.reduceLE,Int.reduceLT,Int.reduceNeg,reduceMod,zac,zad,zab,zaa,gT,TK.isInt,TK.agg,Array.toList,h2a,r2a,h3a,r3a,h4a,r13a,h5a,r5a,r15a,h8a,r28a,h9a]
    have h1:(List.take m L).length ≤ k:=by rw [List.length_take];omega
    have h2:(List.drop m L).length ≤ k:=by rw [List.length_drop];omega
    refine ⟨by kernel_rfl,⟨by decide,rfl,by decide,by decide⟩,by omega,hk3,hk3,by omega,by rw [List.length_append,List.length_singleton];omega,by kernel_rfl,zeA zaQ zar (by kernel_rfl) ?_⟩
    simp (maxSteps:=5000000) -dsimp only [↓gp,gq,reduceCtorEq,reduceEqDiff,reduceLT,reduceLeDiff,reduceAdd,reduceMul,reduceSub,Nat.reduceBEq,Int.reduceToNat,Int.reduceLE,Int.reduceLT,Int.reduceNeg,reduceMod,zac,zad,zab,zaa,gT,TK.isInt,TK.agg,Array.toList,h2a,r2a,h3a,r3a,h4a,r13a,h5a,r5a,r15a,h8a,r28a,h9a]
    exact zah ((k + 1,v + 3,j2,g2,L.take m ++ [xs.getD k 0] ++ L.drop m)) (by refine ⟨?_,?_,?_,?_,?_,?_,?_,?_,?_,?_,?_,?_,⟨by dsimp only;omega,by simp;omega⟩⟩ <;> (first | (simp (maxSteps:=5000000) -dsimp only [gr,reduceEqDiff,reduceLT,reduceAdd,reduceMod,Nat.reduceBEq,zaa,zac,zad,zab,h2a,r2a,h3a,r3a,h4a,r13a,h5a,r5a,r15a,h8a,r28a,h9a,zae hk3 (by omega)];first | done | rfl | (simp;done)) | assumption | rfl)) (by first | omega | (simp only;omega) | (dsimp only;omega) | (show _ < _;simp;omega))
   ·have hk4:k = xs.length:=by omega
    simp (maxSteps:=5000000) -dsimp only [↓gp,gq,reduceCtorEq,reduceEqDiff,reduceLT,reduceLeDiff,reduceAdd,reduceMul,reduceSub,Nat.reduceBEq,Int.reduceToNat,Int.reduceLE,Int.reduceLT,Int.reduceNeg,reduceMod,zac,zad,zab,zaa,gT,TK.isInt,TK.agg,Array.toList,h2a,r2a,h3a,r3a,h4a,r13a,h5a,r5a,r15a,h8a,r28a,h9a,zeQ]
    refine ⟨fun h1=>za3 (zcV bs hbs 12 (by decide)) .none (by simp (maxSteps:=5000000) -dsimp only [gr,reduceEqDiff,reduceLT,reduceAdd,reduceMod,Nat.reduceBEq,zaa,zac,zad,zab,h2a,r2a,h3a,r3a,h4a,r13a,h5a,r5a,r15a,h8a,r28a,h9a] <;> rfl) (GvL.one (zcq (by simp (maxSteps:=5000000) -dsimp only [gr,reduceEqDiff,reduceLT,reduceAdd,reduceMod,Nat.reduceBEq,zaa,zac,zad,zab,h2a,r2a,h3a,r3a,h4a,r13a,h5a,r5a,r15a,h8a,r28a,h9a] <;> rfl)) (by repeat (first | exact GvL.nil | refine GvL.one (GvA.v _) ?_ | refine GvL.one (GvA.sl _ _ _) ?_))) rfl (fun _ h=>by cases h) fun rv i3 g3 ⟨b3,hrv⟩=>?_,fun h1=>?_⟩
    ·subst hrv
     simp (maxSteps:=5000000) -dsimp only [↓gp,gq,reduceCtorEq,reduceEqDiff,reduceLT,reduceLeDiff,reduceAdd,reduceMul,reduceSub,Nat.reduceBEq,Int.reduceToNat,Int.reduceLE,Int.reduceLT,Int.reduceNeg,reduceMod,zac,zad,zab,zaa,gT,TK.isInt,TK.agg,Array.toList,h2a,r2a,h3a,r3a,h4a,r13a,h5a,r5a,r15a,h8a,r28a,h9a,zeQ]
     refine ⟨fun hb3=>za3 (zbK bs hbs 64 (by decide)) .none (by simp (maxSteps:=5000000) -dsimp only [gr,reduceEqDiff,reduceLT,reduceAdd,reduceMod,Nat.reduceBEq,zaa,zac,zad,zab,h2a,r2a,h3a,r3a,h4a,r13a,h5a,r5a,r15a,h8a,r28a,h9a] <;> rfl) (GvL.one (zcq (by simp (maxSteps:=5000000) -dsimp only [gr,reduceEqDiff,reduceLT,reduceAdd,reduceMod,Nat.reduceBEq,zaa,zac,zad,zab,h2a,r2a,h3a,r3a,h4a,r13a,h5a,r5a,r15a,h8a,r28a,h9a] <;> rfl)) (by repeat (first | exact GvL.nil | refine GvL.one (GvA.v _) ?_ | refine GvL.one (GvA.sl _ _ _) ?_))) rfl (fun _ h=>by cases h) fun rv i4 g4 ⟨x,hrv,hx⟩=>?_,fun hb3=>?_⟩
     ·subst hrv
      simp (maxSteps:=5000000) -dsimp only [↓gp,gq,reduceCtorEq,reduceEqDiff,reduceLT,reduceLeDiff,reduceAdd,reduceMul,reduceSub,Nat.reduceBEq,Int.reduceToNat,Int.reduceLE,Int.reduceLT,Int.reduceNeg,reduceMod,zac,zad,zab,zaa,gT,TK.isInt,TK.agg,Array.toList,h2a,r2a,h3a,r3a,h4a,r13a,h5a,r5a,r15a,h8a,r28a,h9a,zeQ]
      refine ⟨by omega,by omega,?_⟩
      exact ⟨_,_,⟨n,xs,L.set 0 x,rfl,hq,by simp;omega⟩,.tup (.cons (.ag (.cons (.im _) (.cons (.fr (by simp (maxSteps:=5000000) -dsimp only [gr,reduceEqDiff,reduceLT,reduceAdd,reduceMod,Nat.reduceBEq,zaa,zac,zad,zab,h2a,r2a,h3a,r3a,h4a,r13a,h5a,r5a,r15a,h8a,r28a,h9a] <;> rfl) (by decide)) .nil))) (.cons (.lf (.fr (by simp (maxSteps:=5000000) -dsimp only [gr,reduceEqDiff,reduceLT,reduceAdd,reduceMod,Nat.reduceBEq,zaa,zac,zad,zab,h2a,r2a,h3a,r3a,h4a,r13a,h5a,r5a,r15a,h8a,r28a,h9a] <;> rfl) (by decide))) .nil)),by simp⟩
     ·exact ⟨_,_,⟨n,xs,L,rfl,hq,by omega⟩,.tup (.cons (.ag (.cons (.im _) (.cons (.fr (by simp (maxSteps:=5000000) -dsimp only [gr,reduceEqDiff,reduceLT,reduceAdd,reduceMod,Nat.reduceBEq,zaa,zac,zad,zab,h2a,r2a,h3a,r3a,h4a,r13a,h5a,r5a,r15a,h8a,r28a,h9a] <;> rfl) (by decide)) .nil))) (.cons (.lf (.fr (by simp (maxSteps:=5000000) -dsimp only [gr,reduceEqDiff,reduceLT,reduceAdd,reduceMod,Nat.reduceBEq,zaa,zac,zad,zab,h2a,r2a,h3a,r3a,h4a,r13a,h5a,r5a,r15a,h8a,r28a,h9a] <;> rfl) (by decide))) .nil)),by simp⟩
    ·exact ⟨_,_,⟨n,xs,L,rfl,hq,by omega⟩,.tup (.cons (.ag (.cons (.im _) (.cons (.fr (by simp (maxSteps:=5000000) -dsimp only [gr,reduceEqDiff,reduceLT,reduceAdd,reduceMod,Nat.reduceBEq,zaa,zac,zad,zab,h2a,r2a,h3a,r3a,h4a,r13a,h5a,r5a,r15a,h8a,r28a,h9a] <;> rfl) (by decide)) .nil))) (.cons (.lf (.fr (by simp (maxSteps:=5000000) -dsimp only [gr,reduceEqDiff,reduceLT,reduceAdd,reduceMod,Nat.reduceBEq,zaa,zac,zad,zab,h2a,r2a,h3a,r3a,h4a,r13a,h5a,r5a,r15a,h8a,r28a,h9a] <;> rfl) (by decide))) .nil)),by simp⟩
 ·refine zcB zaQ zar (by kernel_rfl) ?_
  simp (maxSteps:=5000000) -dsimp only [↓gp,gq,reduceCtorEq,reduceEqDiff,reduceLT,reduceLeDiff,reduceAdd,reduceMul,reduceSub,Nat.reduceBEq,Int.reduceToNat,Int.reduceLE,Int.reduceLT,Int.reduceNeg,reduceMod,zac,zad,zab,zaa,gT,TK.isInt,TK.agg,Array.toList,hs,hR]
  refine zeg (zcB zaQ zar (by kernel_rfl) ?_)
  simp (maxSteps:=5000000) -dsimp only [↓gp,gq,reduceCtorEq,reduceEqDiff,reduceLT,reduceLeDiff,reduceAdd,reduceMul,reduceSub,Nat.reduceBEq,Int.reduceToNat,Int.reduceLE,Int.reduceLT,Int.reduceNeg,reduceMod,zac,zad,zab,zaa,gT,TK.isInt,TK.agg,Array.toList,hs,hR]
  refine zfg (zmg ?_)
  refine zam (fun (za:Nat × Nat × Nat × Int × List Int) s=>match za with | (k,v,j,g,L)=>s.sl 2 = .ref 2 1 0∧s.rw 2 = ⟨1,.box 26 [int 0,.v (.slice none 0 0)]⟩∧s.sl 3 = .own 3 1∧s.rw 3 = ⟨1,.sli 3 1 false []⟩∧s.sl 4 = .ref 13 1 0∧s.rw 13 = ⟨1,.box TC [.sl false 1 (kL .u8 bs),int j,int g]⟩∧s.sl 5 = .ref 5 1 0∧s.rw 5 = ⟨1,.box 26 [int n,.own 15 1]⟩∧s.rw 15 = ⟨1,.sli 3 1 false (iL xs)⟩∧s.sl 8 = .own 28 v∧s.rw 28 = ⟨v,.sli 3 1 false (iL L)⟩∧s.sl 9 = int k∧(k ≤ xs.length∧L.length = k)) (fun (k,v,j,g,L)=>xs.length - k) ((0,1,_,_,[])) (by refine ⟨?_,?_,?_,?_,?_,?_,?_,?_,?_,?_,?_,?_,⟨Nat.zero_le _,rfl⟩⟩ <;> (first | (simp (maxSteps:=5000000) -dsimp only [gr,reduceEqDiff,reduceLT,reduceAdd,reduceMod,Nat.reduceBEq,zaa,zac,zad,zab,hs,hR];first | done | rfl | (simp;done)) | assumption | rfl)) ?_
  intro (k,v,j,g,L) sa ⟨h2a,r2a,h3a,r3a,h4a,r13a,h5a,r5a,r15a,h8a,r28a,h9a,hIa⟩
  obtain ⟨hkl,hL⟩:=hIa
  obtain ⟨hn0,hn7,hxl⟩:=id hq
  have hil:(iL xs).length = xs.length:=by simp [iL]
  refine zcB zaQ zar (by kernel_rfl) ?_
  simp (maxSteps:=5000000) -dsimp only [↓gp,gq,reduceCtorEq,reduceEqDiff,reduceLT,reduceLeDiff,reduceAdd,reduceMul,reduceSub,Nat.reduceBEq,Int.reduceToNat,Int.reduceLE,Int.reduceLT,Int.reduceNeg,reduceMod,zac,zad,zab,zaa,gT,TK.isInt,TK.agg,Array.toList,h2a,r2a,h3a,r3a,h4a,r13a,h5a,r5a,r15a,h8a,r28a,h9a]
  refine ⟨fun hk3=>zeg (zfg (zcB zaQ zar (by kernel_rfl) ?_)),fun hk3=>zeA zaQ zar (by kernel_rfl) ?_⟩
  ·have hw1:IntKind.i64.wrap ((L.length:Int) + 1) = ((k + 1:Nat):Int):=by rw [zap (by omega) (by omega)];omega
   simp (maxSteps:=5000000) -dsimp only [↓gp,gq,reduceCtorEq,reduceEqDiff,reduceLT,reduceLeDiff,reduceAdd,reduceMul,reduceSub,Nat.reduceBEq,Int.reduceToNat,Int.reduceLE,Int.reduceLT,Int.reduceNeg,reduceMod,zac,zad,zab,zaa,gT,TK.isInt,TK.agg,Array.toList,h2a,r2a,h3a,r3a,h4a,r13a,h5a,r5a,r15a,h8a,r28a,h9a,hw1]
   refine za3 (zbK bs hbs ((k + 1:Nat):Int) (by omega)) .none (by simp (maxSteps:=5000000) -dsimp only [gr,reduceEqDiff,reduceLT,reduceAdd,reduceMod,Nat.reduceBEq,zaa,zac,zad,zab,h2a,r2a,h3a,r3a,h4a,r13a,h5a,r5a,r15a,h8a,r28a,h9a] <;> rfl) (GvL.one (zcq (by simp (maxSteps:=5000000) -dsimp only [gr,reduceEqDiff,reduceLT,reduceAdd,reduceMod,Nat.reduceBEq,zaa,zac,zad,zab,h2a,r2a,h3a,r3a,h4a,r13a,h5a,r5a,r15a,h8a,r28a,h9a] <;> rfl)) (by repeat (first | exact GvL.nil | refine GvL.one (GvA.v _) ?_ | refine GvL.one (GvA.sl _ _ _) ?_))) rfl (fun _ h=>by cases h) fun rv j2 g2 ⟨x,hrv,hx⟩=>?_
   subst hrv
   obtain ⟨m,rfl,hm⟩:=ziB (n:=k + 1) (by omega) hx
   simp (maxSteps:=5000000) -dsimp only [↓gp,gq,reduceCtorEq,reduceEqDiff,reduceLT,reduceLeDiff,reduceAdd,reduceMul,reduceSub,Nat.reduceBEq,Int.reduceToNat,Int.reduceLE,Int.reduceLT,Int.reduceNeg,reduceMod,zac,zad,zab,zaa,gT,TK.isInt,TK.agg,Array.toList,h2a,r2a,h3a,r3a,h4a,r13a,h5a,r5a,r15a,h8a,r28a,h9a]
   refine zeg (zkm (zci zaQ rfl (fun d hd=>by cases hd;decide) ?_))
   simp (maxSteps:=5000000) -dsimp only [↓gp,gq,reduceCtorEq,reduceEqDiff,reduceLT,reduceLeDiff,reduceAdd,reduceMul,reduceSub,Nat.reduceBEq,Int.reduceToNat,Int.reduceLE,Int.reduceLT,Int.reduceNeg,reduceMod,zac,zad,zab,zaa,gT,TK.isInt,TK.agg,Array.toList,h2a,r2a,h3a,r3a,h4a,r13a,h5a,r5a,r15a,h8a,r28a,h9a]
   refine zci zaQ rfl (fun d hd=>by cases hd;decide) ?_
   simp (maxSteps:=5000000) -dsimp only [↓gp,gq,reduceCtorEq,reduceEqDiff,reduceLT,reduceLeDiff,reduceAdd,reduceMul,reduceSub,Nat.reduceBEq,Int.reduceToNat,Int.reduceLE,Int.reduceLT,Int.reduceNeg,reduceMod,zac,zad,zab,zaa,gT,TK.isInt,TK.agg,Array.toList,h2a,r2a,h3a,r3a,h4a,r13a,h5a,r5a,r15a,h8a,r28a,h9a]
   refine zci zaQ rfl (fun d hd=>by cases hd;decide) ?_
   simp (maxSteps:=5000000) -dsimp only [↓gp,gq,reduceCtorEq,reduceEqDiff,reduceLT,reduceLeDiff,reduceAdd,reduceMul,reduceSub,Nat.reduceBEq,Int.reduceToNat,Int.reduceLE,Int.reduceLT,Int.reduceNeg,reduceMod,zac,zad,zab,zaa,gT,TK.isInt,TK.agg,Array.toList,h2a,r2a,h3a,r3a,h4a,r13a,h5a,r5a,r15a,h8a,r28a,h9a]
   refine zmh (e:=3) (k:=28) (v:=v) (j:=41) (kd:=.i64) (m:=(m:Int)) (c:=iL L) (c0:=[]) zaQ rfl rfl rfl (by decide) rfl rfl rfl (by decide) (by decide) rfl (by decide) rfl (by decide)
    (by simp (maxSteps:=5000000) -dsimp only [gr,reduceEqDiff,reduceLT,reduceAdd,reduceMod,Nat.reduceBEq,zaa,zac,zad,zab,h2a,r2a,h3a,r3a,h4a,r13a,h5a,r5a,r15a,h8a,r28a,h9a]) (by simp (maxSteps:=5000000) -dsimp only [gr,reduceEqDiff,reduceLT,reduceAdd,reduceMod,Nat.reduceBEq,zaa,zac,zad,zab,h2a,r2a,h3a,r3a,h4a,r13a,h5a,r5a,r15a,h8a,r28a,h9a] <;> rfl) (zrG _) (by simp (maxSteps:=5000000) -dsimp only [gr,reduceEqDiff,reduceLT,reduceAdd,reduceMod,Nat.reduceBEq,zaa,zac,zad,zab,h2a,r2a,h3a,r3a,h4a,r13a,h5a,r5a,r15a,h8a,r28a,h9a]) (by omega) (by simp [iL];omega) (by simp (maxSteps:=5000000) -dsimp only [gr,reduceEqDiff,reduceLT,reduceAdd,reduceMod,Nat.reduceBEq,zaa,zac,zad,zab,h2a,r2a,h3a,r3a,h4a,r13a,h5a,r5a,r15a,h8a,r28a,h9a] <;> rfl) (by simp (maxSteps:=5000000) -dsimp only [gr,reduceEqDiff,reduceLT,reduceAdd,reduceMod,Nat.reduceBEq,zaa,zac,zad,zab,h2a,r2a,h3a,r3a,h4a,r13a,h5a,r5a,r15a,h8a,r28a,h9a] <;> rfl) ?_ (zci zaQ rfl (fun d hd=>by cases hd;decide) ?_)
   ·show (0 + ((iL L).length - ((m:Int)).toNat)) * 8 ≤ _
    simp [iL];omega
   simp (maxSteps:=5000000) -dsimp only [↓gp,gq,reduceCtorEq,reduceEqDiff,reduceLT,reduceLeDiff,reduceAdd,reduceMul,reduceSub,Nat.reduceBEq,Int.reduceToNat,Int.reduceLE,Int.reduceLT,Int.reduceNeg,reduceMod,zac,zad,zab,zaa,gT,TK.isInt,TK.agg,Array.toList,h2a,r2a,h3a,r3a,h4a,r13a,h5a,r5a,r15a,h8a,r28a,h9a]
   refine zql ?_
   simp (maxSteps:=5000000) -dsimp only [↓gp,gq,reduceCtorEq,reduceEqDiff,reduceLT,reduceLeDiff,reduceAdd,reduceMul,reduceSub,Nat.reduceBEq,Int.reduceToNat,Int.reduceLE,Int.reduceLT,Int.reduceNeg,reduceMod,zac,zad,zab,zaa,gT,TK.isInt,TK.agg,Array.toList,h2a,r2a,h3a,r3a,h4a,r13a,h5a,r5a,r15a,h8a,r28a,h9a]
   refine zeA zaQ zar (by kernel_rfl) ?_
   simp (maxSteps:=5000000) -dsimp only [↓gp,gq,reduceCtorEq,reduceEqDiff,reduceLT,reduceLeDiff,reduceAdd,reduceMul,reduceSub,Nat.reduceBEq,Int.reduceToNat,Int.reduceLE,Int.reduceLT,Int.reduceNeg,reduceMod,zac,zad,zab,zaa,gT,TK.isInt,TK.agg,Array.toList,h2a,r2a,h3a,r3a,h4a,r13a,h5a,r5a,r15a,h8a,r28a,h9a]
   have h1:(List.take m L).length ≤ k:=by rw [List.length_take];omega
   have h2:(List.drop m L).length ≤ k:=by rw [List.length_drop];omega
   refine ⟨by kernel_rfl,⟨by decide,rfl,by decide,by decide⟩,by omega,hk3,hk3,by omega,by rw [List.length_append,List.length_singleton];omega,by kernel_rfl,zeA zaQ zar (by kernel_rfl) ?_⟩
   simp (maxSteps:=5000000) -dsimp only [↓gp,gq,reduceCtorEq,reduceEqDiff,reduceLT,reduceLeDiff,reduceAdd,reduceMul,reduceSub,Nat.reduceBEq,Int.reduceToNat,Int.reduceLE,Int.reduceLT,Int.reduceNeg,reduceMod,zac,zad,zab,zaa,gT,TK.isInt,TK.agg,Array.toList,h2a,r2a,h3a,r3a,h4a,r13a,h5a,r5a,r15a,h8a,r28a,h9a]
   exact zah ((k + 1,v + 3,j2,g2,L.take m ++ [xs.getD k 0] ++ L.drop m)) (by refine ⟨?_,?_,?_,?_,?_,?_,?_,?_,?_,?_,?_,?_,⟨by dsimp only;omega,by simp;omega⟩⟩ <;> (first | (simp (maxSteps:=5000000) -dsimp only [gr,reduceEqDiff,reduceLT,reduceAdd,reduceMod,Nat.reduceBEq,zaa,zac,zad,zab,h2a,r2a,h3a,r3a,h4a,r13a,h5a,r5a,r15a,h8a,r28a,h9a,zae hk3 (by omega)];first | done | rfl | (simp;done)) | assumption | rfl)) (by first | omega | (simp only;omega) | (dsimp only;omega) | (show _ < _;simp;omega))
  ·have hk4:k = xs.length:=by omega
   simp (maxSteps:=5000000) -dsimp only [↓gp,gq,reduceCtorEq,reduceEqDiff,reduceLT,reduceLeDiff,reduceAdd,reduceMul,reduceSub,Nat.reduceBEq,Int.reduceToNat,Int.reduceLE,Int.reduceLT,Int.reduceNeg,reduceMod,zac,zad,zab,zaa,gT,TK.isInt,TK.agg,Array.toList,h2a,r2a,h3a,r3a,h4a,r13a,h5a,r5a,r15a,h8a,r28a,h9a,zeQ]
   refine ⟨fun h1=>za3 (zcV bs hbs 12 (by decide)) .none (by simp (maxSteps:=5000000) -dsimp only [gr,reduceEqDiff,reduceLT,reduceAdd,reduceMod,Nat.reduceBEq,zaa,zac,zad,zab,h2a,r2a,h3a,r3a,h4a,r13a,h5a,r5a,r15a,h8a,r28a,h9a] <;> rfl) (GvL.one (zcq (by simp (maxSteps:=5000000) -dsimp only [gr,reduceEqDiff,reduceLT,reduceAdd,reduceMod,Nat.reduceBEq,zaa,zac,zad,zab,h2a,r2a,h3a,r3a,h4a,r13a,h5a,r5a,r15a,h8a,r28a,h9a] <;> rfl)) (by repeat (first | exact GvL.nil | refine GvL.one (GvA.v _) ?_ | refine GvL.one (GvA.sl _ _ _) ?_))) rfl (fun _ h=>by cases h) fun rv i3 g3 ⟨b3,hrv⟩=>?_,fun h1=>?_⟩
   ·subst hrv
    simp (maxSteps:=5000000) -dsimp only [↓gp,gq,reduceCtorEq,reduceEqDiff,reduceLT,reduceLeDiff,reduceAdd,reduceMul,reduceSub,Nat.reduceBEq,Int.reduceToNat,Int.reduceLE,Int.reduceLT,Int.reduceNeg,reduceMod,zac,zad,zab,zaa,gT,TK.isInt,TK.agg,Array.toList,h2a,r2a,h3a,r3a,h4a,r13a,h5a,r5a,r15a,h8a,r28a,h9a,zeQ]
    refine ⟨fun hb3=>za3 (zbK bs hbs 64 (by decide)) .none (by simp (maxSteps:=5000000) -dsimp only [gr,reduceEqDiff,reduceLT,reduceAdd,reduceMod,Nat.reduceBEq,zaa,zac,zad,zab,h2a,r2a,h3a,r3a,h4a,r13a,h5a,r5a,r15a,h8a,r28a,h9a] <;> rfl) (GvL.one (zcq (by simp (maxSteps:=5000000) -dsimp only [gr,reduceEqDiff,reduceLT,reduceAdd,reduceMod,Nat.reduceBEq,zaa,zac,zad,zab,h2a,r2a,h3a,r3a,h4a,r13a,h5a,r5a,r15a,h8a,r28a,h9a] <;> rfl)) (by repeat (first | exact GvL.nil | refine GvL.one (GvA.v _) ?_ | refine GvL.one (GvA.sl _ _ _) ?_))) rfl (fun _ h=>by cases h) fun rv i4 g4 ⟨x,hrv,hx⟩=>?_,fun hb3=>?_⟩
    ·subst hrv
     simp (maxSteps:=5000000) -dsimp only [↓gp,gq,reduceCtorEq,reduceEqDiff,reduceLT,reduceLeDiff,reduceAdd,reduceMul,reduceSub,Nat.reduceBEq,Int.reduceToNat,Int.reduceLE,Int.reduceLT,Int.reduceNeg,reduceMod,zac,zad,zab,zaa,gT,TK.isInt,TK.agg,Array.toList,h2a,r2a,h3a,r3a,h4a,r13a,h5a,r5a,r15a,h8a,r28a,h9a,zeQ]
     refine ⟨by omega,by omega,?_⟩
     exact ⟨_,_,⟨n,xs,L.set 0 x,rfl,hq,by simp;omega⟩,.tup (.cons (.ag (.cons (.im _) (.cons (.fr (by simp (maxSteps:=5000000) -dsimp only [gr,reduceEqDiff,reduceLT,reduceAdd,reduceMod,Nat.reduceBEq,zaa,zac,zad,zab,h2a,r2a,h3a,r3a,h4a,r13a,h5a,r5a,r15a,h8a,r28a,h9a] <;> rfl) (by decide)) .nil))) (.cons (.lf (.fr (by simp (maxSteps:=5000000) -dsimp only [gr,reduceEqDiff,reduceLT,reduceAdd,reduceMod,Nat.reduceBEq,zaa,zac,zad,zab,h2a,r2a,h3a,r3a,h4a,r13a,h5a,r5a,r15a,h8a,r28a,h9a] <;> rfl) (by decide))) .nil)),by simp⟩
    ·exact ⟨_,_,⟨n,xs,L,rfl,hq,by omega⟩,.tup (.cons (.ag (.cons (.im _) (.cons (.fr (by simp (maxSteps:=5000000) -dsimp only [gr,reduceEqDiff,reduceLT,reduceAdd,reduceMod,Nat.reduceBEq,zaa,zac,zad,zab,h2a,r2a,h3a,r3a,h4a,r13a,h5a,r5a,r15a,h8a,r28a,h9a] <;> rfl) (by decide)) .nil))) (.cons (.lf (.fr (by simp (maxSteps:=5000000) -dsimp only [gr,reduceEqDiff,reduceLT,reduceAdd,reduceMod,Nat.reduceBEq,zaa,zac,zad,zab,h2a,r2a,h3a,r3a,h4a,r13a,h5a,r5a,r15a,h8a,r28a,h9a] <;> rfl) (by decide))) .nil)),by simp⟩
   ·exact ⟨_,_,⟨n,xs,L,rfl,hq,by omega⟩,.tup (.cons (.ag (.cons (.im _) (.cons (.fr (by simp (maxSteps:=5000000) -dsimp only [gr,reduceEqDiff,reduceLT,reduceAdd,reduceMod,Nat.reduceBEq,zaa,zac,zad,zab,h2a,r2a,h3a,r3a,h4a,r13a,h5a,r5a,r15a,h8a,r28a,h9a] <;> rfl) (by decide)) .nil))) (.cons (.lf (.fr (by simp (maxSteps:=5000000) -dsimp only [gr,reduceEqDiff,reduceLT,reduceAdd,reduceMod,Nat.reduceBEq,zaa,zac,zad,zab,h2a,r2a,h3a,r3a,h4a,r13a,h5a,r5a,r15a,h8a,r28a,h9a] <;> rfl) (by decide))) .nil)),by simp⟩
theorem zdo (bs:List Int) (hbs:bs.length ≤ 9223372036854775806):ADr Tryz.prog 5 [.sl false 1 (kL .u8 bs)] (kcl idO):=by
 refine AG.go (rs:=[.cell 2 26,.tmp 3]) zaQ zar Tryz.func5 rfl rfl rfl (by kernel_rfl) fun hl _ s hs hR=>?_
 simp (maxSteps:=5000000) -dsimp only [↓gp,gq,reduceCtorEq,reduceEqDiff,reduceLT,reduceLeDiff,reduceAdd,reduceMul,reduceSub,Nat.reduceBEq,Int.reduceToNat,Int.reduceLE,Int.reduceLT,Int.reduceNeg,reduceMod,zac,zad,zab,zaa,gT,TK.isInt,TK.agg,Array.toList,hs,hR]
 refine zmT (zkt bs hbs) (.one (.sl _ _ _) .nil) fun rv ⟨n,xs,l,hrv,hq⟩=>?_
 subst hrv
 simp (maxSteps:=5000000) -dsimp only [↓gp,gq,reduceCtorEq,reduceEqDiff,reduceLT,reduceLeDiff,reduceAdd,reduceMul,reduceSub,Nat.reduceBEq,Int.reduceToNat,Int.reduceLE,Int.reduceLT,Int.reduceNeg,reduceMod,zac,zad,zab,zaa,gT,TK.isInt,TK.agg,Array.toList,hs,hR,zeQ,zkO]
 exact ⟨_,_,⟨n,xs,l,rfl,hq⟩,.tup (.cons (.ag (.cons (.im _) (.cons (.fr (by simp (maxSteps:=5000000) -dsimp only [gr,reduceEqDiff,reduceLT,reduceAdd,reduceMod,Nat.reduceBEq,zaa,zac,zad,zab] <;> rfl) (by decide)) .nil))) (.cons (.lf (.fr (by simp (maxSteps:=5000000) -dsimp only [gr,reduceEqDiff,reduceLT,reduceAdd,reduceMod,Nat.reduceBEq,zaa,zac,zad,zab] <;> rfl) (by decide))) .nil)),by simp⟩
theorem zzU {m s:Nat} (hm:m ≤ 6) (hs:s < 2 ^ m):zca m s = ((2 ^ m - 1 - s:Nat):Int):=by
 have hin:zbS m s = true:=by
  unfold zbS;rw [decide_eq_true_iff,zbW];exact ⟨by omega,by omega,by omega,by omega⟩
 unfold zca
 rw [if_pos hin,zbW];omega
theorem zgN (m:Nat) (xs:List Int) (h:zdj (m:Int) xs = true):AC Tryz.prog 21 [.ag [int m,zaI xs]] (.tup [.ag [.im (int m),.fr 3 1 (iL (zz3 m xs))],.im (bool true)]):=by
 refine AC.go (rs:=[.cell 2 36,.tmp 3]) zaQ zar Tryz.func21 rfl rfl rfl (by kernel_rfl) fun hl=>?_
 simp only [zav,zaC,and_true,zaT,zby,za5,true_and] at hl
 have hml:=zBb m xs
 have hmo:=zaq (zDE m xs)
 simp (maxSteps:=5000000) -dsimp only [↓gp,gq,reduceCtorEq,reduceEqDiff,reduceLT,reduceLeDiff,reduceAdd,reduceMul,reduceSub,Nat.reduceBEq,Int.reduceToNat,Int.reduceLE,Int.reduceLT,Int.reduceNeg,reduceMod,zac,zad,zab,zaa,gT,TK.isInt,TK.agg,Array.toList]
 refine zaf (zbl m xs) ?_
 simp (maxSteps:=5000000) -dsimp only [↓gp,gq,reduceCtorEq,reduceEqDiff,reduceLT,reduceLeDiff,reduceAdd,reduceMul,reduceSub,Nat.reduceBEq,Int.reduceToNat,Int.reduceLE,Int.reduceLT,Int.reduceNeg,reduceMod,zac,zad,zab,zaa,gT,TK.isInt,TK.agg,Array.toList,h]
 refine zaf (zgM m xs) ?_
 obtain ⟨h1,h6,_⟩:=zaS.1 h
 unfold zz3 zEi
 have hok:okS ((ofN (zDE m xs)).map (zca m)):=by
  intro x hx
  obtain ⟨y,hy,rfl⟩:=List.mem_map.1 hx
  unfold ofN at hy
  obtain ⟨s,hs,rfl⟩:=List.mem_map.1 hy
  have h64:=zaO (m:=m) (by omega)
  obtain ⟨⟨s1,s2⟩,_⟩:=zc1.1 hs
  have hin:zbS m s = true:=by
   unfold zh6 at s2
   simp only [Bool.and_eq_true] at s2
   exact s2.2.1
  have:s < 2 ^ m:=by
   unfold zbS at hin
   rw [decide_eq_true_iff,zbW] at hin
   omega
  rw [zzU (by omega) this]
  omega
 generalize ofN (zDE m xs) = ys at *
 simp (maxSteps:=5000000) -dsimp only [↓gp,gq,reduceCtorEq,reduceEqDiff,reduceLT,reduceLeDiff,reduceAdd,reduceMul,reduceSub,Nat.reduceBEq,Int.reduceToNat,Int.reduceLE,Int.reduceLT,Int.reduceNeg,reduceMod,zac,zad,zab,zaa,gT,TK.isInt,TK.agg,Array.toList]
 have hmap:∀ k,k < ys.length→(ys.take (k + 1)).map (zca m) = (ys.take k).map (zca m) ++ [zca m (ys.getD k 0)]:=fun k h=>by rw [zaK 0 h];simp
 refine zam (fun (za:Nat × Nat × Nat) s=>match za with | (k,v,w)=>s.sl 1 = .ref 1 1 0∧s.rw 1 = ⟨1,.box 36 [int (m:Nat),zaI xs]⟩∧s.sl 2 = .ref 2 1 0∧s.rw 2 = ⟨1,.box 36 [int 0,.v (.slice none 0 0)]⟩∧s.sl 3 = bool false∧s.sl 4 = .own 12 w∧s.rw 12 = ⟨w,.sli 3 1 false (iL ys)⟩∧s.sl 5 = .own 13 v∧s.rw 13 = ⟨v,.sli 3 1 false (iL ((ys.take k).map (zca m)))⟩∧s.sl 6 = int k∧(k ≤ ys.length)) (fun (k,v,w)=>ys.length - k) ((0,1,1)) (by refine ⟨?_,?_,?_,?_,?_,?_,?_,?_,?_,?_,by simp⟩ <;> (first | (simp (maxSteps:=5000000) -dsimp only [gr,reduceEqDiff,reduceLT,reduceAdd,reduceMod,Nat.reduceBEq,zaa,zac,zad,zab];first | done | rfl | (simp;done)) | assumption | rfl)) ?_
 intro (k,v,w) sa ⟨h1a,r1a,h2a,r2a,h3a,h4a,r12a,h5a,r13a,h6a,hIa⟩
 simp (maxSteps:=5000000) -dsimp only [↓gp,gq,reduceCtorEq,reduceEqDiff,reduceLT,reduceLeDiff,reduceAdd,reduceMul,reduceSub,Nat.reduceBEq,Int.reduceToNat,Int.reduceLE,Int.reduceLT,Int.reduceNeg,reduceMod,zac,zad,zab,zaa,gT,TK.isInt,TK.agg,Array.toList,h1a,r1a,h2a,r2a,h3a,h4a,r12a,h5a,r13a,h6a]
 refine ⟨fun hk=>⟨by kernel_rfl,hk,hk,zaf (zdh _ _) ?_⟩,fun hk=>?_⟩
 ·simp (maxSteps:=5000000) -dsimp only [↓gp,gq,reduceCtorEq,reduceEqDiff,reduceLT,reduceLeDiff,reduceAdd,reduceMul,reduceSub,Nat.reduceBEq,Int.reduceToNat,Int.reduceLE,Int.reduceLT,Int.reduceNeg,reduceMod,zac,zad,zab,zaa,gT,TK.isInt,TK.agg,Array.toList,h1a,r1a,h2a,r2a,h3a,h4a,r12a,h5a,r13a,h6a]
  have hle:((ys.take k).map (zca m)).length ≤ 448:=by rw [List.length_map,List.length_take];omega
  refine ⟨by omega,by kernel_rfl,?_⟩
  exact zah ((k + 1,v + 1,w)) (by refine ⟨?_,?_,?_,?_,?_,?_,?_,?_,?_,?_,by dsimp only;omega⟩ <;> (first | (simp (maxSteps:=5000000) -dsimp only [gr,reduceEqDiff,reduceLT,reduceAdd,reduceMod,Nat.reduceBEq,zaa,zac,zad,zab,h1a,r1a,h2a,r2a,h3a,h4a,r12a,h5a,r13a,h6a,zae hk (by omega),hmap k hk];first | done | rfl | (simp;done)) | assumption | rfl)) (by first | omega | (simp only;omega) | (dsimp only;omega) | (show _ < _;simp;omega))
 ·have:k = ys.length:=by omega
  subst this
  have ht:ys.take ys.length = ys:=List.take_length
  rw [ht] at r13a ⊢
  refine zaf (zd8 m _ hok) ?_
  simp (maxSteps:=5000000) -dsimp only [↓gp,gq,reduceCtorEq,reduceEqDiff,reduceLT,reduceLeDiff,reduceAdd,reduceMul,reduceSub,Nat.reduceBEq,Int.reduceToNat,Int.reduceLE,Int.reduceLT,Int.reduceNeg,reduceMod,zac,zad,zab,zaa,gT,TK.isInt,TK.agg,Array.toList,h1a,r1a,h2a,r2a,h3a,h4a,r12a,h5a,r13a,h6a]
theorem zrF {ft:List Int→Int→Bool} {gens:List Int}:∀ (n:Nat) (head l:List Int),zbX ft gens n head = some l→head.Nodup→(∀ x ∈ head,x ∈ gens) →
 l.Nodup∧(∀ x ∈ l,x ∈ gens)∧(∃ t,l = head ++ t)∧∀ k,head.length ≤ k→k < l.length→ft (l.take k) (l.getD k 0) = true
 | 0,head,l,h,h1,h2=>by
   obtain rfl:=Option.some.inj (show some head = some l from h)
   exact ⟨h1,h2,⟨[],by simp⟩,fun k a b=>absurd b (by omega)⟩
 | n + 1,head,l,h,h1,h2=>by
   obtain ⟨x,hx,hf⟩:=List.exists_of_findSome?_eq_some (show gens.findSome? _ = some l from h)
   split at hf
   ·cases hf
   ·rename_i hc
    rw [Bool.or_eq_true,not_or] at hc
    have hm:x ∉ head:=by simpa using hc.1
    have hfit:ft head x = true:=by simpa using hc.2
    obtain ⟨a,b,⟨t,ht⟩,d⟩:=zrF n _ l hf (List.nodup_append.2 ⟨h1,by simp,fun y hy z hz e=>hm (by rw [List.mem_singleton] at hz;rw [← hz,← e];exact hy)⟩) (fun y hy=>by
     rcases List.mem_append.1 hy with hy | hy
     ·exact h2 y hy
     ·rw [List.mem_singleton.1 hy];exact hx)
    refine ⟨a,b,⟨x :: t,by rw [ht];simp⟩,fun k hk hk2=>?_⟩
    by_cases e:k = head.length
    ·subst e
     have e1:l.take head.length = head:=by rw [ht];simp
     have e2:l.getD head.length 0 = x:=by rw [ht];simp
     rw [e1,e2];exact hfit
    ·exact d k (by simp;omega) hk2
theorem zz5 {n:Int} {xs l:List Int} (h:zh8 n xs = some l):zhS n xs l = true:=by
 unfold zh8 at h
 split at h
 ·rename_i hc
  obtain ⟨h1,h2,_,h4⟩:=zrF _ _ _ h List.nodup_nil (fun x hx=>by cases hx)
  have hlen:=zqh _ _ _ h
  have hsn:(zks xs).Nodup:=by
   unfold zks ofN
   rw [List.nodup_iff_pairwise_ne,List.pairwise_map]
   exact ((List.nodup_iff_pairwise_ne.1 List.nodup_range).filter _).imp fun a e=>a (Int.ofNat.inj e)
  have hcx:=zaS.1 hc.1
  have hmem:∀ x,x ∈ zks xs ↔ x ∈ xs:=fun x=>by
   unfold zks ofN zFD
   rw [List.mem_map]
   constructor
   ·rintro ⟨s,hs,rfl⟩
    have:=(List.mem_filter.1 hs).2
    rw [zp4] at this
    simpa using this
   ·intro hx
    obtain ⟨a,b,_⟩:=zqu (m:=n.toNat) (by rw [show ((n.toNat:Nat):Int) = n by have:=hcx.1;omega];exact hc.1) x hx
    have h64:=zaO (m:=n.toNat) (by have:=hcx.2.1;omega)
    refine ⟨x.toNat,List.mem_filter.2 ⟨List.mem_range.2 (by omega),?_⟩,by omega⟩
    rw [zp4,decide_eq_true_iff,show ((x.toNat:Nat):Int) = x by omega]
    exact hx
  have hp:l.Perm xs:=(List.perm_ext_iff_of_nodup h1 (zdv hcx)).2 fun x=>by
   rw [← hmem]
   refine ⟨h2 x,fun hx=>?_⟩
   have e:l.length = (zks xs).length:=by simpa using hlen
   exact (Has.list hsn).sub_eq (e ▸ Has.list h1) h2 x hx
  refine zmZ (zgJ ⟨hcx,hp⟩) fun k hk=>?_
  exact h4 k (Nat.zero_le _) hk
 ·cases h
theorem zfY (bs:List Int):AC Tryz.prog 3 [.sl false 1 (kL .u8 bs)] (.im (bool true)):=by
 refine AC.go (rs:=[.tmp 2]) zaQ zar Tryz.func3 rfl rfl rfl (by kernel_rfl) fun hl=>?_
 simp (maxSteps:=5000000) -dsimp only [↓gp,gq,reduceCtorEq,reduceEqDiff,reduceLT,reduceLeDiff,reduceAdd,reduceMul,reduceSub,Nat.reduceBEq,Int.reduceToNat,Int.reduceLE,Int.reduceLT,Int.reduceNeg,reduceMod,zac,zad,zab,zaa,gT,TK.isInt,TK.agg,Array.toList]
 refine zaf (zvE bs) ?_
 simp (maxSteps:=5000000) -dsimp only [↓gp,gq,reduceCtorEq,reduceEqDiff,reduceLT,reduceLeDiff,reduceAdd,reduceMul,reduceSub,Nat.reduceBEq,Int.reduceToNat,Int.reduceLE,Int.reduceLT,Int.reduceNeg,reduceMod,zac,zad,zab,zaa,gT,TK.isInt,TK.agg,Array.toList]
 intro hbs
 refine zmT (zdo bs (by omega)) (.one (.sl _ _ _) .nil) fun rv ⟨n,xs,list,hrv,hq,hll⟩=>?_
 subst hrv
 simp (maxSteps:=5000000) -dsimp only [↓gp,gq,reduceCtorEq,reduceEqDiff,reduceLT,reduceLeDiff,reduceAdd,reduceMul,reduceSub,Nat.reduceBEq,Int.reduceToNat,Int.reduceLE,Int.reduceLT,Int.reduceNeg,reduceMod,zac,zad,zab,zaa,gT,TK.isInt,TK.agg,Array.toList,zkO]
 refine zmT (zfh bs (by omega)) (.one (.sl _ _ _) .nil) fun rv ⟨m,ys,hrv,hq2⟩=>?_
 subst hrv
 simp (maxSteps:=5000000) -dsimp only [↓gp,gq,reduceCtorEq,reduceEqDiff,reduceLT,reduceLeDiff,reduceAdd,reduceMul,reduceSub,Nat.reduceBEq,Int.reduceToNat,Int.reduceLE,Int.reduceLT,Int.reduceNeg,reduceMod,zac,zad,zab,zaa,gT,TK.isInt,TK.agg,Array.toList]
 refine zaf (zh7 m ys) ?_
 simp (maxSteps:=5000000) -dsimp only [↓gp,gq,reduceCtorEq,reduceEqDiff,reduceLT,reduceLeDiff,reduceAdd,reduceMul,reduceSub,Nat.reduceBEq,Int.reduceToNat,Int.reduceLE,Int.reduceLT,Int.reduceNeg,reduceMod,zac,zad,zab,zaa,gT,TK.isInt,TK.agg,Array.toList]
 refine zaf (zen m ys) ?_
 simp (maxSteps:=5000000) -dsimp only [↓gp,gq,reduceCtorEq,reduceEqDiff,reduceLT,reduceLeDiff,reduceAdd,reduceMul,reduceSub,Nat.reduceBEq,Int.reduceToNat,Int.reduceLE,Int.reduceLT,Int.reduceNeg,reduceMod,zac,zad,zab,zaa,gT,TK.isInt,TK.agg,Array.toList]
 refine zaf (zdm n xs list (by omega)) ?_
 simp (maxSteps:=5000000) -dsimp only [↓gp,gq,reduceCtorEq,reduceEqDiff,reduceLT,reduceLeDiff,reduceAdd,reduceMul,reduceSub,Nat.reduceBEq,Int.reduceToNat,Int.reduceLE,Int.reduceLT,Int.reduceNeg,reduceMod,zac,zad,zab,zaa,gT,TK.isInt,TK.agg,Array.toList]
 refine zaf (zfm n xs list (by omega)) ?_
 simp (maxSteps:=5000000) -dsimp only [↓gp,gq,reduceCtorEq,reduceEqDiff,reduceLT,reduceLeDiff,reduceAdd,reduceMul,reduceSub,Nat.reduceBEq,Int.reduceToNat,Int.reduceLE,Int.reduceLT,Int.reduceNeg,reduceMod,zac,zad,zab,zaa,gT,TK.isInt,TK.agg,Array.toList]
 refine zaf (zfk n xs list (by omega)) ?_
 simp (maxSteps:=5000000) -dsimp only [↓gp,gq,reduceCtorEq,reduceEqDiff,reduceLT,reduceLeDiff,reduceAdd,reduceMul,reduceSub,Nat.reduceBEq,Int.reduceToNat,Int.reduceLE,Int.reduceLT,Int.reduceNeg,reduceMod,zac,zad,zab,zaa,gT,TK.isInt,TK.agg,Array.toList]
 refine ⟨by kernel_rfl,zaf (zbu n xs list) ?_⟩
 simp (maxSteps:=5000000) -dsimp only [↓gp,gq,reduceCtorEq,reduceEqDiff,reduceLT,reduceLeDiff,reduceAdd,reduceMul,reduceSub,Nat.reduceBEq,Int.reduceToNat,Int.reduceLE,Int.reduceLT,Int.reduceNeg,reduceMod,zac,zad,zab,zaa,gT,TK.isInt,TK.agg,Array.toList,bne_self_eq_false,beq_self_eq_true,zaF,zbE,zbc,zbF]
 refine zaf (zcy n xs list) ?_
 simp (maxSteps:=5000000) -dsimp only [↓gp,gq,reduceCtorEq,reduceEqDiff,reduceLT,reduceLeDiff,reduceAdd,reduceMul,reduceSub,Nat.reduceBEq,Int.reduceToNat,Int.reduceLE,Int.reduceLT,Int.reduceNeg,reduceMod,zac,zad,zab,zaa,gT,TK.isInt,TK.agg,Array.toList,bne_self_eq_false,beq_self_eq_true,zaF,zbE,zbc,zbF]
 refine zaf (zaJ n xs list) ?_
 simp (maxSteps:=5000000) -dsimp only [↓gp,gq,reduceCtorEq,reduceEqDiff,reduceLT,reduceLeDiff,reduceAdd,reduceMul,reduceSub,Nat.reduceBEq,Int.reduceToNat,Int.reduceLE,Int.reduceLT,Int.reduceNeg,reduceMod,zac,zad,zab,zaa,gT,TK.isInt,TK.agg,Array.toList,bne_self_eq_false,beq_self_eq_true,zaF,zbE,zbc,zbF]
 refine zaf (zbO n xs list) ?_
 simp (maxSteps:=5000000) -dsimp only [↓gp,gq,reduceCtorEq,reduceEqDiff,reduceLT,reduceLeDiff,reduceAdd,reduceMul,reduceSub,Nat.reduceBEq,Int.reduceToNat,Int.reduceLE,Int.reduceLT,Int.reduceNeg,reduceMod,zac,zad,zab,zaa,gT,TK.isInt,TK.agg,Array.toList,bne_self_eq_false,beq_self_eq_true,zaF,zbE,zbc,zbF]
 refine zaf (zcp _ _) ?_
 simp (maxSteps:=5000000) -dsimp only [↓gp,gq,reduceCtorEq,reduceEqDiff,reduceLT,reduceLeDiff,reduceAdd,reduceMul,reduceSub,Nat.reduceBEq,Int.reduceToNat,Int.reduceLE,Int.reduceLT,Int.reduceNeg,reduceMod,zac,zad,zab,zaa,gT,TK.isInt,TK.agg,Array.toList,bne_self_eq_false,beq_self_eq_true,zaF,zbE,zbc,zbF]
 refine zaf (zdl n xs list (by omega)) ?_
 simp (maxSteps:=5000000) -dsimp only [↓gp,gq,reduceCtorEq,reduceEqDiff,reduceLT,reduceLeDiff,reduceAdd,reduceMul,reduceSub,Nat.reduceBEq,Int.reduceToNat,Int.reduceLE,Int.reduceLT,Int.reduceNeg,reduceMod,zac,zad,zab,zaa,gT,TK.isInt,TK.agg,Array.toList,bne_self_eq_false,beq_self_eq_true,zaF,zbE,zbc,zbF]
 refine zaf (zcp _ _) ?_
 simp (maxSteps:=5000000) -dsimp only [↓gp,gq,reduceCtorEq,reduceEqDiff,reduceLT,reduceLeDiff,reduceAdd,reduceMul,reduceSub,Nat.reduceBEq,Int.reduceToNat,Int.reduceLE,Int.reduceLT,Int.reduceNeg,reduceMod,zac,zad,zab,zaa,gT,TK.isInt,TK.agg,Array.toList,bne_self_eq_false,beq_self_eq_true,zaF,zbE,zbc,zbF]
 refine zaf (zfl n xs list (by omega)) ?_
 simp (maxSteps:=5000000) -dsimp only [↓gp,gq,reduceCtorEq,reduceEqDiff,reduceLT,reduceLeDiff,reduceAdd,reduceMul,reduceSub,Nat.reduceBEq,Int.reduceToNat,Int.reduceLE,Int.reduceLT,Int.reduceNeg,reduceMod,zac,zad,zab,zaa,gT,TK.isInt,TK.agg,Array.toList,bne_self_eq_false,beq_self_eq_true,zaF,zbE,zbc,zbF]
 refine zaf (zcp _ _) ?_
 simp (maxSteps:=5000000) -dsimp only [↓gp,gq,reduceCtorEq,reduceEqDiff,reduceLT,reduceLeDiff,reduceAdd,reduceMul,reduceSub,Nat.reduceBEq,Int.reduceToNat,Int.reduceLE,Int.reduceLT,Int.reduceNeg,reduceMod,zac,zad,zab,zaa,gT,TK.isInt,TK.agg,Array.toList,bne_self_eq_false,beq_self_eq_true,zaF,zbE,zbc,zbF]
 refine zaf (zfj n xs list (by omega)) ?_
 simp (maxSteps:=5000000) -dsimp only [↓gp,gq,reduceCtorEq,reduceEqDiff,reduceLT,reduceLeDiff,reduceAdd,reduceMul,reduceSub,Nat.reduceBEq,Int.reduceToNat,Int.reduceLE,Int.reduceLT,Int.reduceNeg,reduceMod,zac,zad,zab,zaa,gT,TK.isInt,TK.agg,Array.toList,bne_self_eq_false,beq_self_eq_true,zaF,zbE,zbc,zbF]
 refine zaf (zcp _ _) ?_
 simp (maxSteps:=5000000) -dsimp only [↓gp,gq,reduceCtorEq,reduceEqDiff,reduceLT,reduceLeDiff,reduceAdd,reduceMul,reduceSub,Nat.reduceBEq,Int.reduceToNat,Int.reduceLE,Int.reduceLT,Int.reduceNeg,reduceMod,zac,zad,zab,zaa,gT,TK.isInt,TK.agg,Array.toList,bne_self_eq_false,beq_self_eq_true,zaF,zbE,zbc,zbF]
 refine ⟨by kernel_rfl,fun hso=>zaf (zaJ m ys _) ?_,fun hso=>?_⟩
 ·obtain ⟨l,hl2⟩:=Option.isSome_iff_exists.1 hso
  have hdv:zhS m ys ((zh8 m ys).getD []) = true:=by rw [hl2];exact zz5 hl2
  simp (maxSteps:=5000000) -dsimp only [↓gp,gq,reduceCtorEq,reduceEqDiff,reduceLT,reduceLeDiff,reduceAdd,reduceMul,reduceSub,Nat.reduceBEq,Int.reduceToNat,Int.reduceLE,Int.reduceLT,Int.reduceNeg,reduceMod,zac,zad,zab,zaa,gT,TK.isInt,TK.agg,Array.toList,hdv]
  refine zaf (zbu n xs list) ?_
  by_cases hio:zcb n xs list = true
  ·have hc1:=(zdi.1 hio).1
   obtain ⟨k,rfl⟩:∃ k:Nat,n = k:=⟨n.toNat,by have:=hc1.1;omega⟩
   have hcx:=zdx hc1
   have hcf:=znu hcx
   have hds:=zvY hio
   have hk6:k ≤ 6:=by have:=hc1.2.1;omega
   have hcn:zFR k xs = (k:Int):=if_pos hcx
   simp (maxSteps:=5000000) -dsimp only [↓gp,gq,reduceCtorEq,reduceEqDiff,reduceLT,reduceLeDiff,reduceAdd,reduceMul,reduceSub,Nat.reduceBEq,Int.reduceToNat,Int.reduceLE,Int.reduceLT,Int.reduceNeg,reduceMod,zac,zad,zab,zaa,gT,TK.isInt,TK.agg,Array.toList,hio]
   refine zaf (zel k xs) ?_
   simp (maxSteps:=5000000) -dsimp only [↓gp,gq,reduceCtorEq,reduceEqDiff,reduceLT,reduceLeDiff,reduceAdd,reduceMul,reduceSub,Nat.reduceBEq,Int.reduceToNat,Int.reduceLE,Int.reduceLT,Int.reduceNeg,reduceMod,zac,zad,zab,zaa,gT,TK.isInt,TK.agg,Array.toList,hcx,hcn]
   refine zaf (zgN k (zfX k xs) hcf) ?_
   simp (maxSteps:=5000000) -dsimp only [↓gp,gq,reduceCtorEq,reduceEqDiff,reduceLT,reduceLeDiff,reduceAdd,reduceMul,reduceSub,Nat.reduceBEq,Int.reduceToNat,Int.reduceLE,Int.reduceLT,Int.reduceNeg,reduceMod,zac,zad,zab,zaa,gT,TK.isInt,TK.agg,Array.toList]
   refine ⟨by kernel_rfl,zaf (zaJ k xs list) ?_⟩
   simp (maxSteps:=5000000) -dsimp only [↓gp,gq,reduceCtorEq,reduceEqDiff,reduceLT,reduceLeDiff,reduceAdd,reduceMul,reduceSub,Nat.reduceBEq,Int.reduceToNat,Int.reduceLE,Int.reduceLT,Int.reduceNeg,reduceMod,zac,zad,zab,zaa,gT,TK.isInt,TK.agg,Array.toList]
   refine zaf (zdO k (zz3 k (zfX k xs)) (zcU k xs list)) ?_
   simp (maxSteps:=5000000) -dsimp only [↓gp,gq,reduceCtorEq,reduceEqDiff,reduceLT,reduceLeDiff,reduceAdd,reduceMul,reduceSub,Nat.reduceBEq,Int.reduceToNat,Int.reduceLE,Int.reduceLT,Int.reduceNeg,reduceMod,zac,zad,zab,zaa,gT,TK.isInt,TK.agg,Array.toList,hds,bne_self_eq_false,beq_self_eq_true,zaF,zbE,zbc,zbF]
   refine zaf (zfJ k (zfX k xs) 2) ?_
   simp (maxSteps:=5000000) -dsimp only [↓gp,gq,reduceCtorEq,reduceEqDiff,reduceLT,reduceLeDiff,reduceAdd,reduceMul,reduceSub,Nat.reduceBEq,Int.reduceToNat,Int.reduceLE,Int.reduceLT,Int.reduceNeg,reduceMod,zac,zad,zab,zaa,gT,TK.isInt,TK.agg,Array.toList]
   intro hs0 hr0 hk5
   obtain ⟨hd1,hd2,hsl⟩:=zrK (m:=k) (xs:=xs) (list:=list) (fun e=>by rw [e] at hs0;exact absurd hs0 (by decide))
   have hall:∀ i,i ≤ k→(zdQ k xs list).getD i 0 = (zzJ k (zfX k xs) 2).getD (i + 1) 0:=fun i hi=>znt hd1 hd2 (zrL fun e=>by rw [e] at hr0;exact absurd hr0 (by decide)) hi
   generalize zdQ k xs list = S at *
   generalize zzJ k (zfX k xs) 2 = R at *
   refine zam (fun (i:Nat) s=>s.sl 3 = .ref 3 1 0∧s.rw 3 = ⟨1,.box 26 [int k,.own 23 1]⟩∧s.sl 11 = .own 43 1∧s.rw 43 = ⟨1,.sli 3 1 false (iL S)⟩∧s.sl 17 = .own 138 1∧s.rw 138 = ⟨1,.sli 3 1 false (iL R)⟩∧s.sl 18 = int i∧(i ≤ S.length)) (fun i=>S.length - i) (0) (by refine ⟨?_,?_,?_,?_,?_,?_,?_,Nat.zero_le _⟩ <;> (first | (simp (maxSteps:=5000000) -dsimp only [gr,reduceEqDiff,reduceLT,reduceAdd,reduceMod,Nat.reduceBEq,zaa,zac,zad,zab];first | done | rfl | (simp;done)) | assumption | rfl)) ?_
   intro i sa ⟨h3a,r3a,h11a,r43a,h17a,r138a,h18a,hIa⟩
   simp (maxSteps:=5000000) -dsimp only [↓gp,gq,reduceCtorEq,reduceEqDiff,reduceLT,reduceLeDiff,reduceAdd,reduceMul,reduceSub,Nat.reduceBEq,Int.reduceToNat,Int.reduceLE,Int.reduceLT,Int.reduceNeg,reduceMod,zac,zad,zab,zaa,gT,TK.isInt,TK.agg,Array.toList,h3a,r3a,h11a,r43a,h17a,r138a,h18a]
   refine ⟨fun hi=>?_,fun hi=>?_⟩
   ·have hw:IntKind.i64.wrap ((i:Int) + 1) = ((i + 1:Nat):Int):=by rw [zap (by omega) (by omega)];omega
    simp (maxSteps:=5000000) -dsimp only [↓gp,gq,reduceCtorEq,reduceEqDiff,reduceLT,reduceLeDiff,reduceAdd,reduceMul,reduceSub,Nat.reduceBEq,Int.reduceToNat,Int.reduceLE,Int.reduceLT,Int.reduceNeg,reduceMod,zac,zad,zab,zaa,gT,TK.isInt,TK.agg,Array.toList,h3a,r3a,h11a,r43a,h17a,r138a,h18a,hw]
    have hai:=hall i (by omega)
    refine ⟨by kernel_rfl,hi,hi,zaf (zj8 R (i + 1)) ?_⟩
    simp (maxSteps:=5000000) -dsimp only [↓gp,gq,reduceCtorEq,reduceEqDiff,reduceLT,reduceLeDiff,reduceAdd,reduceMul,reduceSub,Nat.reduceBEq,Int.reduceToNat,Int.reduceLE,Int.reduceLT,Int.reduceNeg,reduceMod,zac,zad,zab,zaa,gT,TK.isInt,TK.agg,Array.toList,h3a,r3a,h11a,r43a,h17a,r138a,h18a,hai,bne_self_eq_false,beq_self_eq_true,zaF,zbE,zbc,zbF]
    exact zah (i + 1) (by refine ⟨?_,?_,?_,?_,?_,?_,?_,by omega⟩ <;> (first | (simp (maxSteps:=5000000) -dsimp only [gr,reduceEqDiff,reduceLT,reduceAdd,reduceMod,Nat.reduceBEq,zaa,zac,zad,zab,h3a,r3a,h11a,r43a,h17a,r138a,h18a,zae hi (by omega)];first | done | rfl | (simp;done)) | assumption | rfl)) (by first | omega | (simp only;omega) | (dsimp only;omega) | (show _ < _;simp;omega))
   ·rw [zap (by omega) (by omega),hsl]
    exact (beq_iff_eq.2 (by omega)).symm
  ·have hio:zcb n xs list = false:=by simpa using hio
   have hsl:zcU n xs list = []:=if_neg (by rw [hio];decide)
   simp (maxSteps:=5000000) -dsimp only [↓gp,gq,reduceCtorEq,reduceEqDiff,reduceLT,reduceLeDiff,reduceAdd,reduceMul,reduceSub,Nat.reduceBEq,Int.reduceToNat,Int.reduceLE,Int.reduceLT,Int.reduceNeg,reduceMod,zac,zad,zab,zaa,gT,TK.isInt,TK.agg,Array.toList,hio,hsl]
   rfl
 ·refine zaf (zbu n xs list) ?_
  by_cases hio:zcb n xs list = true
  ·have hc1:=(zdi.1 hio).1
   obtain ⟨k,rfl⟩:∃ k:Nat,n = k:=⟨n.toNat,by have:=hc1.1;omega⟩
   have hcx:=zdx hc1
   have hcf:=znu hcx
   have hds:=zvY hio
   have hk6:k ≤ 6:=by have:=hc1.2.1;omega
   have hcn:zFR k xs = (k:Int):=if_pos hcx
   simp (maxSteps:=5000000) -dsimp only [↓gp,gq,reduceCtorEq,reduceEqDiff,reduceLT,reduceLeDiff,reduceAdd,reduceMul,reduceSub,Nat.reduceBEq,Int.reduceToNat,Int.reduceLE,Int.reduceLT,Int.reduceNeg,reduceMod,zac,zad,zab,zaa,gT,TK.isInt,TK.agg,Array.toList,hio]
   refine zaf (zel k xs) ?_
   simp (maxSteps:=5000000) -dsimp only [↓gp,gq,reduceCtorEq,reduceEqDiff,reduceLT,reduceLeDiff,reduceAdd,reduceMul,reduceSub,Nat.reduceBEq,Int.reduceToNat,Int.reduceLE,Int.reduceLT,Int.reduceNeg,reduceMod,zac,zad,zab,zaa,gT,TK.isInt,TK.agg,Array.toList,hcx,hcn]
   refine zaf (zgN k (zfX k xs) hcf) ?_
   simp (maxSteps:=5000000) -dsimp only [↓gp,gq,reduceCtorEq,reduceEqDiff,reduceLT,reduceLeDiff,reduceAdd,reduceMul,reduceSub,Nat.reduceBEq,Int.reduceToNat,Int.reduceLE,Int.reduceLT,Int.reduceNeg,reduceMod,zac,zad,zab,zaa,gT,TK.isInt,TK.agg,Array.toList]
   refine ⟨by kernel_rfl,zaf (zaJ k xs list) ?_⟩
   simp (maxSteps:=5000000) -dsimp only [↓gp,gq,reduceCtorEq,reduceEqDiff,reduceLT,reduceLeDiff,reduceAdd,reduceMul,reduceSub,Nat.reduceBEq,Int.reduceToNat,Int.reduceLE,Int.reduceLT,Int.reduceNeg,reduceMod,zac,zad,zab,zaa,gT,TK.isInt,TK.agg,Array.toList]
   refine zaf (zdO k (zz3 k (zfX k xs)) (zcU k xs list)) ?_
   simp (maxSteps:=5000000) -dsimp only [↓gp,gq,reduceCtorEq,reduceEqDiff,reduceLT,reduceLeDiff,reduceAdd,reduceMul,reduceSub,Nat.reduceBEq,Int.reduceToNat,Int.reduceLE,Int.reduceLT,Int.reduceNeg,reduceMod,zac,zad,zab,zaa,gT,TK.isInt,TK.agg,Array.toList,hds,bne_self_eq_false,beq_self_eq_true,zaF,zbE,zbc,zbF]
   refine zaf (zfJ k (zfX k xs) 2) ?_
   simp (maxSteps:=5000000) -dsimp only [↓gp,gq,reduceCtorEq,reduceEqDiff,reduceLT,reduceLeDiff,reduceAdd,reduceMul,reduceSub,Nat.reduceBEq,Int.reduceToNat,Int.reduceLE,Int.reduceLT,Int.reduceNeg,reduceMod,zac,zad,zab,zaa,gT,TK.isInt,TK.agg,Array.toList]
   intro hs0 hr0 hk5
   obtain ⟨hd1,hd2,hsl⟩:=zrK (m:=k) (xs:=xs) (list:=list) (fun e=>by rw [e] at hs0;exact absurd hs0 (by decide))
   have hall:∀ i,i ≤ k→(zdQ k xs list).getD i 0 = (zzJ k (zfX k xs) 2).getD (i + 1) 0:=fun i hi=>znt hd1 hd2 (zrL fun e=>by rw [e] at hr0;exact absurd hr0 (by decide)) hi
   generalize zdQ k xs list = S at *
   generalize zzJ k (zfX k xs) 2 = R at *
   refine zam (fun (i:Nat) s=>s.sl 3 = .ref 3 1 0∧s.rw 3 = ⟨1,.box 26 [int k,.own 23 1]⟩∧s.sl 11 = .own 43 1∧s.rw 43 = ⟨1,.sli 3 1 false (iL S)⟩∧s.sl 17 = .own 138 1∧s.rw 138 = ⟨1,.sli 3 1 false (iL R)⟩∧s.sl 18 = int i∧(i ≤ S.length)) (fun i=>S.length - i) (0) (by refine ⟨?_,?_,?_,?_,?_,?_,?_,Nat.zero_le _⟩ <;> (first | (simp (maxSteps:=5000000) -dsimp only [gr,reduceEqDiff,reduceLT,reduceAdd,reduceMod,Nat.reduceBEq,zaa,zac,zad,zab];first | done | rfl | (simp;done)) | assumption | rfl)) ?_
   intro i sa ⟨h3a,r3a,h11a,r43a,h17a,r138a,h18a,hIa⟩
   simp (maxSteps:=5000000) -dsimp only [↓gp,gq,reduceCtorEq,reduceEqDiff,reduceLT,reduceLeDiff,reduceAdd,reduceMul,reduceSub,Nat.reduceBEq,Int.reduceToNat,Int.reduceLE,Int.reduceLT,Int.reduceNeg,reduceMod,zac,zad,zab,zaa,gT,TK.isInt,TK.agg,Array.toList,h3a,r3a,h11a,r43a,h17a,r138a,h18a]
   refine ⟨fun hi=>?_,fun hi=>?_⟩
   ·have hw:IntKind.i64.wrap ((i:Int) + 1) = ((i + 1:Nat):Int):=by rw [zap (by omega) (by omega)];omega
    simp (maxSteps:=5000000) -dsimp only [↓gp,gq,reduceCtorEq,reduceEqDiff,reduceLT,reduceLeDiff,reduceAdd,reduceMul,reduceSub,Nat.reduceBEq,Int.reduceToNat,Int.reduceLE,Int.reduceLT,Int.reduceNeg,reduceMod,zac,zad,zab,zaa,gT,TK.isInt,TK.agg,Array.toList,h3a,r3a,h11a,r43a,h17a,r138a,h18a,hw]
    have hai:=hall i (by omega)
    refine ⟨by kernel_rfl,hi,hi,zaf (zj8 R (i + 1)) ?_⟩
    simp (maxSteps:=5000000) -dsimp only [↓gp,gq,reduceCtorEq,reduceEqDiff,reduceLT,reduceLeDiff,reduceAdd,reduceMul,reduceSub,Nat.reduceBEq,Int.reduceToNat,Int.reduceLE,Int.reduceLT,Int.reduceNeg,reduceMod,zac,zad,zab,zaa,gT,TK.isInt,TK.agg,Array.toList,h3a,r3a,h11a,r43a,h17a,r138a,h18a,hai,bne_self_eq_false,beq_self_eq_true,zaF,zbE,zbc,zbF]
    exact zah (i + 1) (by refine ⟨?_,?_,?_,?_,?_,?_,?_,by omega⟩ <;> (first | (simp (maxSteps:=5000000) -dsimp only [gr,reduceEqDiff,reduceLT,reduceAdd,reduceMod,Nat.reduceBEq,zaa,zac,zad,zab,h3a,r3a,h11a,r43a,h17a,r138a,h18a,zae hi (by omega)];first | done | rfl | (simp;done)) | assumption | rfl)) (by first | omega | (simp only;omega) | (dsimp only;omega) | (show _ < _;simp;omega))
   ·rw [zap (by omega) (by omega),hsl]
    exact (beq_iff_eq.2 (by omega)).symm
  ·have hio:zcb n xs list = false:=by simpa using hio
   have hsl:zcU n xs list = []:=if_neg (by rw [hio];decide)
   simp (maxSteps:=5000000) -dsimp only [↓gp,gq,reduceCtorEq,reduceEqDiff,reduceLT,reduceLeDiff,reduceAdd,reduceMul,reduceSub,Nat.reduceBEq,Int.reduceToNat,Int.reduceLE,Int.reduceLT,Int.reduceNeg,reduceMod,zac,zad,zab,zaa,gT,TK.isInt,TK.agg,Array.toList,hio,hsl]
   rfl
end Go.Proofs.YtjikeknpidbceaaGreat

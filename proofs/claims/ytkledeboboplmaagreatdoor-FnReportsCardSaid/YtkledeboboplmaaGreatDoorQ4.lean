/- DERIVED by an AI agent. -/
import Derived.Test.YtkledeboboplmaaGreatDoorQ3
import Derived.Test.YtkledeboboplmaaGreatDoorQ1
import Derived.Test.YtkledeboboplmaaGreatDoorP1
import Derived.Test.YtkledeboboplmaaGreatDoorQ2
namespace Go.Proofs.YtkledeboboplmaaGreatDoor
open Go.Abs
open Nat (reduceEqDiff reduceMod reduceAdd reduceLT reduceLeDiff reduceSub reduceMul)
set_option linter.unusedSimpArgs false
set_option linter.unusedVariables false
def oX (p0:PV) (f:FuncId) (fl:List Bool) (p:PV):List PV:=p0 :: .clo f [] :: (bL fl ++ [p])
theorem zH3 (p0:PV) (f:FuncId):p0 :: .clo f [] :: List.map PV.v (List.replicate 256 (Value.bool false) ++ [Value.slice none 0 0]) = oX p0 f (List.replicate 256 false) (.v (.slice none 0 0)):=by
 unfold oX bL
 rw [List.map_append,List.map_replicate,List.map_replicate];rfl
theorem zyo {p0 p:PV} {f:FuncId} {fl:List Bool} (h:fl.length = 256):(oX p0 f fl p).length = 259:=by simp [oX,bL,h]
theorem zMZ {p0 p:PV} {f:FuncId} {fl:List Bool} {Kp:PV->Prop} {t:TypeId} (h:fl.length = 256) (h0:(T t).k.agg = false) (h1:0 < (T t).size):ldK T t .asis (oX p0 f fl p) 258 Kp = Kp p:=by
 have e:(oX p0 f fl p).getD 258 .junk = p:=by
  have h2:(bL fl).length = 256:=by simp [bL,h]
  simp only [oX,List.getD,show 258 = 256 + 1 + 1 by omega,List.getElem?_cons_succ]
  rw [List.getElem?_append_right om,h2]
  simp
 have hl:=zyo (p0:=p0) (f:=f) (p:=p) h
 simp only [ldK,h0,h1,hl,true_and]
 rw [e]
 simp [Md.fix]
theorem zJL {c c':List PV} (h:c'.length = c.length):spl c 0 c' = c':=by
 rw [zHI c 0 c' om]
 simp [h]
theorem zJM {rw:Nat->Row} {p0 p:PV} {f:FuncId} {fl:List Bool} (h0:zj1 rw p0) (h1:zj1 rw p):Go.Abs.allP rw (oX p0 f fl p):=by
 unfold oX Go.Abs.allP
 intro q hq
 rcases List.mem_cons.1 hq with rfl | hq
 ·exact h0
 rcases List.mem_cons.1 hq with rfl | hq
 ·trivial
 rcases List.mem_append.1 hq with hq | hq
 ·obtain ⟨b,_,rfl⟩:=List.mem_map.1 hq
  rfl
 ·rw [List.mem_singleton.1 hq];exact h1
theorem zGc {s:St} {K:St->Prop} {j ver:Nat} {bt:TypeId} {c:List PV} {p0 p:PV} {f:FuncId} {fl:List Bool} (hf:fl.length = 256) (hc:c.length = 259) (h0:zj1 s.rw p0) (h1:zj1 s.rw p) (u:Dm K) :
 K (s.row j ⟨ver,.box bt (oX p0 f fl p)⟩)->zfy s 259 j ver 0 ⟨ver,.box bt c⟩ (.ag (oX p0 f fl p)) (kk K u):=by
 intro hk
 rw [zf3 258,zp7]
 refine ⟨zyo hf,by rw [zyo hf,hc];exact Nat.le_refl _,zJM h0 h1,?_⟩
 rw [zJL (by rw [zyo hf,hc])]
 exact hk
theorem zJN {s:St} {K:St->Prop} {g f:FuncId} {ft:List Int->Int->Bool} {items:List Int} {fl:List Bool} {n d kb ki vi ei:Nat} {fz:Bool} {lent:List PV} {Ka:RV->Prop} {us:Dm s} {uu:Dm K}
 (h:AG Tryz.prog g [.ref 1000000 1 0,int 0] (oR true items f fl []) (zzI ft items f n [])) (hb:s.rw kb = ⟨1,.box 127 (oX (.own ki vi) f fl (.v (.slice none 0 0)))⟩) (hi:s.rw ki = ⟨vi,.sli ei 1 fz (iL items)⟩) (hd:s.rw d = ⟨0,.dead⟩)
 (h1:ki ≠ kb) (h2:d ≠ kb)
 (hk:∀ (S:St) (fl':List Bool),fl'.length = 256->S.sl d = bool (zcq ft items n []).isSome->(∀ t,t ≠ d->S.sl t = s.sl t) ->
  S.rw kb = ⟨1,.box 127 (oX .junk f fl' (.own d 1))⟩->S.rw d = ⟨1,.sli 3 1 false (iL ((zcq ft items n []).getD []))⟩->(∀ i,i ≠ kb->i ≠ d->S.rw i = s.rw i)->K S) :
 zf0 Tryz.prog g lent Ka (znD Tryz.prog g lent [.ref kb 1 0,int 0] (some d) (kk s us) (kk K uu)):=by
 have R00:oR true items f fl [] 1000000 = ⟨1,.box 127 (oC items f fl (.v (.slice none 0 0)))⟩:=rfl
 have R0n:∀ k,k ≠ 1000000->oR true items f fl [] k = ⟨0,.dead⟩:=fun k hk=>by unfold oR;rw [if_neg hk,if_neg (fun h=>by cases h.2)]
 have nd0:∀ k,(oR true items f fl [] k).kind.nd = true->k = 1000000:=fun k hk=>by
  by_cases h:k = 1000000
  ·exact h
  ·rw [R0n k h] at hk;cases hk
 have r0:(fun k:Nat=>if k = 1000000 then some kb else none) 1000000 = some kb:=if_pos rfl
 have q0:(fun k:Nat=>if k = 1000000 then some kb else if k = 1000001 then some d else none) 1000000 = some kb:=if_pos rfl
 have q1:(fun k:Nat=>if k = 1000000 then some kb else if k = 1000001 then some d else none) 1000001 = some d:=rfl
 have qq:∀ {k j:Nat},(fun k:Nat=>if k = 1000000 then some kb else if k = 1000001 then some d else none) k = some j->(k = 1000000/\j = kb) \/ (k = 1000001/\j = d):=fun {k j} h=>by
  have h:(if k = 1000000 then some kb else if k = 1000001 then some d else none) = some j:=h
  by_cases a:k = 1000000
  ·rw [if_pos a] at h;exact .inl ⟨a,(Option.some.inj h).symm⟩
  ·rw [if_neg a] at h
   by_cases b:k = 1000001
   ·rw [if_pos b] at h;exact .inr ⟨b,(Option.some.inj h).symm⟩
   ·rw [if_neg b] at h;cases h
 refine zut h (fun k=>if k = 1000000 then some kb else none) (fun j=>j = ki) (.one (.ref r0 (by rw [R00]) (by rw [hb]) (by rw [R00];rfl)) (.one (.v _) .nil)) ⟨fun k hk=>?_,fun k k' j a b _ _=>by rw [nd0 k a,nd0 k' b],fun k j a b e=>?_⟩ fun R1 p hp=>?_
 ·have:=nd0 k hk;subst this
  refine ⟨Nat.le_refl _,by rw [R00];exact Nat.one_pos,kb,r0,?_⟩
  rw [R00,hb]
  exact ⟨rfl,.one (.lent rfl hi) (.clo .nil (zH4 (.one (.v _) .nil) fl))⟩
 ·have:=nd0 k a;subst this
  have b:some kb = some j:=b
  cases b
  exact h1 e.symm
 ·obtain ⟨fl',v',hfl,hI,rfl,hb1,hl1⟩:=hp
  refine ⟨fun k=>if k = 1000000 then some kb else if k = 1000001 then some d else none,fun k=>1,false,⟨fun k hk=>?_,fun a b i a1 a2=>?_,fun a i a1 a2 a3=>?_,fun a i a1 a2=>?_,fun h=>by cases h⟩,fun S hS=>?_⟩
  ·have:=nd0 k hk;subst this;rfl
  ·rcases qq a1 with ⟨rfl,e1⟩ | ⟨rfl,e1⟩ <;> rcases qq a2 with ⟨rfl,e2⟩ | ⟨rfl,e2⟩ <;> first | rfl | (exact absurd (e1.symm.trans e2) (Ne.symm h2)) | (exact absurd (e1.symm.trans e2) h2)
  ·have:=nd0 a a2;subst this
   rcases qq a1 with ⟨_,rfl⟩ | ⟨h,_⟩
   ·rw [hb]
   ·exact absurd h (by decide)
  ·rcases qq a1 with ⟨rfl,rfl⟩ | ⟨rfl,rfl⟩
   ·have:=a2 (by rw [R00];rfl)
    rw [hb1,R00] at this
    exact absurd rfl this
   ·rw [hd];exact Nat.one_pos
  ·have e0:=hS.row 1000000 kb q0
   have e1:=hS.row 1000001 d q1
   rw [hb1] at e0
   rw [hl1] at e1
   have e0:S.rw kb = ⟨1,.box 127 ((oC items f fl' (.own 1000001 v')).map (ren1 (fun k:Nat=>if k = 1000000 then some kb else if k = 1000001 then some d else none) R1 _ false))⟩:=e0
   rw [zH5 q1 (by rw [hl1])] at e0
   refine hk S fl' hfl ?_ (fun t ht=>?_) e0 e1 fun i a b=>hS.off i fun k hk=>?_
   ·rw [hS.sl,zau];rfl
   ·rw [hS.sl,zaG _ _ _ _ ht]
   ·rcases qq hk with ⟨_,rfl⟩ | ⟨_,rfl⟩
    ·exact a rfl
    ·exact b rfl
def zpD (ft:List Int->Int->Bool) (xs:List Int):Option (List Int):=if xs.length <= 8 then zcq ft (zju xs) xs.length [] else none
theorem zt5 (f:FuncId) (ft:List Int->Int->Bool) (hF:∀ l x,okL l->(0 <= x/\x < 64)->AC Tryz.prog f [zaz l,int x] (.im (bool (ft l x)))) (hP:∀ l l' x,l.Perm l'->ft l x = ft l' x) (xs:List Int) (hn:xs.Nodup) (hok:okL xs) :
 AC Tryz.prog 123 [zaz xs,.clo f []] (.tup [.fr 3 1 (iL ((zpD ft xs).getD [])),.im (bool (zpD ft xs).isSome)]):=by
 refine xac [.tmp 4,.tmp 5] Tryz.func123 fun hl=>?_
 simp only [zaS,zbe,and_true,zcv,zev,zdh,zck,zcU,true_and] at hl
 simp (maxSteps:=9^7) -dsimp only [↓gp,gq,reduceCtorEq,reduceEqDiff,reduceLT,reduceLeDiff,reduceAdd,reduceMul,reduceSub,Nat.reduceBEq,Int.reduceToNat,Int.reduceLE,Int.reduceLT,Int.reduceNeg,reduceMod,gT,zjv,zjw]
 refine ⟨fun h=>?_,fun h=>?_⟩
 ·unfold zpD;rw [if_neg om];exact ⟨rfl,rfl⟩
 ·have h8:xs.length <= 8:=om
  unfold zpD;rw [if_pos h8]
  refine zaa (znP xs om) ?_
  simp (maxSteps:=9^7) -dsimp only [↓gp,gq,reduceCtorEq,reduceEqDiff,reduceLT,reduceLeDiff,reduceAdd,reduceMul,reduceSub,Nat.reduceBEq,Int.reduceToNat,Int.reduceLE,Int.reduceLT,Int.reduceNeg,reduceMod,gT,zjv,zjw]
  refine zlw (zqY xs h8) [(12,1)] (by repeat (first | exact GiveL.nil | refine GiveL.v ?_ | refine GiveL.clo ?_ | refine GiveL.own 0 rfl ?_ | refine GiveL.own 1 rfl ?_ | refine GiveL.ag ?_ ?_)) ⟨by simp (maxSteps:=9^7) -dsimp only [gr,reduceEqDiff,reduceLT,reduceAdd,reduceMod,Nat.reduceBEq];try rfl,trivial⟩ (by decide) ?_
  simp (maxSteps:=9^7) -dsimp only [↓gp,gq,reduceCtorEq,reduceEqDiff,reduceLT,reduceLeDiff,reduceAdd,reduceMul,reduceSub,Nat.reduceBEq,Int.reduceToNat,Int.reduceLE,Int.reduceLT,Int.reduceNeg,reduceMod,gT,zjv,zjw,zH3]
  refine zGc List.length_replicate (by simp only [List.length_cons,List.length_map,List.length_append,List.length_replicate,List.length_nil]) ?_ (by exact rfl) _ ?_
  ·simp (maxSteps:=9^7) -dsimp only [↓gp,gq,reduceCtorEq,reduceEqDiff,reduceLT,reduceLeDiff,reduceAdd,reduceMul,reduceSub,Nat.reduceBEq,Int.reduceToNat,Int.reduceLE,Int.reduceLT,Int.reduceNeg,reduceMod,gT,zp8]
  have hC:=zzJ f ft hF hP (zju xs) ((zgR xs).nodup_iff.2 hn) (fun b hb=>hok b ((zgR xs).mem_iff.1 hb)) (by rw [zni];exact h8) xs.length true (List.replicate 256 false) 0 [] (fun _=>rfl) List.length_replicate (fun u hu=>by
   have hu:(List.replicate 256 false).getD u false = true:=hu
   have:(List.replicate 256 false).getD u false = false:=by
    rw [List.getD,List.getElem?_replicate];split <;> rfl
   rw [this] at hu;cases hu) (zzD _) (by rw [zni];simp) (fun b hb=>by cases hb) (by decide)
  simp (maxSteps:=9^7) -dsimp only [↓gp,gq,reduceCtorEq,reduceEqDiff,reduceLT,reduceLeDiff,reduceAdd,reduceMul,reduceSub,Nat.reduceBEq,Int.reduceToNat,Int.reduceLE,Int.reduceLT,Int.reduceNeg,reduceMod,gT,zjv,zjw,zH3]
  refine zJN (ki:=12) (vi:=1) (ei:=3) (fz:=false) hC (by simp (maxSteps:=9^7) -dsimp only [gr,reduceEqDiff,reduceLT,reduceAdd,reduceMod,Nat.reduceBEq]) (by simp (maxSteps:=9^7) -dsimp only [gr,reduceEqDiff,reduceLT,reduceAdd,reduceMod,Nat.reduceBEq]) (by simp (maxSteps:=9^7) -dsimp only [gr,reduceEqDiff,reduceLT,reduceAdd,reduceMod,Nat.reduceBEq]) (by decide) (by decide) fun S fl' hfl' hSd hSs w7 w18 hoff=>?_
  have u7:S.sl 7 = .ref 7 1 0:=by rw [hSs 7 (by decide)];simp (maxSteps:=9^7) -dsimp only [gr,reduceEqDiff,reduceLT,reduceAdd,reduceMod,Nat.reduceBEq]
  simp (maxSteps:=9^7) -dsimp only [↓gp,gq,reduceCtorEq,reduceEqDiff,reduceLT,reduceLeDiff,reduceAdd,reduceMul,reduceSub,Nat.reduceBEq,Int.reduceToNat,Int.reduceLE,Int.reduceLT,Int.reduceNeg,reduceMod,gT,hSd,u7,w7,w18,zMZ hfl']
  generalize zcq ft (zju xs) xs.length [] = o
  cases o with
  | none=>exact ⟨fun _=>⟨rfl,rfl⟩,fun h=>by cases h⟩
  | some l=>exact ⟨fun h=>(by cases h),fun _=>rfl⟩
theorem zH2 {n:Int} {xs:List Int} (h:cxP n xs):okL xs:=fun b hb=>by
 obtain ⟨i,hi,rfl⟩:=zaV 0 hb
 exact zfd (h.2.2 i hi).1
theorem zEe {ft:List Int->Int->Bool} {gens:List Int}:∀ (n:Nat) (head l:List Int),zcq ft gens n head = some l->l.length = head.length + n:=by
 intro n
 induction n with
 | zero=>intro head l h;rw [<- Option.some.inj (show some head = some l from h)];rfl
 | succ n ih =>
   intro head l h
   obtain ⟨x,_,hx⟩:=List.exists_of_findSome?_eq_some (show gens.findSome? _ = some l from h)
   split at hx
   ·cases hx
   ·rw [ih _ _ hx];simp;omega
def zKv (l:List Nat):Prop:=∀ g ∈ l,g < 64
theorem zqZ {l:List Nat} (h:zKv l) {k:Nat} (hk:k < l.length):l.getD k 0 < 64:=h _ (zaj 0 hk)
theorem zvx {α:Type} (f:α->Nat->α) (a:α) {l:List Nat} {k:Nat} (h:k < l.length):(l.take (k + 1)).foldl f a = f ((l.take k).foldl f a) (l.getD k 0):=by
 rw [zas 0 h,List.foldl_append];rfl
theorem znV (bs:List Nat) (fc:Nat) (hb:zKv bs) (hs:fc < 64):AC Tryz.prog 174 [zaz (ofN bs),int fc] (.im (int (npN bs fc:Nat))):=by
 refine xac [.tmp 4] Tryz.func174 fun hl=>?_
 simp only [zaS,zbe,and_true,zcU,zck,true_and,zad] at hl
 have hol:=zad bs
 refine xg0 ?_
 refine zag (fun (k:Nat) s=>(s.sl 1 = int fc/\s.sl 5 = int ((bs.take k).foldl (npS fc) 0:Nat)/\s.sl 9 = zaz (ofN bs)/\s.sl 10 = int bs.length/\s.sl 11 = int k)/\(k <= bs.length)) (fun k=>bs.length - k) (0) ⟨(xc1 hol),sp⟩ ?_
 intro k sa ⟨Ha,hIa⟩
 refine xg2 Ha hol ?_
 refine ⟨fun h=>?_,fun h=>?_⟩
 ·have hg:=zqZ hb h
  have hx:zb8 .i64 (fc:Int) (bs.getD k 0:Nat) = ((fc ^^^ (fc &&& bs.getD k 0):Nat):Int):=zbj om om
  have hx64:=zqV (s:=fc) (g:=bs.getD k 0) hs
  have hpp:zkg ((fc ^^^ (fc &&& bs.getD k 0):Nat):Int) = (zar (fc ^^^ (fc &&& bs.getD k 0)):Nat):=by rw [zdm om];simp
  have hst:(bs.take (k + 1)).foldl (npS fc) 0 = npS fc ((bs.take k).foldl (npS fc) 0) (bs.getD k 0):=zvx (npS fc) 0 h
  have hlt:(bs.take k).foldl (npS fc) 0 < 64:=zMW (bs:=bs.take k) hs
  have hor:ior .i64 (((bs.take k).foldl (npS fc) 0:Nat):Int) ((fc ^^^ (fc &&& bs.getD k 0):Nat):Int) = (((bs.take k).foldl (npS fc) 0 ||| (fc ^^^ (fc &&& bs.getD k 0)):Nat):Int):=zmO om om
  rw [zay h,hx]
  refine ⟨h,h,zaa (zaE _) ?_⟩
  refine xg5 Ha hol (zay h) hx hpp ?_
  refine ⟨fun hp=>?_,fun hp=>?_⟩
  ·have hn:npS fc ((bs.take k).foldl (npS fc) 0) (bs.getD k 0) = (bs.take k).foldl (npS fc) 0 ||| (fc ^^^ (fc &&& bs.getD k 0)):=by unfold npS;rw [if_pos (by have:=beq_iff_eq.1 hp;omega)]
   exact zab (k + 1) ⟨(xc6 Ha (zac h hl) hst hn hor hx),om⟩
  ·have hn:npS fc ((bs.take k).foldl (npS fc) 0) (bs.getD k 0) = (bs.take k).foldl (npS fc) 0:=by unfold npS;rw [if_neg (by have:=beq_eq_false_iff_ne.1 hp;omega)]
   exact zab (k + 1) ⟨(xc5 Ha (zac h hl) hst hn hx),om⟩
 ·obtain rfl:k = bs.length:=om
  unfold npN
  rw [List.take_length]
theorem zkw (bs:List Nat) (fc:Nat) (hb:zKv bs) (hs:fc < 64):AC Tryz.prog 124 [zaz (ofN bs),int fc] (.im (bool (zzX bs fc))):=by
 refine xac [.tmp 4] Tryz.func124 fun hl=>?_
 simp only [zaS,zbe,and_true,zcU,zck,true_and,zad] at hl
 have hol:=zad bs
 refine xg0 ?_
 refine zaa (znV bs fc hb hs) ?_
 refine xg0 ?_
 refine zag (fun (k:Nat) s=>(s.sl 5 = int (npN bs fc:Nat)/\s.sl 11 = zaz (ofN bs)/\s.sl 12 = int bs.length/\s.sl 13 = int k)/\(k <= bs.length/\∀ i,i < k->(npN bs fc ^^^ (npN bs fc &&& bs.getD i 0) != 0) = true)) (fun k=>bs.length - k) (0) ⟨(xc1 hol),sp⟩ ?_
 intro k sa ⟨Ha,hIa⟩
 obtain ⟨hk,hall⟩:=hIa
 refine xg2 Ha hol ?_
 refine ⟨fun h=>?_,fun h=>?_⟩
 ·have hg:=zqZ hb h
  have hlt:=zMW (bs:=bs) hs
  have hx:zb8 .i64 (npN bs fc:Nat) (bs.getD k 0:Nat) = ((npN bs fc ^^^ (npN bs fc &&& bs.getD k 0):Nat):Int):=zbj om om
  rw [zay h,hx]
  refine ⟨h,h,fun he=>?_,fun he=>zab (k + 1) ⟨(xc2 Ha (zac h hl)),⟨om,fun i hi=>?_⟩⟩⟩
  ·unfold zzX
   rw [List.all_eq_false]
   refine ⟨_,zaj 0 h,?_⟩
   have he:npN bs fc ^^^ (npN bs fc &&& bs.getD k 0) = 0:=by have:=beq_iff_eq.1 he;omega
   rw [he];simp
  ·rcases Nat.lt_succ_iff_lt_or_eq.1 hi with hi | rfl
   ·exact hall i hi
   ·rw [bne_iff_ne]
    have:=beq_eq_false_iff_ne.1 he
    omega
 ·unfold zzX
  rw [List.all_eq_true]
  intro x hx
  obtain ⟨i,hi,rfl⟩:=zaV 0 hx
  exact hall i om
theorem zEh:∀ f,f < 64->∀ i,i < 6->(((f &&& 2 ^ i:Nat):Int) == 0) = !(Nat.testBit f i):=by decide +kernel
theorem zq0 (bs:List Nat) (fc:Nat) (hb:zKv bs) (hs:fc < 64):AC Tryz.prog 197 [zaz (ofN bs),int fc] (.im (int (frN bs fc 6:Nat))):=by
 refine xac [.tmp 4] Tryz.func197 fun hl=>?_
 simp only [zaS,zbe,and_true,zcU,zck,true_and,zad] at hl
 have hol:=zad bs
 simp -dsimp only [↓gp,gq,simprocAttr,gT]
 refine zag (fun (i:Nat) s=>s.sl 0 = zaz (ofN bs)/\s.sl 1 = int fc/\s.sl 5 = int (frN bs fc i:Nat)/\s.sl 6 = int i/\(i <= 6)) (fun i=>6 - i) (0) (by refine ⟨?_,?_,?_,?_,om⟩ <;> (first | (simp -dsimp only [gr,simprocAttr,frN];first | done | rfl | (simp;done)) | assumption | rfl)) ?_
 intro i sa ⟨h0a,h1a,h5a,h6a,hIa⟩
 by_cases hi:i < 6
 ·have hui:IntKind.u64.wrap (i:Int) = (i:Int):=zaI om
  have hsh:zg1 .i64 1 (i:Int) = ((2 ^ i:Nat):Int):=zaW om
  have h2i:(2:Nat) ^ i <= 2 ^ 5:=Nat.pow_le_pow_right om om
  have han:zdQ .i64 (fc:Int) ((2 ^ i:Nat):Int) = ((fc &&& 2 ^ i:Nat):Int):=za1 om om
  have hbit:(((fc &&& 2 ^ i:Nat):Int) == 0) = !(fc.testBit i):=zEh fc hs i hi
  have hfr:frN bs fc (i + 1) = if fc.testBit i && bs.any (fun g=>g &&& (fc - 2 ^ i) == fc - 2 ^ i) then frN bs fc i ||| 2 ^ i else frN bs fc i:=rfl
  simp -dsimp only [↓gp,gq,simprocAttr,gT,h0a,h1a,h5a,h6a,hui,hsh,han,hbit]
  refine ⟨fun _=>⟨fun hz=>?_,fun hz=>?_⟩,fun h=>absurd (show (i:Int) < 6 by omega) h⟩
  ·have hz:fc.testBit i = false:=by simpa using hz
   rw [hz,Bool.false_and,if_neg (by decide)] at hfr
   exact zab (i + 1) (by refine ⟨?_,?_,?_,?_,om⟩ <;> (first | (simp -dsimp only [gr,simprocAttr,h0a,h1a,h5a,h6a,zac hi om,hfr];first | done | rfl | (simp;done)) | assumption | rfl)) (by first | omega | (simp only;omega) | (dsimp only;omega) | (show _ < _;simp;omega))
  ·have hz:fc.testBit i = true:=by simpa using hz
   rw [hz,Bool.true_and] at hfr
   have hle:2 ^ i <= fc:=Nat.ge_two_pow_of_testBit hz
   have hsl:fc - 2 ^ i <= fc:=Nat.sub_le _ _
   have hsub:IntKind.i64.wrap ((fc:Int) - ((2 ^ i:Nat):Int)) = ((fc - 2 ^ i:Nat):Int):=by
    rw [<- Int.ofNat_sub hle];exact zai om om
   generalize hq:(fun g=>g &&& (fc - 2 ^ i) == fc - 2 ^ i) = q at *
   refine zag (fun (k:Nat) s=>s.sl 0 = zaz (ofN bs)/\s.sl 1 = int fc/\s.sl 5 = int (if (bs.take k).any q = true then frN bs fc i ||| 2 ^ i else frN bs fc i:Nat)/\s.sl 6 = int i/\s.sl 7 = int (2 ^ i:Nat)/\s.sl 8 = int k/\(k <= bs.length)) (fun k=>bs.length - k) (0) (by refine ⟨?_,?_,?_,?_,?_,?_,om⟩ <;> (first | (simp -dsimp only [gr,simprocAttr,h0a,h1a,h5a,h6a,hsh,hui,List.take_zero,List.any_nil];first | done | rfl | (simp;done)) | assumption | rfl)) ?_
   intro k sb ⟨h0b,h1b,h5b,h6b,h7b,h8b,hIb⟩
   simp -dsimp only [↓gp,gq,simprocAttr,gT,h0b,h1b,h5b,h6b,h7b,h8b,hol,hsub]
   refine ⟨fun hk=>?_,fun hk=>?_⟩
   ·have hg:=zqZ hb hk
    have hx:zdQ .i64 ((bs.getD k 0:Nat):Int) ((fc - 2 ^ i:Nat):Int) = ((bs.getD k 0 &&& (fc - 2 ^ i):Nat):Int):=za1 om om
    rw [zay hk,hx]
    have hany:(bs.take (k + 1)).any q = ((bs.take k).any q || q (bs.getD k 0)):=by rw [zas 0 hk,List.any_append];simp
    have hqk:q (bs.getD k 0) = (bs.getD k 0 &&& (fc - 2 ^ i) == fc - 2 ^ i):=by rw [<- hq]
    have hcast:(((bs.getD k 0 &&& (fc - 2 ^ i):Nat):Int) == ((fc - 2 ^ i:Nat):Int)) = (bs.getD k 0 &&& (fc - 2 ^ i) == fc - 2 ^ i):=by
     rw [Bool.eq_iff_iff,beq_iff_eq,beq_iff_eq];omega
    refine ⟨hk,hk,fun he=>?_,fun he=>?_⟩
    ·have he:q (bs.getD k 0) = true:=by rw [hqk,<- hcast];exact he
     have hlt:frN bs fc i < 64:=zMX hs
     have hlt2:frN bs fc i ||| 2 ^ i < 64:=Nat.or_lt_two_pow (n:=6) hlt om
     have hor:ior .i64 ((if (bs.take k).any q = true then frN bs fc i ||| 2 ^ i else frN bs fc i:Nat):Int) ((2 ^ i:Nat):Int) = ((frN bs fc i ||| 2 ^ i:Nat):Int):=by
      rw [zmO (by split <;> omega) om]
      split
      ·rw [Nat.or_assoc,Nat.or_self]
      ·rfl
     exact zab (k + 1) (by refine ⟨?_,?_,?_,?_,?_,?_,om⟩ <;> (first | (simp -dsimp only [gr,simprocAttr,h0b,h1b,h5b,h6b,h7b,h8b,zac hk hl,hany,he,hor,Bool.or_true,if_true];first | done | rfl | (simp;done)) | assumption | rfl)) (by first | omega | (simp only;omega) | (dsimp only;omega) | (show _ < _;simp;omega))
    ·have he:q (bs.getD k 0) = false:=by rw [hqk,<- hcast];exact he
     exact zab (k + 1) (by refine ⟨?_,?_,?_,?_,?_,?_,om⟩ <;> (first | (simp -dsimp only [gr,simprocAttr,h0b,h1b,h5b,h6b,h7b,h8b,zac hk hl,hany,he,Bool.or_false];first | done | rfl | (simp;done)) | assumption | rfl)) (by first | omega | (simp only;omega) | (dsimp only;omega) | (show _ < _;simp;omega))
   ·have e:k = bs.length:=om
    rw [e,List.take_length,<- hfr] at h5b
    exact zab (i + 1) (by refine ⟨?_,?_,?_,?_,om⟩ <;> (first | (simp -dsimp only [gr,simprocAttr,h0a,h1a,h5a,h6a,h0b,h1b,h5b,h6b,zac hi om];first | done | rfl | (simp;done)) | assumption | rfl)) (by first | omega | (simp only;omega) | (dsimp only;omega) | (show _ < _;simp;omega))
 ·have e:i = 6:=om
  subst e
  simp (maxSteps:=9^7) -dsimp only [↓gp,gq,reduceCtorEq,reduceEqDiff,reduceLT,reduceLeDiff,reduceAdd,reduceMul,reduceSub,Nat.reduceBEq,Int.reduceToNat,Int.reduceLE,Int.reduceLT,Int.reduceNeg,reduceMod,gT,h0a,h1a,h5a,h6a]
  exact fun h=>absurd h (by decide)
theorem znW (bs:List Nat) (fc:Nat) (hb:zKv bs) (hs:fc < 64):AC Tryz.prog 175 [zaz (ofN bs),int fc] (.im (bool (zzX bs fc))):=by
 refine xac [.tmp 4] Tryz.func175 fun hl=>?_
 simp only [zaS,zbe,and_true,zcU,zck,true_and,zad] at hl
 have hol:=zad bs
 rw [zMY hs hb]
 refine xg1 hol ?_
 refine ⟨fun h=>?_,fun h=>?_⟩
 ·have:bs = []:=List.eq_nil_of_length_eq_zero (by have:=beq_iff_eq.1 h;omega)
  subst this;rfl
 ·refine zaa (zq0 bs fc hb hs) ?_
  refine xg0 ?_
  have hlt:frN bs fc 6 < 64:=zMX hs
  refine zag (fun (k:Nat) s=>(s.sl 0 = zaz (ofN bs)/\s.sl 1 = int fc/\s.sl 5 = int (frN bs fc 6:Nat)/\s.sl 6 = int k)/\(k <= bs.length/\∀ i,i < k->((bs.getD i 0 &&& fc) &&& frN bs fc 6 != frN bs fc 6) = true)) (fun k=>bs.length - k) (0) ⟨xc0,sp⟩ ?_
  intro k sa ⟨Ha,hIa⟩
  obtain ⟨hk,hall⟩:=hIa
  refine xg2 Ha hol ?_
  refine ⟨fun h=>?_,fun h=>?_⟩
  ·have hg:=zqZ hb h
   have h1:bs.getD k 0 &&& fc <= fc:=Nat.and_le_right
   have hx:zdQ .i64 (zdQ .i64 ((bs.getD k 0:Nat):Int) (fc:Int)) ((frN bs fc 6:Nat):Int) = (((bs.getD k 0 &&& fc) &&& frN bs fc 6:Nat):Int):=by rw [za1 om om,za1 om om]
   rw [zay h,hx]
   refine ⟨h,h,fun he=>?_,fun he=>zab (k + 1) ⟨(xc2 Ha (zac h hl)),⟨om,fun i hi=>?_⟩⟩⟩
   ·unfold zKs
    rw [List.all_eq_false]
    refine ⟨_,zaj 0 h,?_⟩
    have he:(bs.getD k 0 &&& fc) &&& frN bs fc 6 = frN bs fc 6:=by have:=beq_iff_eq.1 he;omega
    rw [he];simp
   ·rcases Nat.lt_succ_iff_lt_or_eq.1 hi with hi | rfl
    ·exact hall i hi
    ·rw [bne_iff_ne]
     have:=beq_eq_false_iff_ne.1 he
     omega
  ·unfold zKs
   rw [List.all_eq_true]
   intro x hx
   obtain ⟨i,hi,rfl⟩:=zaV 0 hx
   exact hall i om
def shB (l:List Int) (x:Int):Bool:=zzX (l.map Int.toNat) x.toNat
theorem zt9 {l:List Int} (h:okL l):ofN (l.map Int.toNat) = l:=by
 unfold ofN
 rw [List.map_map]
 have:∀ x ∈ l,((fun s:Nat=>(s:Int)) ∘ Int.toNat) x = id x:=fun x hx=>by
  have:=h x hx
  show ((x.toNat:Nat):Int) = x
  omega
 rw [List.map_congr_left this,List.map_id]
theorem zpE {l:List Int} (h:okL l):zKv (l.map Int.toNat):=fun g hg=>by
 obtain ⟨x,hx,rfl⟩:=List.mem_map.1 hg
 have:=h x hx
 omega
theorem zGe (l l':List Int) (x:Int) (h:l.Perm l'):shB l x = shB l' x:=zD9 _ (h.map _)
theorem zzM (l:List Int) (x:Int) (hl:okL l) (hx:0 <= x/\x < 64):AC Tryz.prog 124 [zaz l,int x] (.im (bool (shB l x))):=by
 have:=zkw (l.map Int.toNat) x.toNat (zpE hl) om
 rw [zt9 hl,show ((x.toNat:Nat):Int) = x by omega] at this
 exact this
theorem zzN (l:List Int) (x:Int) (hl:okL l) (hx:0 <= x/\x < 64):AC Tryz.prog 175 [zaz l,int x] (.im (bool (shB l x))):=by
 have:=znW (l.map Int.toNat) x.toNat (zpE hl) om
 rw [zt9 hl,show ((x.toNat:Nat):Int) = x by omega] at this
 exact this
theorem znU (gens:List Int) (hg:okL gens) (hgl:gens.length <= 1000):∀ (n:Nat) (head:List Int),okL head->head.length + n = gens.length ->
 AF Tryz.prog 126 [.sl false 1 (iL gens)] (iL head) 3 (iL ((zcq shB gens n head).getD [])) (zcq shB gens n head).isSome:=by
 intro n
 induction n with
 | zero =>
   intro head hh hn
   unfold AF
   refine xag [.tmp 4,.tmp 5] Tryz.func126 fun hl hrl z hz hr=>?_
   have z0:z.sl 0 = zaz gens:=by rw [hz];rfl
   have z1:z.sl 1 = .own 1000000 1:=by rw [hz];rfl
   have y0:z.rw 1000000 = ⟨1,.sli 3 1 false (iL head)⟩:=by rw [hr,zf8]
   clear hz hr
   refine xg3 z0 z1 y0 ?_
   refine ⟨fun _=>⟨1000000,1,.inl rfl,rfl,by simp -dsimp only [gr,simprocAttr,y0];rfl⟩,fun h=>?_⟩
   rw [beq_eq_false_iff_ne] at h
   exact absurd om h
 | succ n ih =>
   intro head hh hn
   unfold AF
   refine xag [.tmp 4,.tmp 5] Tryz.func126 fun hl hrl z hz hr=>?_
   have z0:z.sl 0 = zaz gens:=by rw [hz];rfl
   have z1:z.sl 1 = .own 1000000 1:=by rw [hz];rfl
   have y0:z.rw 1000000 = ⟨1,.sli 3 1 false (iL head)⟩:=by rw [hr,zf8]
   clear hz hr
   refine xg3 z0 z1 y0 ?_
   have hne:((head.length:Int) == (gens.length:Int)) = false:=by rw [beq_eq_false_iff_ne];omega
   refine ⟨fun h=>absurd (hne.symm.trans h) (by decide),fun _=>?_⟩
   have hF:∀ g,(if decide (g ∈ head) || !shB head g then none else zcq shB gens n (head ++ [g])) = (fun g=>if decide (g ∈ head) || !shB head g then none else zcq shB gens n (head ++ [g])) g:=fun _=>rfl
   have hdef:zcq shB gens (n + 1) head = gens.findSome? (fun g=>if decide (g ∈ head) || !shB head g then none else zcq shB gens n (head ++ [g])):=rfl
   rw [hdef]
   generalize hf:(fun g=>if decide (g ∈ head) || !shB head g then none else zcq shB gens n (head ++ [g])) = f at *
   refine zag (fun (k:Nat) s=>(s.sl 0 = zaz gens/\s.sl 1 = .own 1000000 1/\s.rw 1000000 = ⟨1,.sli 3 1 false (iL head)⟩/\s.sl 6 = int k)/\(k <= gens.length/\(gens.take k).findSome? f = none)) (fun k=>gens.length - k) (0) ⟨(xc3 z0 z1 y0),⟨Nat.zero_le _,rfl⟩⟩ ?_
   intro k sa ⟨Ha,hIa⟩
   obtain ⟨hk,hnone⟩:=hIa
   refine xg1 Ha ?_
   refine ⟨fun h=>?_,fun h=>?_⟩
   ·have hgk:=hg _ (zaj 0 h)
    refine ⟨h,h,zaa (zel head _) ?_⟩
    refine xg1 Ha ?_
    have hgo:f (gens.getD k 0) = if decide (gens.getD k 0 ∈ head) || !shB head (gens.getD k 0) then none else zcq shB gens n (head ++ [gens.getD k 0]):=by rw [<- hf]
    have hskip:f (gens.getD k 0) = none->(gens.take (k + 1)).findSome? f = none:=fun e=>by rw [zfp f 0 h,hnone,e];rfl
    refine ⟨fun hm=>⟨h,h,zaa (zzN head _ hh hgk) ?_⟩,fun hm=>?_⟩
    ·refine xg1 Ha ?_
     refine ⟨fun hb=>?_,fun hb=>?_⟩
     ·have e:f (gens.getD k 0) = none:=by rw [hgo,if_pos (by rw [show shB head (gens.getD k 0) = false by simpa using hb];simp)]
      exact zab (k + 1) ⟨(xc2 Ha (zac h om)),⟨om,hskip e⟩⟩
     ·have hb:shB head (gens.getD k 0) = true:=by simpa using hb
      have e:f (gens.getD k 0) = zcq shB gens n (head ++ [gens.getD k 0]):=by
       rw [hgo,if_neg (by rw [hb];simpa using hm)]
      have hIH:=ih (head ++ [gens.getD k 0]) (fun b hb'=>by
       rcases List.mem_append.1 hb' with h' | h'
       ·exact hh b h'
       ·rw [List.mem_singleton.1 h'];exact hgk) (by simp;omega)
      rw [<- e] at hIH
      refine ⟨kr,om,h,h,om,zwO hIH (fun _ _ _ _=>.one (.sl _ _ _) .nil) rfl (by simp -dsimp only [gr,simprocAttr];rw [show iL (head ++ [gens.getD k 0]) = iL head ++ iL [gens.getD k 0] from by simp [iL]]) (zaU _) (by decide) (by decide) ?_⟩
      refine xg1 Ha ?_
      refine ⟨kr,fun hs=>?_,fun hs=>?_⟩
      ·obtain ⟨x,hx⟩:=Option.isSome_iff_exists.1 hs
       rw [zj9 f 0 h hnone hx]
       rw [hx]
       exact ⟨47,_,.inr (by decide),rfl,by simp -dsimp only [gr,simprocAttr]⟩
      ·have e0:f (gens.getD k 0) = none:=by
        cases hx:f (gens.getD k 0) with
        | none=>rfl
        | some x=>rw [hx] at hs;cases hs
       exact zab (k + 1) ⟨(xc2 Ha (zac h om)),⟨om,hskip e0⟩⟩
    ·have e:f (gens.getD k 0) = none:=by rw [hgo,if_pos (by simpa using Or.inl hm)]
     exact zab (k + 1) ⟨(xc2 Ha (zac h om)),⟨om,hskip e⟩⟩
   ·have e:k = gens.length:=om
    rw [e,List.take_length] at hnone
    rw [hnone]
    exact ⟨52,_,.inr (by decide),rfl,by simp -dsimp only [gr,simprocAttr];rfl⟩
noncomputable def zqX (n:Int) (xs:List Int):Option (List Int):=if zaC n xs = true/\xs.length <= 8 then zcq shB (zt7 xs) (zt7 xs).length [] else none
theorem zd4 (n:Int) (xs:List Int):AC Tryz.prog 62 [.ag [int n,zaz xs]] (.tup [.fr 3 1 (iL ((zqX n xs).getD [])),.im (bool (zqX n xs).isSome)]):=by
 refine xac [.tmp 2,.tmp 3] Tryz.func62 fun hl=>?_
 refine xg0 ?_
 refine zaa (zat n xs) ?_
 refine xg0 ?_
 unfold zqX
 refine ⟨fun hc=>?_,fun hc=>?_⟩
 ·have hc:zaC n xs = true:=by simpa using hc
  refine ⟨fun h8=>?_,fun h8=>?_⟩
  ·rw [if_neg om];exact ⟨rfl,rfl⟩
  ·rw [if_pos ⟨hc,om⟩]
   refine zag (fun (za:Nat × Nat) s=>match za with | (m,v)=>(s.sl 1 = .ref 1 1 0/\s.rw 1 = ⟨1,.box 27 [int n,zaz xs]⟩/\s.sl 4 = .own 18 v/\s.rw 18 = ⟨v,.sli 3 1 false (iL (ofN ((List.range m).filter (inF xs))))⟩/\s.sl 5 = int m)/\(m <= 64)) (fun (m,v)=>64 - m) ((0,1)) ⟨xc0,sp⟩ ?_
   intro (m,v) sa ⟨Ha,hIa⟩
   have hfl:((List.range m).filter (inF xs)).length <= 64:=by
    have:=List.length_filter_le (inF xs) (List.range m)
    rw [List.length_range] at this
    omega
   refine xg1 Ha ?_
   refine ⟨fun h=>zaa (zel xs _) ?_,fun h=>?_⟩
   ·refine xg1 Ha ?_
    have hyes:(m:Int) ∈ xs->ofN ((List.range (m + 1)).filter (inF xs)) = ofN ((List.range m).filter (inF xs)) ++ [(m:Int)]:=fun h=>by
     rw [List.range_succ,List.filter_append,zaD]
     simp [inF,h,ofN]
    have hno:¬ (m:Int) ∈ xs->ofN ((List.range (m + 1)).filter (inF xs)) = ofN ((List.range m).filter (inF xs)):=fun h=>by
     rw [List.range_succ,List.filter_append,zaD]
     simp [inF,h,ofN]
    refine ⟨fun hm=>⟨by rw [zad];omega,zab ((m + 1,v + 1)) ⟨(xc3 Ha (zac (show m < 64 by omega) om) (hyes hm)),by dsimp only;omega⟩⟩,fun hm=>zab ((m + 1,v)) ⟨(xc3 Ha (zac (show m < 64 by omega) om) (hno hm)),by dsimp only;omega⟩⟩
   ·have e64:m = 64:=om
    subst e64
    have hF:=znU (zt7 xs) (zM3 xs) (by have:=zEf xs;omega) (zt7 xs).length [] (fun b hb=>by cases hb) sp
    generalize zcq shB (zt7 xs) (zt7 xs).length [] = o at *
    refine zC7 hF (fun _ _=>.one (.lent (by decide) (show _ = (⟨v,.sli 3 1 false _⟩:Row) by simp -dsimp only [gr,simprocAttr,Ha];rfl)) .nil) rfl (by simp -dsimp only [gr,simprocAttr];rfl) (zaU _) (by decide) fun S v2 r hr hSd hSr hSs hSrw=>?_
    rcases hr with rfl | rfl
    ·exact xd2 hSd hSr
    ·exact xd2 hSd hSr
 ·rw [if_neg (fun h=>by rw [h.1] at hc;cases hc)];exact ⟨rfl,rfl⟩
theorem zJK (n:Int) (xs:List Int):zqX n xs = if zaC n xs = true then zpD shB xs else none:=by
 unfold zqX zpD
 by_cases hc:zaC n xs = true
 ·have hp:=zaK.1 hc
  have e:=zGd (zqH hp) (zH2 hp)
  rw [if_pos hc,<- e,zni]
  by_cases h8:xs.length <= 8
  ·rw [if_pos ⟨hc,h8⟩,if_pos h8]
  ·rw [if_neg (fun h=>h8 h.2),if_neg h8]
 ·rw [if_neg hc,if_neg (fun h=>hc h.1)]
theorem zd5 (n:Int) (xs:List Int):AC Tryz.prog 61 [.ag [int n,zaz xs]] (.tup [.fr 3 1 (iL ((zqX n xs).getD [])),.im (bool (zqX n xs).isSome)]):=by
 refine xac [.tmp 2,.tmp 3] Tryz.func61 fun hl=>?_
 rw [zJK]
 refine xg0 ?_
 refine zaa (zao n xs) ?_
 refine xg0 ?_
 refine ⟨fun hc=>?_,fun hc=>?_⟩
 ·have hc:zaC n xs = false:=by simpa using hc
  rw [if_neg (by rw [hc];decide)];exact ⟨rfl,rfl⟩
 ·have hc:zaC n xs = true:=by simpa using hc
  have hp:=zaK.1 hc
  rw [if_pos hc]
  refine zaa (zt5 124 shB zzM zGe xs (zqH hp) (zH2 hp)) ?_
  exact xd0
theorem zEd (n:Int) (xs:List Int):((zqX n xs).getD []).length <= 64:=by
 unfold zqX
 split
 ·rename_i h
  cases ho:zcq shB (zt7 xs) (zt7 xs).length [] with
  | none=>simp
  | some l =>
    have:=zEe _ _ _ ho
    have:=zEf xs
    simp only [Option.getD_some,List.length_nil] at *
    omega
 ·simp
theorem zFV {m:Nat} {xs:List Int} (h:zaC (m:Int) xs = true) {s:Nat} (hs:s < 64):zah (ofN (zcK (inF (zna xs s)) true)) = zbE (zah xs) s:=by
 funext t
 rw [<- zDH h hs t]
 unfold za8
 rw [zDG h hs,Bool.true_and]
theorem ziL (n:Int) (xs:List Int):AC Tryz.prog 73 [.ag [int n,zaz xs]] (.im (bool (zqX n xs).isSome)):=by
 refine xac [.tmp 2] Tryz.func73 fun hl=>?_
 refine xg0 ?_
 refine zaa (zd4 n xs) ?_
 exact xd0
theorem zEY {n:Int} {xs:List Int} (h:zaC n xs = true) (h2:¬ zj4 n xs = true):(zbd (zah xs):Int) - 2 = zdC n xs:=by
 have e:=zm5 h h2
 subst e
 have h1:zdC n [] = -2:=if_neg h2
 have h3:zbd (zah []) = 0:=by
  have:(fun s=>zah [] s) = fun _=>false:=funext fun s=>rfl
  show zbd (fun s=>zah [] s) = 0
  rw [this];decide +kernel
 rw [h1,h3];rfl
theorem zdp (n:Int) (xs:List Int):AC Tryz.prog 37 [.ag [int n,zaz xs]] (.im (int (zdC n xs))):=by
 refine xac [.tmp 2] Tryz.func37 fun hl=>?_
 refine xg0 ?_
 refine zaa (zao n xs) ?_
 refine xg0 ?_
 refine ⟨fun hg=>?_,fun hg=>?_⟩
 ·have e:zdC n xs = -2:=if_neg fun h=>by have:=(zbF.1 h).1;rw [this] at hg;cases hg
  rw [e]
 ·have hg:zaC n xs = true:=by simpa using hg
  refine zaa (zaT n xs (zcb hg)) ?_
  refine xg0 ?_
  refine zaa (zdl (zah xs)) ?_
  have hd:=zbp (zah xs)
  have hw:IntKind.i64.wrap ((zbd (zah xs):Int) - 1 - 1) = zdC n xs:=by
   rw [zai om om]
   by_cases hF:zj4 n xs = true
   ·have:=zm4 hF;omega
   ·have:=zEY hg hF;omega
  exact xd1 hw
theorem zeb (n:Int) (xs:List Int) (k:Nat) (hk7:k < 100):AC Tryz.prog 202 [.ag [int n,zaz xs],int k] (.fr 3 1 (iL (ofN (zaR (za8 n xs) k 64)))):=by
 refine xac [.tmp 4] Tryz.func202 fun hl=>?_
 refine xg0 ?_
 refine zaa (zao n xs) ?_
 refine xg0 ?_
 refine ⟨fun hg=>?_,fun hg=>?_⟩
 ·have e:zaR (za8 n xs) k 64 = []:=by
   unfold zaR
   refine List.filter_eq_nil_iff.2 fun s hs hp=>?_
   rw [Bool.and_eq_true] at hp
   have:=hp.1
   unfold za8 at this
   rw [show zaC n xs = false by simpa using hg] at this
   cases this
  rw [e];rfl
 ·have hg:zaC n xs = true:=by simpa using hg
  have ef:za8 n xs = zah xs:=funext fun s=>by unfold za8;rw [hg,Bool.true_and]
  rw [ef]
  refine zaa (zaT n xs (zcb hg)) ?_
  refine xg0 ?_
  have hE:AC Tryz.prog 150 [u64 (zax (zah xs) 64:Nat)] (.tb 22 3 ((zeQ (zah xs)).map iL)):=by
   have:=zhh (zah xs)
   unfold zeQ
   rw [List.map_map]
   exact this
  have hsl:=zfh (zah xs)
  have hd:=zbp (zah xs)
  refine zDI hE (fun i hi=>by simp -dsimp only [gr,simprocAttr]) fun S hS0 hSd0 hSs hSr=>?_
  simp only [u64,zed] at hS0 hSd0
  have hS:TabI S.rw 11 1 22 3 (List.range (zeQ (zah xs)).length) (zeQ (zah xs)):=hS0
  have hSd:S.sl 11 = .own 11 1:=hSd0
  have u1:S.sl 1 = int k:=by rw [hSs 1 (by decide)];simp -dsimp only [gr,simprocAttr]
  have u4:S.sl 4 = .own 4 1:=by rw [hSs 4 (by decide)];simp -dsimp only [gr,simprocAttr]
  have w4:S.rw 4 = ⟨1,.sli 3 1 false []⟩:=by rw [hSr 4 (by decide)];simp -dsimp only [gr,simprocAttr]
  rw [hsl] at hS
  have htop:=hS.top
  refine xg8 hSd u1 u4 w4 htop @zl6 @zaq @List.length_range ?_
  refine ⟨fun _=>⟨fun h=>?_,fun h=>⟨om,om,?_⟩⟩,fun h=>absurd h om⟩
  ·have e:zaR (zah xs) k 64 = []:=by
    unfold zaR
    refine List.filter_eq_nil_iff.2 fun s hs hp=>?_
    rw [Bool.and_eq_true,beq_iff_eq] at hp
    have:zar s < zbd (zah xs):=zfj 64 s (List.mem_range.1 hs) hp.1
    omega
   rw [e];rfl
  ·have e2:(List.range (zbd (zah xs))).getD k 0 = k:=by simp [List.getD,show k < zbd (zah xs) by omega]
   have hr:=hS.is.row k (by rw [List.length_range];omega)
   rw [e2] at hr ⊢
   have hsid:∀ k,k < 7->sid 11 k < lent:=by decide
   rw [hr,zdt,zd1 _ om,zi9 _ _ _ _ _ _ (hsid k om)]
   exact ⟨rfl,sp⟩
noncomputable def goL (n:Int) (xs:List Int):List Int:=if zaC n xs = true then ofN (zaR (zah xs) 2 64) else []
noncomputable def goN (n:Int) (xs:List Int):Int:=if zaC n xs = true then n else 0
theorem znA (n:Int) (xs:List Int):AC Tryz.prog 203 [.ag [int n,zaz xs]] (.tup [.ag [.im (int (goN n xs)),.fr 3 1 (iL (goL n xs))],.im (bool (zaC n xs))]):=by
 refine xac [.cell 2 147,.tmp 3] Tryz.func203 fun hl=>?_
 refine xg0 ?_
 refine zaa (zao n xs) ?_
 refine xg0 ?_
 have h2:AC Tryz.prog 202 [.ag [int n,zaz xs],int 2] (.fr 3 1 (iL (ofN (zaR (za8 n xs) 2 64)))):=zeb n xs 2 (by decide)
 refine ⟨fun hg=>?_,fun hg=>⟨kr,zaa h2 ?_⟩⟩
 ·unfold goN goL
  rw [show zaC n xs = false by simpa using hg];exact ⟨rfl,rfl,rfl⟩
 ·have hg:zaC n xs = true:=by simpa using hg
  have e1:goN n xs = n:=if_pos hg
  have e:za8 n xs = zah xs:=funext fun s=>by unfold za8;rw [hg,Bool.true_and]
  have e2:goL n xs = ofN (zaR (zah xs) 2 64):=if_pos hg
  rw [e1,hg,e2,e]
  refine xg0 ?_
  kernel_rfl
def mxP (l:List Nat):Int:=l.foldl (fun m s=>if m < (zar s:Int) then (zar s:Int) else m) (-1)
theorem zvN (l:List Nat) (s:Nat):mxP (l ++ [s]) = if mxP l < (zar s:Int) then (zar s:Int) else mxP l:=by
 unfold mxP;rw [List.foldl_append];rfl
theorem zvO:∀ (L:List Nat),L.Pairwise zuf->∀ k,k <= L.length->mxP (L.take k) = if k = 0 then -1 else (zar (L.getD (k - 1) 0):Int)
 | L,h,0,_=>by rw [List.take_zero];rfl
 | L,h,k + 1,hk=>by
   have ih:=zvO L h k om
   have hg:(if k + 1 = 0 then (-1:Int) else (zar (L.getD (k + 1 - 1) 0):Int)) = (zar (L.getD k 0):Int):=by rw [if_neg om,Nat.add_sub_cancel]
   rw [zas 0 om,zvN,ih,hg]
   by_cases h0:k = 0
   ·rw [if_pos h0,if_pos om]
   ·rw [if_neg h0]
    have hb:=List.pairwise_iff_getElem.1 h (k - 1) k om om om
    have e1:L.getD (k - 1) 0 = L[k - 1]:=by simp [List.getD,show k - 1 < L.length by omega]
    have e2:L.getD k 0 = L[k]:=by simp [List.getD,show k < L.length by omega]
    rw [e1,e2]
    unfold zuf at hb
    by_cases hlt:(zar L[k - 1]:Int) < zar L[k]
    ·rw [if_pos hlt]
    ·rw [if_neg hlt];omega
theorem zIm (n:Int) (xs:List Int):mxP (zk5 n xs) = gmO n xs:=by
 have h:=zvO (zk5 n xs) ((zmM _).filter _) (zk5 n xs).length (Nat.le_refl _)
 rw [List.take_length] at h
 rw [h]
 unfold gmO
 by_cases e:zk5 n xs = []
 ·rw [if_pos e,e];rfl
 ·rw [if_neg e,if_neg fun h=>e (List.eq_nil_of_length_eq_zero h)]
theorem zfJ (n:Int) (xs:List Int):AC Tryz.prog 131 [.ag [int n,zaz xs]] (.im (int (gmO n xs))):=by
 refine xac [.tmp 2] Tryz.func131 fun hl=>?_
 refine xg0 ?_
 refine zaa (zen n xs) ?_
 rw [<- zIm]
 have h64:=fun i=>zAp (n:=n) (xs:=xs) (i:=i)
 have hml:=ziJ n xs
 generalize zk5 n xs = L at *
 refine xg1 @zad ?_
 refine zag (fun (k:Nat) s=>(s.sl 3 = int (mxP (L.take k))/\s.sl 7 = .own 7 1/\s.rw 7 = ⟨1,.sli 3 1 false (iL (ofN L))⟩/\s.sl 8 = int L.length/\s.sl 9 = int k)/\(k <= L.length)) (fun k=>L.length - k) (0) ⟨xc0,Nat.zero_le _⟩ ?_
 intro k sa ⟨Ha,hIa⟩
 refine xg2 Ha @zad ?_
 refine ⟨fun hk=>?_,fun hk=>?_⟩
 ·have h6:=h64 k hk
  have hge:(ofN L).getD k 0 = ((L.getD k 0:Nat):Int):=zay hk
  have hs:=zvN (L.take k) (L.getD k 0)
  rw [<- zas 0 hk] at hs
  have hsz:zkg ((L.getD k 0:Nat):Int) = (zar (L.getD k 0):Int):=zdk h6
  rw [hge]
  refine ⟨hk,hk,zaa (zaE _) ?_⟩
  refine xg3 Ha @zad hsz ?_
  refine ⟨fun hlt=>zaa (zaE _) ?_,fun hlt=>?_⟩
  ·rw [if_pos hlt] at hs
   refine xg2 Ha hsz ?_
   exact zab (k + 1) ⟨(xc3 Ha hs (zac hk om)),om⟩
  ·rw [if_neg hlt] at hs
   exact zab (k + 1) ⟨(xc3 Ha hs (zac hk om)),om⟩
 ·have:k = L.length:=om
  rw [this,List.take_length]
theorem zhU (n:Int) (xs:List Int):AC Tryz.prog 65 [.ag [int n,zaz xs]] (.im (bool (zqX n xs).isSome)):=by
 refine xac [.tmp 2] Tryz.func65 fun hl=>?_
 refine xg0 ?_
 refine zaa (zd5 n xs) ?_
 exact xd0
theorem zpP (n:Int) (xs:List Int):AC Tryz.prog 68 [.ag [int n,zaz xs]] (.im (bool (zEZ n xs))):=by
 refine xac [.tmp 2] Tryz.func68 fun hl=>?_
 refine xg0 ?_
 refine zaa (zao n xs) ?_
 refine xg0 ?_
 unfold zEZ
 refine ⟨fun h=>zaa (zfJ n xs) ?_,fun h=>?_⟩
 ·rw [h];exact xd0
 ·rw [h];rfl
def za7 (gs:List Int) (n i k:Nat):List Int:=(List.range n).map fun t=>((nbr (gs.take (if t < i then gs.length else if t = i then k else 0)) t:Nat):Int)
theorem zeD (gs:List Int) (n i k:Nat):(za7 gs n i k).length = n:=by simp [za7]
theorem zua (gs:List Int) (n:Nat):List.replicate n (0:Int) = za7 gs n 0 0:=by
 refine List.ext_getElem (by simp [za7]) fun j h1 h2=>?_
 simp only [za7,List.getElem_replicate,List.getElem_map,List.getElem_range]
 have:(if j < 0 then gs.length else if j = 0 then 0 else 0) = 0:=by rw [if_neg om];split <;> rfl
 rw [this]
 rfl
theorem zzO {gs:List Int} {n i k:Nat} (h:i < n):(za7 gs n i k).getD i 0 = ((nbr (gs.take k) i:Nat):Int):=by
 rw [zcH 0 (by rw [zeD];exact h)]
 simp [za7]
theorem zvy {gs:List Int} {n i k:Nat} (h:i < n):(za7 gs n i k).set i ((nbr (gs.take (k + 1)) i:Nat):Int) = za7 gs n i (k + 1):=by
 refine List.ext_getElem (by simp [za7]) fun j h1 h2=>?_
 simp only [za7,List.getElem_set,List.getElem_map,List.getElem_range]
 by_cases e:i = j
 ·subst e;simp
 ·rw [if_neg e,if_neg (fun q:j = i=>e q.symm),if_neg (fun q:j = i=>e q.symm)]
theorem zub {gs:List Int} {n i k:Nat} (h:nbr (gs.take (k + 1)) i = nbr (gs.take k) i):za7 gs n i (k + 1) = za7 gs n i k:=by
 refine List.ext_getElem (by simp [za7]) fun j h1 h2=>?_
 simp only [za7,List.getElem_map,List.getElem_range]
 by_cases h3:j < i
 ·rw [if_pos h3,if_pos h3]
 ·rw [if_neg h3,if_neg h3]
  by_cases e:j = i
  ·subst e;rw [if_pos rfl,if_pos rfl,h]
  ·rw [if_neg e,if_neg e]
theorem zvz {gs:List Int} {n i:Nat}:za7 gs n i gs.length = za7 gs n (i + 1) 0:=by
 refine List.ext_getElem (by simp [za7]) fun j h1 h2=>?_
 simp only [za7,List.getElem_map,List.getElem_range]
 by_cases h3:j < i
 ·rw [if_pos h3,if_pos om]
 ·rw [if_neg h3]
  by_cases e:j = i
  ·rw [if_pos e,if_pos om]
  ·rw [if_neg e,if_neg om]
   split <;> rfl
def zjx (gs:List Int) (n:Nat):List Int:=(List.range n).map fun t=>((nbr gs t:Nat):Int)
theorem zvA (gs:List Int) (n:Nat):za7 gs n n 0 = zjx gs n:=by
 refine List.ext_getElem (by simp [za7,zjx]) fun j h1 h2=>?_
 have:j < n:=by simpa [za7] using h1
 simp [za7,zjx,this]
theorem zGf {gs:List Int} {n i:Nat} (h:i < n):(zjx gs n).getD i 0 = ((nbr gs i:Nat):Int):=by
 rw [zcH 0 (by simp [zjx];exact h)]
 simp [zjx]
theorem ziP (n:Nat) (hn:n <= 6) (gs:List Int) (hg:∀ x ∈ gs,0 <= x/\x < 64):AC Tryz.prog 205 [.ag [int n,zaz gs]] (.fr 3 1 (iL (zjx gs n))):=by
 refine xac [.tmp 2] Tryz.func205 fun hl=>?_
 simp only [zaS,zbe,and_true,zcv,zev,zdh,zck,true_and] at hl
 refine xg0 ?_
 refine ⟨om,om,?_⟩
 refine zag (fun (za:Nat × Nat × Nat) s=>match za with | (k,v,u)=>(s.sl 1 = .ref 1 u 0/\s.rw 1 = ⟨u,.box 147 [int n,zaz gs]⟩/\s.sl 3 = .own 9 v/\s.rw 9 = ⟨v,.sli 3 1 false (iL (za7 gs n k 0))⟩/\s.sl 11 = int n/\s.sl 12 = int k)/\(k <= n)) (fun (k,v,u)=>n - k) ((0,1,1)) ⟨(by and_intros <;> (first | (simp -dsimp only [gr,simprocAttr,zdq,Int.toNat_natCast,<- zua];first | done | rfl | (simp;done)) | assumption | rfl)),sp⟩ ?_
 intro (k,v,u) sa ⟨Ha,hIa⟩
 refine xg2 Ha @zeD ?_
 refine ⟨fun hk=>?_,fun hk=>?_⟩
 ·refine zag (fun (zb:Nat × Nat) s=>match zb with | (j,v)=>(s.sl 1 = .ref 1 u 0/\s.rw 1 = ⟨u,.box 147 [int n,zaz gs]⟩/\s.sl 3 = .own 9 v/\s.rw 9 = ⟨v,.sli 3 1 false (iL (za7 gs n k j))⟩/\s.sl 11 = int n/\s.sl 12 = int k/\s.sl 4 = int k/\s.sl 16 = zaz gs/\s.sl 17 = int gs.length/\s.sl 18 = int j)/\(j <= gs.length)) (fun (j,v)=>gs.length - j) ((0,v)) ⟨(xc1 Ha),sp⟩ ?_
  intro (j,v) sb ⟨Hb,hIb⟩
  have hun:IntKind.u64.wrap (k:Int) = (k:Int):=zaI om
  refine xg3 Hb @zeD hun ?_
  refine ⟨fun hj=>⟨hj,hj,?_⟩,fun hj=>?_⟩
  ·have hx:=hg _ (zaj 0 hj)
   obtain ⟨e,he⟩:=Int.eq_ofNat_of_zero_le hx.1
   rw [he,zpp om om]
   have hg':∀ x ∈ gs,x.toNat < 64:=fun x hx=>by have:=hg x hx;omega
   refine ⟨fun hf=>?_,fun hf=>?_⟩
   ·have hy:=zI3 (i:=k) hj hg' (by rw [he,Int.toNat_natCast];exact hf)
    have h2k:2 ^ k < 64:=by have:2 ^ k < 2 ^ 6:=Nat.pow_lt_pow_right om om;omega
    have hnl:=zHN (gs.take j) k
    have hxl:e ^^^ (e &&& 2 ^ k) < 64:=Nat.xor_lt_two_pow (n:=6) om (Nat.lt_of_le_of_lt Nat.and_le_left om)
    have hor:ior .i64 ((za7 gs n k j).getD k 0) (zb8 .i64 (e:Int) (zg1 .i64 1 (k:Int))) = ((nbr (gs.take (j + 1)) k:Nat):Int):=by
     rw [zzO hk,zaW om,zbj om om,zmO om om,hy,he,Int.toNat_natCast]
    exact ⟨hk,hk,hk,om,zab ((j + 1,v)) ⟨(by and_intros <;> (first | (simp -dsimp only [gr,simprocAttr,Hb,he,hor,zvy hk,zac hj om];first | done | rfl | (simp;done)) | assumption | rfl)),om⟩⟩
   ·have hy:za7 gs n k (j + 1) = za7 gs n k j:=zub (zMs hj (by rw [he,Int.toNat_natCast];exact hf))
    exact zab ((j + 1,v)) ⟨(xc3 Hb (zac hj om) hy),om⟩
  ·obtain rfl:j = gs.length:=om
   exact zab ((k + 1,v,u)) ⟨(by and_intros <;> (first | (simp -dsimp only [gr,simprocAttr,Ha,Hb,zac hk om,<- zvz];first | done | rfl | (simp;done)) | assumption | rfl)),om⟩
 ·obtain rfl:k = n:=om
  rw [zvA]
def okC (nb:Nat->Nat->Bool) (i x:Nat) (c:List Int) (m:Nat):Bool:=(List.range m).all fun j=>!(nb i j && decide (c.getD j 0 = (x:Int)))
theorem zvM (nb:Nat->Nat->Bool) (i x:Nat) (c:List Int) (m:Nat):okC nb i x c (m + 1) = (okC nb i x c m && !(nb i m && decide (c.getD m 0 = (x:Int)))):=by
 unfold okC
 rw [List.range_succ,List.all_append];simp
def cfL (ok:Nat->List Int->Bool) (i:Nat) (f:List Int->Bool × List Int):Nat->Nat->List Int->Bool × List Int
 | 0,_,c=>(false,c)
 | m + 1,x,c=>if ok x c = true then (if (f (c.set i x)).1 = true then f (c.set i x) else cfL ok i f m (x + 1) (f (c.set i x)).2) else cfL ok i f m (x + 1) c
def cfS (nb:Nat->Nat->Bool) (k:Nat):Nat->Nat->List Int->Bool × List Int
 | 0,_,c=>(true,c)
 | r + 1,i,c=>cfL (fun x c=>okC nb i x c i) i (cfS nb k r (i + 1)) k 0 c
def fdL (ok:Nat->Bool) (g:Nat->Option (List Int)):Nat->Nat->Option (List Int)
 | 0,_=>none
 | m + 1,x=>if ok x = true then (match g x with | some l=>some l | none=>fdL ok g m (x + 1)) else fdL ok g m (x + 1)
def fdS (nb:Nat->Nat->Bool) (k:Nat):Nat->List Int->Option (List Int)
 | 0,head=>some head
 | r + 1,head=>fdL (fun x=>okC nb head.length x head head.length) (fun x=>fdS nb k r (head ++ [(x:Int)])) k 0
theorem zun {ok:Nat->List Int->Bool} {i n:Nat} {f:List Int->Bool × List Int} (hf:∀ c,c.length = n->(f c).2.length = n):∀ (m x:Nat) (c:List Int),c.length = n->(cfL ok i f m x c).2.length = n
 | 0,_,c,h=>h
 | m + 1,x,c,h=>by
   rw [cfL]
   have h1:=hf (c.set i x) (by rw [List.length_set];exact h)
   split
   ·split
    ·exact h1
    ·exact zun hf m (x + 1) _ h1
   ·exact zun hf m (x + 1) _ h
theorem zuo (nb:Nat->Nat->Bool) (k n:Nat):∀ (r i:Nat) (c:List Int),c.length = n->(cfS nb k r i c).2.length = n
 | 0,_,c,h=>h
 | r + 1,i,c,h=>zun (fun c hc=>zuo nb k n r (i + 1) c hc) k 0 c h
theorem zEX {nb:Nat->Nat->Bool} {i x:Nat} {c d:List Int} {m:Nat} (h:∀ j,j < m->c.getD j 0 = d.getD j 0):okC nb i x c m = okC nb i x d m:=by
 unfold okC
 refine Bool.eq_iff_iff.2 ?_
 rw [List.all_eq_true,List.all_eq_true]
 refine forall_congr' fun j=>⟨fun hh hj=>?_,fun hh hj=>?_⟩
 ·rw [<- h j (List.mem_range.1 hj)];exact hh hj
 ·rw [h j (List.mem_range.1 hj)];exact hh hj
theorem zAo {c head:List Int} {i:Nat} (h:c.take i = head) (hi:head.length = i) {j:Nat} (hj:j < i):c.getD j 0 = head.getD j 0:=by
 subst h
 simp [List.getD,List.getElem?_take,hj]
theorem zKC (nb:Nat->Nat->Bool) (k n:Nat):∀ (r i:Nat) (c head:List Int),i + r = n->c.length = n->head.length = i->c.take i = head ->
 (cfS nb k r i c).2.take i = head/\(match fdS nb k r head with | some l=>(cfS nb k r i c).1 = true/\(cfS nb k r i c).2 = l | none=>(cfS nb k r i c).1 = false)
 | 0,i,c,head,hr,hc,hh,ht=>by
   refine ⟨ht,rfl,?_⟩
   rw [<- ht]
   show c = c.take i
   rw [List.take_of_length_le om]
 | r + 1,i,c,head,hr,hc,hh,ht=>by
   have key:∀ (m x:Nat) (c:List Int),c.length = n->c.take i = head ->
    (cfL (fun x c=>okC nb i x c i) i (cfS nb k r (i + 1)) m x c).2.take i = head /\
    (match fdL (fun x=>okC nb head.length x head head.length) (fun x=>fdS nb k r (head ++ [(x:Int)])) m x with
     | some l=>(cfL (fun x c=>okC nb i x c i) i (cfS nb k r (i + 1)) m x c).1 = true/\(cfL (fun x c=>okC nb i x c i) i (cfS nb k r (i + 1)) m x c).2 = l
     | none=>(cfL (fun x c=>okC nb i x c i) i (cfS nb k r (i + 1)) m x c).1 = false):=by
    intro m
    induction m with
    | zero=>intro x c hc ht;exact ⟨ht,rfl⟩
    | succ m ihm =>
      intro x c hc ht
      rw [cfL,fdL]
      have hok:okC nb i x c i = okC nb head.length x head head.length:=by
       rw [hh];exact zEX fun j hj=>zAo ht hh hj
      rw [hok]
      by_cases ho:okC nb head.length x head head.length = true
      ·rw [if_pos ho,if_pos ho]
       have hset:(c.set i (x:Int)).take (i + 1) = head ++ [(x:Int)]:=by
        rw [List.take_succ_eq_append_getElem (by rw [List.length_set];omega),List.take_set_of_le (Nat.le_refl i),ht]
        simp
       obtain ⟨g1,g2⟩:=zKC nb k n r (i + 1) (c.set i x) (head ++ [(x:Int)]) om (by rw [List.length_set];exact hc) (by rw [List.length_append,hh];rfl) hset
       have hl:=zuo nb k n r (i + 1) (c.set i x) (by rw [List.length_set];exact hc)
       have ht2:(cfS nb k r (i + 1) (c.set i x)).2.take i = head:=by
        have:=congrArg (List.take i) g1
        have e:(head ++ [(x:Int)]).take i = head:=by rw [List.take_append_of_le_length om,List.take_of_length_le om]
        rw [List.take_take,Nat.min_eq_left om,e] at this
        exact this
       cases hf:fdS nb k r (head ++ [(x:Int)]) with
       | some l =>
         rw [hf] at g2
         rw [if_pos g2.1]
         exact ⟨ht2,g2⟩
       | none =>
         rw [hf] at g2
         rw [if_neg (by rw [g2];decide)]
         exact ihm (x + 1) _ hl ht2
      ·rw [if_neg ho,if_neg ho]
       exact ihm (x + 1) c hc ht
   exact key k 0 c hc ht
theorem zKD (nb:Nat->Nat->Bool) (k n:Nat):(cfS nb k n 0 (List.replicate n 0)).1 = (fdS nb k n []).isSome/\((fdS nb k n []).isSome = true->(cfS nb k n 0 (List.replicate n 0)).2 = (fdS nb k n []).getD []):=by
 have h:=(zKC nb k n n 0 (List.replicate n 0) [] om sp rfl rfl).2
 cases hf:fdS nb k n [] with
 | none=>rw [hf] at h;exact ⟨h,fun h=>by cases h⟩
 | some l=>rw [hf] at h;exact ⟨h.1,fun _=>h.2⟩
def nbF (gs:List Int) (i j:Nat):Bool:=(nbr gs i).testBit j
theorem zre (gs:List Int) (n:Nat):(zjx gs n).length = n:=by simp [zjx]
theorem zke (gs:List Int) (k n:Nat) (hk:k <= 6) (hn6:n <= 6):∀ (r i:Nat) (c:List Int),i + r = n->c.length = n ->
 AM Tryz.prog 204 [.own 1000000 1,.own 1000001 1,int i,int k] [⟨3,1,iL (zjx gs n)⟩,⟨3,1,iL c⟩] [iL (zjx gs n),iL (cfS (nbF gs) k r i c).2] (.bool (cfS (nbF gs) k r i c).1):=by
 intro r
 induction r with
 | zero =>
   intro i c hr hc
   refine AM.go (rs:=[.tmp 8]) zzS mixed Tryz.func204 rfl rfl rfl kr (zcF (zaU _) (zcF (zaU _) zeI)) (zcE (zaU _) (zcE (zaU _) zeH)) rfl fun hl=>?_
   have hnl:=zre gs n
   refine xg1 hnl ?_
   refine ⟨fun _=>⟨rfl,rfl⟩,fun h=>absurd h (by rw [show (i:Int) = n by omega];simp)⟩
 | succ r ih =>
   intro i c hr hc
   refine AM.go (rs:=[.tmp 8]) zzS mixed Tryz.func204 rfl rfl rfl kr (zcF (zaU _) (zcF (zaU _) zeI)) (zcE (zaU _) (zcE (zaU _) zeH)) rfl fun hl=>?_
   have hnl:=zre gs n
   refine xg1 hnl ?_
   refine ⟨fun h=>absurd (beq_iff_eq.1 h) om,fun _=>?_⟩
   refine zag (fun (za:Nat × List Int) s=>match za with | (x,d)=>(s.sl 0 = .own 1000000 1/\s.rw 1000000 = ⟨1,.sli 3 1 false (iL (zjx gs n))⟩/\s.sl 1 = .own 1000001 1/\s.rw 1000001 = ⟨1,.sli 3 1 false (iL d)⟩/\s.sl 2 = int i/\s.sl 3 = int k/\s.sl 9 = int x)/\(x <= k/\d.length = n/\cfL (fun x c=>okC (nbF gs) i x c i) i (cfS (nbF gs) k r (i + 1)) (k - x) x d = cfS (nbF gs) k (r + 1) i c)) (fun (x,d)=>k - x) ((0,c)) ⟨xc0,⟨Nat.zero_le _,hc,rfl⟩⟩ ?_
   intro (x,d) sa ⟨Ha,hIa⟩
   obtain ⟨hxk,hdl,hcf⟩:=hIa
   refine xg3 Ha hnl hdl ?_
   refine ⟨fun hx=>?_,fun hx=>?_⟩
   ·have hin:i < n:=om
    have hk1:k - x = (k - (x + 1)) + 1:=om
    rw [hk1,cfL] at hcf
    have hat:=zGf (gs:=gs) hin
    have hok0:okC (nbF gs) i x d 0 = true:=rfl
    refine zag (fun (j:Nat) s=>(s.sl 0 = .own 1000000 1/\s.rw 1000000 = ⟨1,.sli 3 1 false (iL (zjx gs n))⟩/\s.sl 1 = .own 1000001 1/\s.rw 1000001 = ⟨1,.sli 3 1 false (iL d)⟩/\s.sl 2 = int i/\s.sl 3 = int k/\s.sl 9 = int x/\s.sl 10 = bool (okC (nbF gs) i x d j)/\s.sl 11 = int j)/\(j <= i)) (fun j=>i - j) (0) ⟨(xc2 Ha hok0),Nat.zero_le _⟩ ?_
    intro j sb ⟨Hb,hIb⟩
    refine xg3 Hb hnl hdl ?_
    refine ⟨fun hj=>?_,fun hj=>?_⟩
    ·have hun:IntKind.u64.wrap (j:Int) = (j:Int):=zaI om
     have hbit:(zdQ .i64 (zpk .i64 ((nbr gs i:Nat):Int) (j:Int)) 1 == 1) = nbF gs i j:=zpp (by have:=zHN gs i;omega) om
     have hsu:=zvM (nbF gs) i x d j
     refine xg6 Hb hnl hdl hun hat hbit ?_
     refine ⟨hin,hin,fun h1=>⟨om,om,fun h2=>?_,fun h2=>?_⟩,fun h1=>?_⟩
     ·have e:okC (nbF gs) i x d (j + 1) = false:=by rw [hsu,h1,decide_eq_true (beq_iff_eq.1 h2)];simp
      exact zab (j + 1) ⟨(xc3 Hb e (zac hj om)),om⟩
     ·have e:okC (nbF gs) i x d (j + 1) = okC (nbF gs) i x d j:=by rw [hsu,h1,decide_eq_false (beq_eq_false_iff_ne.1 h2)];simp
      exact zab (j + 1) ⟨(xc3 Hb e (zac hj om)),om⟩
     ·have e:okC (nbF gs) i x d (j + 1) = okC (nbF gs) i x d j:=by rw [hsu,h1];simp
      exact zab (j + 1) ⟨(xc3 Hb e (zac hj om)),om⟩
    ·have:j = i:=om
     subst this
     refine ⟨fun ho=>?_,fun ho=>?_⟩
     ·have ho:okC (nbF gs) j x d j = false:=by simpa using ho
      rw [if_neg (by rw [ho];decide)] at hcf
      exact zab ((x + 1,d)) ⟨(xc3 Ha Hb (zac hx om)),⟨by dsimp only;omega,hdl,hcf⟩⟩
     ·have ho:okC (nbF gs) j x d j = true:=by simpa using ho
      rw [if_pos ho] at hcf
      have hds:(d.set j (x:Int)).length = n:=by rw [List.length_set];exact hdl
      have hih:=ih (j + 1) (d.set j x) om hds
      have hcl:=zuo (nbF gs) k n r (j + 1) (d.set j x) hds
      have hw:IntKind.i64.wrap ((j:Int) + 1) = ((j + 1:Nat):Int):=zac hin om
      rw [hw]
      refine ⟨hin,hin,zlw hih [(1000000,1),(1000001,1)] (by repeat (first | exact GiveL.nil | refine GiveL.v ?_ | refine GiveL.clo ?_ | refine GiveL.own 0 rfl ?_ | refine GiveL.own 1 rfl ?_ | refine GiveL.ag ?_ ?_)) ⟨by simp -dsimp only [gr,simprocAttr,Hb],by simp -dsimp only [gr,simprocAttr,Hb],trivial⟩ (by decide) ?_⟩
      refine xg1 Hb ?_
      refine ⟨fun hb=>?_,fun hb=>?_⟩
      ·rw [if_pos hb] at hcf
       rw [<- hcf,hb]
       exact ⟨rfl,rfl⟩
      ·rw [if_neg (by rw [hb];decide)] at hcf
       exact zab ((x + 1,(cfS (nbF gs) k r (j + 1) (d.set j (x:Int))).2)) ⟨(xc3 Ha Hb (zac hx om)),⟨by dsimp only;omega,hcl,hcf⟩⟩
   ·have e:k - x = 0:=om
    rw [e,cfL] at hcf
    rw [<- hcf]
    exact ⟨rfl,rfl⟩
def nbC (xs:List Int) (i j:Nat):Bool:=zah xs (2 ^ i + 2 ^ j)
noncomputable def fcO (n:Int) (xs:List Int) (k:Int):Option (List Int):=if zaC n xs = true/\(1 <= k/\k <= 6) then fdS (nbC xs) k.toNat n.toNat [] else none
theorem zKB {nb nb':Nat->Nat->Bool} {i x m:Nat} (h:∀ j,j < m->nb i j = nb' i j) (c:List Int):okC nb i x c m = okC nb' i x c m:=by
 unfold okC
 refine Bool.eq_iff_iff.2 ?_
 rw [List.all_eq_true,List.all_eq_true]
 refine forall_congr' fun j=>⟨fun hh hj=>?_,fun hh hj=>?_⟩
 ·rw [<- h j (List.mem_range.1 hj)];exact hh hj
 ·rw [h j (List.mem_range.1 hj)];exact hh hj
theorem zrf {ok ok':Nat->Bool} {g g':Nat->Option (List Int)} (h1:∀ x,ok x = ok' x) (h2:∀ x,g x = g' x):∀ m x,fdL ok g m x = fdL ok' g' m x
 | 0,_=>rfl
 | m + 1,x=>by rw [fdL,fdL,h1,h2,zrf h1 h2 m (x + 1)]
theorem zGE {nb nb':Nat->Nat->Bool} {n:Nat} (k:Nat) (h:∀ i j,i < n->j < i->nb i j = nb' i j):∀ (r:Nat) (head:List Int),head.length + r = n->fdS nb k r head = fdS nb' k r head
 | 0,_,_=>rfl
 | r + 1,head,hr=>by
   rw [fdS,fdS]
   exact zrf (fun x=>zKB (fun j hj=>h _ j om hj) head) (fun x=>zGE k h r _ (by rw [List.length_append,List.length_singleton];omega)) k 0
theorem zIk:∀ s,s < 64->∀ i,i < 6->∀ j,j < 6->(!(zar s == 2) || !s.testBit i || !s.testBit j || !decide (i ≠ j) || (s == 2 ^ i + 2 ^ j)) = true:=by decide +kernel
theorem zIl:∀ i,i < 6->∀ j,j < 6->(!decide (i ≠ j) || (decide (2 ^ i + 2 ^ j < 64) && (zar (2 ^ i + 2 ^ j) == 2) && (2 ^ i + 2 ^ j).testBit i && (2 ^ i + 2 ^ j).testBit j)) = true:=by decide +kernel
theorem zNn {m:Nat} {xs:List Int} (hcx:zaC (m:Int) xs = true) (h6:m <= 6) {i j:Nat} (hi:i < m) (hj:j < i):nbF (goL m xs) i j = nbC xs i j:=by
 have e:goL (m:Int) xs = ofN (zaR (zah xs) 2 64):=if_pos hcx
 have hx:∀ x ∈ goL (m:Int) xs,x.toNat < 64:=fun x hx=>by
  rw [e] at hx
  unfold ofN at hx
  obtain ⟨s,hs,rfl⟩:=List.mem_map.1 hx
  simpa using (zcp.1 hs).1
 unfold nbF nbC
 rw [zu5 _ _ _ hx,e,Bool.eq_iff_iff]
 unfold adj
 rw [List.any_eq_true]
 have hp:=zIl i om j om
 constructor
 ·rintro ⟨x,hx,h⟩
  unfold ofN at hx
  obtain ⟨s,hs,rfl⟩:=List.mem_map.1 hx
  obtain ⟨s1,s2,s3⟩:=zcp.1 hs
  rw [Int.toNat_natCast,Bool.and_eq_true,Bool.and_eq_true] at h
  have:=zIk s s1 i om j om
  rw [s3,h.1,h.2.1,decide_eq_true (show i ≠ j by omega)] at this
  rw [<- show s = 2 ^ i + 2 ^ j by simpa using this]
  exact s2
 ·intro h
  rw [show decide (i ≠ j) = true from decide_eq_true om] at hp
  obtain ⟨⟨⟨p1,p2⟩,p3⟩,p4⟩:((2 ^ i + 2 ^ j < 64/\zar (2 ^ i + 2 ^ j) = 2)/\(2 ^ i + 2 ^ j).testBit i = true)/\(2 ^ i + 2 ^ j).testBit j = true:=by simpa using hp
  refine ⟨((2 ^ i + 2 ^ j:Nat):Int),List.mem_map.2 ⟨_,zcp.2 ⟨p1,h,p2⟩,rfl⟩,?_⟩
  rw [Int.toNat_natCast,p3,p4,decide_eq_true (show i ≠ j by omega)];rfl
theorem zgW (n:Int) (xs:List Int) (k:Int):AC Tryz.prog 179 [.ag [int n,zaz xs],int k] (.tup [.fr 3 1 (iL ((fcO n xs k).getD [])),.im (bool (fcO n xs k).isSome)]):=by
 refine xac [.tmp 4,.tmp 5] Tryz.func179 fun hl=>?_
 refine xg0 ?_
 refine zaa (znA n xs) ?_
 refine xg0 ?_
 have hno:¬ (zaC n xs = true/\(1 <= k/\k <= 6))->[] = iL ((fcO n xs k).getD [])/\(fcO n xs k).isSome = false:=fun h=>by
  rw [show fcO n xs k = none from if_neg h];exact ⟨rfl,rfl⟩
 refine ⟨fun hc=>⟨fun h1=>⟨fun h6=>hno fun h=>om,fun h6=>?_⟩,fun h1=>hno fun h=>om⟩,fun hc=>hno fun h=>by rw [h.1] at hc;cases hc⟩
 have hcx:zaC n xs = true:=by simpa using hc
 have hp:=zaK.1 hcx
 obtain ⟨m,rfl⟩:∃ m:Nat,n = m:=⟨n.toNat,by have:=hp.1;omega⟩
 obtain ⟨q,rfl⟩:∃ q:Nat,k = q:=⟨k.toNat,om⟩
 have hm6:m <= 6:=by have:=hp.2.1;omega
 have e1:goN (m:Int) xs = (m:Int):=if_pos hcx
 have e2:fcO (m:Int) xs q = fdS (nbF (goL m xs)) q m []:=by
  unfold fcO
  rw [if_pos ⟨hcx,om,om⟩,Int.toNat_natCast,Int.toNat_natCast]
  exact (zGE (n:=m) q (fun i j hi hj=>zNn hcx hm6 hi hj) m [] sp).symm
 have hgs:∀ x ∈ goL (m:Int) xs,0 <= x/\x < 64:=fun x hx=>by
  rw [show goL (m:Int) xs = ofN (zaR (zah xs) 2 64) from if_pos hcx] at hx
  unfold ofN at hx
  obtain ⟨s,hs,rfl⟩:=List.mem_map.1 hx
  have:=(zcp.1 hs).1
  omega
 rw [e1,e2]
 obtain ⟨t1,t2⟩:=zKD (nbF (goL (m:Int) xs)) q m
 refine ⟨om,om,om,zaa (ziP m hm6 _ hgs) ?_⟩
 have hcol:=zke (goL (m:Int) xs) q m om hm6 m 0 (List.replicate m 0) om sp
 generalize goL (m:Int) xs = gs at *
 refine xg0 ?_
 rw [t1] at hcol
 refine zlw hcol [(28,1),(26,1)] (by repeat (first | exact GiveL.nil | refine GiveL.v ?_ | refine GiveL.clo ?_ | refine GiveL.own 0 rfl ?_ | refine GiveL.own 1 rfl ?_ | refine GiveL.ag ?_ ?_)) ⟨by simp -dsimp only [gr,simprocAttr] <;> rfl,by simp -dsimp only [gr,simprocAttr] <;> rfl,trivial⟩ (by decide) ?_
 refine xg0 ?_
 refine ⟨fun hb=>?_,fun hb=>?_⟩
 ·cases ho:fdS (nbF gs) q m [] with
  | none=>exact ⟨rfl,rfl⟩
  | some l=>rw [ho] at hb;cases hb
 ·have hb:(fdS (nbF gs) q m []).isSome = true:=by simpa using hb
  rw [t2 hb];exact ⟨rfl,hb⟩
theorem znz (m:Nat) (xs:List Int) (k:Nat) (hcx:zaC (m:Int) xs = true) (hk:k <= 6):∀ (r:Nat) (head:List Int),head.length + r = m ->
 AF Tryz.prog 207 [.ag [int m,zaz xs],int k] (iL head) 3 (iL ((fdS (nbC xs) k r head).getD [])) (fdS (nbC xs) k r head).isSome:=by
 have hm6:m <= 6:=by have:=(zaK.1 hcx).2.1;omega
 have hok:=zcb hcx
 intro r
 induction r with
 | zero =>
   intro head hh
   unfold AF
   refine xag [.tmp 6,.tmp 7] Tryz.func207 fun hl hrl z hz hr=>?_
   have z0:z.sl 0 = .ag [int m,zaz xs]:=by rw [hz];rfl
   have z1:z.sl 1 = int k:=by rw [hz];rfl
   have z2:z.sl 2 = .own 1000000 1:=by rw [hz];rfl
   have y0:z.rw 1000000 = ⟨1,.sli 3 1 false (iL head)⟩:=by rw [hr,zf8]
   have yl:∀ j,j < 1000000->z.rw j = ⟨0,.dead⟩:=fun j hj=>by rw [hr,zmd _ _ om]
   clear hz hr
   refine xg5 z0 z1 z2 y0 yl ?_
   refine ⟨fun _=>⟨1000000,1,.inl rfl,rfl,by simp -dsimp only [gr,simprocAttr,y0];rfl⟩,fun h=>?_⟩
   rw [beq_eq_false_iff_ne] at h
   exact absurd om h
 | succ r ih =>
   intro head hh
   unfold AF
   refine xag [.tmp 6,.tmp 7] Tryz.func207 fun hl hrl z hz hr=>?_
   have z0:z.sl 0 = .ag [int m,zaz xs]:=by rw [hz];rfl
   have z1:z.sl 1 = int k:=by rw [hz];rfl
   have z2:z.sl 2 = .own 1000000 1:=by rw [hz];rfl
   have y0:z.rw 1000000 = ⟨1,.sli 3 1 false (iL head)⟩:=by rw [hr,zf8]
   have yl:∀ j,j < 1000000->z.rw j = ⟨0,.dead⟩:=fun j hj=>by rw [hr,zmd _ _ om]
   clear hz hr
   refine xg5 z0 z1 z2 y0 yl ?_
   have hne:((head.length:Int) == (m:Int)) = false:=by rw [beq_eq_false_iff_ne];omega
   refine ⟨fun h=>absurd (hne.symm.trans h) (by decide),fun _=>?_⟩
   refine zag (fun (x:Nat) s=>(s.sl 1 = int k/\s.sl 2 = .own 1000000 1/\s.rw 1000000 = ⟨1,.sli 3 1 false (iL head)⟩/\s.sl 3 = .ref 3 1 0/\s.rw 3 = ⟨1,.box 27 [int m,zaz xs]⟩/\s.sl 8 = int head.length/\s.sl 9 = int x)/\(x <= k/\fdL (fun x=>okC (nbC xs) head.length x head head.length) (fun x=>fdS (nbC xs) k r (head ++ [(x:Int)])) (k - x) x = fdS (nbC xs) k (r + 1) head)) (fun x=>k - x) (0) ⟨(xc5 z0 z1 z2 y0 yl),⟨Nat.zero_le _,rfl⟩⟩ ?_
   intro x sa ⟨Ha,hIa⟩
   obtain ⟨hxk,hfd⟩:=hIa
   refine xg1 Ha ?_
   refine ⟨fun hx=>?_,fun hx=>?_⟩
   ·rw [show k - x = (k - (x + 1)) + 1 by omega,fdL] at hfd
    have hok0:okC (nbC xs) head.length x head 0 = true:=rfl
    refine zag (fun (j:Nat) s=>(s.sl 1 = int k/\s.sl 2 = .own 1000000 1/\s.rw 1000000 = ⟨1,.sli 3 1 false (iL head)⟩/\s.sl 3 = .ref 3 1 0/\s.rw 3 = ⟨1,.box 27 [int m,zaz xs]⟩/\s.sl 8 = int head.length/\s.sl 9 = int x/\s.sl 10 = bool (okC (nbC xs) head.length x head j)/\s.sl 11 = int j)/\(j <= head.length)) (fun j=>head.length - j) (0) ⟨(xc2 Ha hok0),Nat.zero_le _⟩ ?_
    intro j sb ⟨Hb,hIb⟩
    refine xg1 Hb ?_
    refine ⟨fun hj=>?_,fun hj=>?_⟩
    ·have hsu:=zvM (nbC xs) head.length x head j
     have hun:IntKind.u64.wrap (j:Int) = (j:Int):=zaI om
     have hun2:IntKind.u64.wrap (head.length:Int) = (head.length:Int):=zaI om
     have hp1:2 ^ j <= 2 ^ 4:=Nat.pow_le_pow_right (by decide) om
     have hp2:2 ^ head.length <= 2 ^ 5:=Nat.pow_le_pow_right (by decide) om
     have hsh:zg1 .i64 1 (j:Int) = ((2 ^ j:Nat):Int):=zaW om
     have hsh2:zg1 .i64 1 (head.length:Int) = ((2 ^ head.length:Nat):Int):=zaW om
     have hw:IntKind.i64.wrap (((2 ^ head.length:Nat):Int) + ((2 ^ j:Nat):Int)) = ((2 ^ head.length + 2 ^ j:Nat):Int):=by
      clear hsh hsh2 hsu
      generalize 2 ^ j = a at *
      generalize 2 ^ head.length = b at *
      rw [zai om om];omega
     refine xg6 Hb hun hun2 hsh hsh2 hw ?_
     have h64:2 ^ head.length + 2 ^ j < 64:=by
      clear hsh hsh2 hw hsu
      generalize 2 ^ j = a at *
      generalize 2 ^ head.length = b at *
      omega
     refine ⟨fun h1=>⟨hj,hj,fun h2=>zaa (zdv m xs _ hok h64) ?_,fun h2=>?_⟩,fun h1=>?_⟩
     ·have e:okC (nbC xs) head.length x head (j + 1) = !zah xs (2 ^ head.length + 2 ^ j):=by
       rw [hsu,h1,decide_eq_true (show head.getD j 0 = (x:Int) by simpa using h2),Bool.true_and,Bool.and_true];rfl
      refine xg1 Hb ?_
      exact zab (j + 1) ⟨(xc3 Hb e (zac hj om)),om⟩
     ·have e:okC (nbC xs) head.length x head (j + 1) = true:=by
       rw [hsu,h1,decide_eq_false (show ¬ head.getD j 0 = (x:Int) from bne_iff_ne.1 h2)];simp
      exact zab (j + 1) ⟨(xc3 Hb e (zac hj om)),om⟩
     ·have e:okC (nbC xs) head.length x head (j + 1) = false:=by rw [hsu,h1];rfl
      exact zab (j + 1) ⟨(xc3 Hb e (zac hj om)),om⟩
    ·have hjl:j = head.length:=om
     refine ⟨fun ho=>?_,fun ho=>?_⟩
     ·have ho:okC (nbC xs) head.length x head head.length = false:=by rw [hjl] at ho;simpa using ho
      rw [if_neg (by rw [ho];decide)] at hfd
      exact zab (x + 1) ⟨(xc3 Ha Hb (zac hx om)),⟨om,hfd⟩⟩
     ·have ho:okC (nbC xs) head.length x head head.length = true:=by rw [hjl] at ho;simpa using ho
      rw [if_pos ho] at hfd
      have hIH:=ih (head ++ [(x:Int)]) (by rw [List.length_append,List.length_singleton];omega)
      refine ⟨kr,om,om,zwO hIH (fun _ _ _ _=>.ag (.one (.v _) (.one (.sl _ _ _) .nil)) (.one (.v _) .nil)) rfl (by simp -dsimp only [gr,simprocAttr];rw [show iL (head ++ [(x:Int)]) = iL head ++ iL [(x:Int)] from by simp [iL]] <;> rfl) (zaU _) (by decide) (by decide) ?_⟩
      refine xg1 Hb ?_
      refine ⟨kr,fun hs=>?_,fun hs=>?_⟩
      ·obtain ⟨l,hl2⟩:=Option.isSome_iff_exists.1 hs
       rw [hl2] at hfd
       rw [<- hfd,hl2]
       exact ⟨64,_,.inr (by decide),rfl,by simp -dsimp only [gr,simprocAttr]⟩
      ·have e0:fdS (nbC xs) k r (head ++ [(x:Int)]) = none:=by
        cases hx2:fdS (nbC xs) k r (head ++ [(x:Int)]) with
        | none=>rfl
        | some l=>rw [hx2] at hs;cases hs
       rw [e0] at hfd
       exact zab (x + 1) ⟨(xc3 Ha Hb (zac hx om)),⟨om,hfd⟩⟩
   ·rw [show k - x = 0 by omega,fdL] at hfd
    rw [<- hfd]
    exact ⟨69,_,.inr (by decide),rfl,by simp -dsimp only [gr,simprocAttr];rfl⟩
theorem zgV (n:Int) (xs:List Int) (k:Int):AC Tryz.prog 183 [.ag [int n,zaz xs],int k] (.tup [.fr 3 1 (iL ((fcO n xs k).getD [])),.im (bool (fcO n xs k).isSome)]):=by
 refine xac [.tmp 4,.tmp 5] Tryz.func183 fun hl=>?_
 refine xg0 ?_
 refine zaa (zat n xs) ?_
 refine xg0 ?_
 have hno:¬ (zaC n xs = true/\(1 <= k/\k <= 6))->[] = iL ((fcO n xs k).getD [])/\(fcO n xs k).isSome = false:=fun h=>by
  rw [show fcO n xs k = none from if_neg h];exact ⟨rfl,rfl⟩
 refine ⟨fun hc=>zaa (zbC _ _ _) ?_,fun hc=>hno fun h=>by rw [h.1] at hc;cases hc⟩
 refine xg0 ?_
 refine ⟨fun h=>(hno fun h2=>by rw [decide_eq_true h2.2.1,decide_eq_true h2.2.2] at h;cases h),fun h=>?_⟩
 have hcx:zaC n xs = true:=by simpa using hc
 have hk:1 <= k/\k <= 6:=by simpa using h
 have hp:=zaK.1 hcx
 obtain ⟨m,rfl⟩:∃ m:Nat,n = m:=⟨n.toNat,by have:=hp.1;omega⟩
 obtain ⟨q,rfl⟩:∃ q:Nat,k = q:=⟨k.toNat,om⟩
 have e2:fcO (m:Int) xs q = fdS (nbC xs) q m []:=by
  unfold fcO
  rw [if_pos ⟨hcx,hk⟩,Int.toNat_natCast,Int.toNat_natCast]
 rw [e2]
 have hF:=znz m xs q hcx om m [] sp
 generalize fdS (nbC xs) q m [] = o at *
 refine zC7 hF (fun _ _=>.ag (.one (.v _) (.one (.sl _ _ _) .nil)) (.one (.v _) .nil)) rfl (by simp -dsimp only [gr,simprocAttr];rfl) (zaU _) (by decide) fun S v2 r hr hSd hSr hSs hSrw=>?_
 rcases hr with rfl | rfl
 ·exact xd2 hSd hSr
 ·exact xd2 hSd hSr
theorem zlj (n:Int) (xs:List Int):-2 <= zdC n xs/\zdC n xs <= 5:=by
 by_cases hF:zj4 n xs = true
 ·have:=zm4 hF;have:=zbp (zah xs);omega
 ·rw [show zdC n xs = -2 from if_neg hF];omega
noncomputable def lcF (n:Int) (xs:List Int):Nat->Int->Int
 | 0,_=>0
 | m + 1,k=>if (fcO n xs k).isSome = true then k else lcF n xs m (k + 1)
theorem zhS (n:Int) (xs:List Int):AC Tryz.prog 133 [.ag [int n,zaz xs]] (.im (int (lcF n xs 6 1))):=by
 refine xac [.tmp 2] Tryz.func133 fun hl=>?_
 refine xg0 ?_
 refine zag (fun (k:Nat) s=>(s.sl 1 = .ref 1 1 0/\s.rw 1 = ⟨1,.box 27 [int n,zaz xs]⟩/\s.sl 3 = int ((k:Int) + 1))/\(k <= 6/\lcF n xs (6 - k) ((k:Int) + 1) = lcF n xs 6 1)) (fun k=>6 - k) (0) ⟨xc0,⟨Nat.zero_le _,rfl⟩⟩ ?_
 intro k sa ⟨Ha,hIa⟩
 obtain ⟨hk,hlc⟩:=hIa
 refine xg1 Ha ?_
 refine ⟨fun h=>?_,fun h=>?_⟩
 ·rw [show 6 - k = (6 - (k + 1)) + 1 by omega,lcF] at hlc
  refine zaa (zgW n xs _) ?_
  refine xg1 Ha ?_
  refine ⟨fun hs=>?_,fun hs=>?_⟩
  ·rw [if_pos hs] at hlc;exact hlc.symm
  ·rw [if_neg (by rw [hs];decide)] at hlc
   have hw:IntKind.i64.wrap ((k:Int) + 1 + 1) = ((k + 1:Nat):Int) + 1:=by rw [zai om om];omega
   have hlc2:lcF n xs (6 - (k + 1)) (((k + 1:Nat):Int) + 1) = lcF n xs 6 1:=by rw [<- hlc];congr 1
   exact zab (k + 1) ⟨(xc2 Ha hw),⟨om,hlc2⟩⟩
 ·rw [show 6 - k = 0 by omega,lcF] at hlc
  rw [<- hlc]
theorem zhT (n:Int) (xs:List Int):AC Tryz.prog 137 [.ag [int n,zaz xs]] (.im (int (lcF n xs 6 1))):=by
 refine xac [.tmp 2] Tryz.func137 fun hl=>?_
 refine xg0 ?_
 refine zag (fun (k:Nat) s=>(s.sl 1 = .ref 1 1 0/\s.rw 1 = ⟨1,.box 27 [int n,zaz xs]⟩/\s.sl 3 = int ((k:Int) + 1))/\(k <= 6/\lcF n xs (6 - k) ((k:Int) + 1) = lcF n xs 6 1)) (fun k=>6 - k) (0) ⟨xc0,⟨Nat.zero_le _,rfl⟩⟩ ?_
 intro k sa ⟨Ha,hIa⟩
 obtain ⟨hk,hlc⟩:=hIa
 refine xg1 Ha ?_
 refine ⟨fun h=>?_,fun h=>?_⟩
 ·rw [show 6 - k = (6 - (k + 1)) + 1 by omega,lcF] at hlc
  refine zaa (zgV n xs _) ?_
  refine xg1 Ha ?_
  refine ⟨fun hs=>?_,fun hs=>?_⟩
  ·rw [if_pos hs] at hlc;exact hlc.symm
  ·rw [if_neg (by rw [hs];decide)] at hlc
   have hw:IntKind.i64.wrap ((k:Int) + 1 + 1) = ((k + 1:Nat):Int) + 1:=by rw [zai om om];omega
   have hlc2:lcF n xs (6 - (k + 1)) (((k + 1:Nat):Int) + 1) = lcF n xs 6 1:=by rw [<- hlc];congr 1
   exact zab (k + 1) ⟨(xc2 Ha hw),⟨om,hlc2⟩⟩
 ·rw [show 6 - k = 0 by omega,lcF] at hlc
  rw [<- hlc]
noncomputable def zEW (n:Int) (xs:List Int):Bool:=zj4 n xs && decide (lcF n xs 6 1 = max (zdC n xs + 1) 1)
theorem zi1 (n:Int) (xs:List Int):AC Tryz.prog 70 [.ag [int n,zaz xs]] (.im (bool (zEW n xs))):=by
 refine xac [.tmp 2] Tryz.func70 fun hl=>?_
 refine xg0 ?_
 refine zaa (zao n xs) ?_
 refine xg0 ?_
 unfold zEW
 refine ⟨fun hc=>⟨fun h0=>?_,fun h0=>⟨kr,zaa (zhS n xs) ?_⟩⟩,fun hc=>?_⟩
 ·rw [show zj4 n xs = false from Bool.eq_false_iff.2 fun h=>by have:=(zbF.1 h).2;have:=beq_iff_eq.1 h0;omega];rfl
 ·have hF:zj4 n xs = true:=zbF.2 ⟨by simpa using hc,Nat.pos_of_ne_zero fun e=>by rw [e] at h0;cases h0⟩
  rw [hF,Bool.true_and]
  have hd:=zlj n xs
  have hw:IntKind.i64.wrap (zdC n xs + 1) = zdC n xs + 1:=zai om om
  refine xg0 ?_
  refine zaa (zdp n xs) ?_
  refine xg1 hw ?_
  first
   | done
   | (rw [Bool.eq_iff_iff,decide_eq_true_iff,beq_iff_eq]
      split <;> omega)
   | trace_state
 ·rw [show zj4 n xs = false from Bool.eq_false_iff.2 fun h=>by have:=(zbF.1 h).1;rw [this] at hc;cases hc];rfl
theorem zi2 (n:Int) (xs:List Int):AC Tryz.prog 78 [.ag [int n,zaz xs]] (.im (bool (zEW n xs))):=by
 refine xac [.tmp 2] Tryz.func78 fun hl=>?_
 refine xg0 ?_
 refine ⟨kr,zaa (zbQ n xs) ?_⟩
 refine xg0 ?_
 unfold zEW
 refine ⟨fun h=>zaa (zhT n xs) ?_,fun h=>?_⟩
 ·have hF:zj4 n xs = true:=Classical.byContradiction fun hc=>by rw [show zdC n xs = -2 from if_neg hc] at h;omega
  rw [hF,Bool.true_and]
  have hd:=zlj n xs
  have hw:IntKind.i64.wrap (zdC n xs + 1) = zdC n xs + 1:=zai om om
  refine xg0 ?_
  refine zaa (zbQ n xs) ?_
  refine xg1 hw ?_
  refine zaa (zrh _ _) ?_
  refine xg1 hw ?_
  first
   | done
   | (rw [Bool.eq_iff_iff,decide_eq_true_iff,beq_iff_eq]
      omega)
   | trace_state
 ·rw [show zj4 n xs = false from Bool.eq_false_iff.2 fun hF=>by have:=zm4 hF;obtain ⟨_,_,_,_,_,h0,_⟩:=zk9 hF;have e1:0 < zbd (zah xs):=(by have:=zfj 64 0 (by decide) h0;unfold zbd;omega);omega];rfl
theorem zEl {f:Nat->Bool} {l1 l2:List Nat} {s:Nat} (h:za4 f = l1 ++ s :: l2):(∃ t,t ∈ l2/\s &&& t = s) ↔ zdR f true s = false:=by
 have hpw:=zmM f
 rw [h,List.pairwise_append] at hpw
 have hp2:=List.pairwise_cons.1 hpw.2.1
 have hs:s < 64/\f s = true:=zaO.1 (by rw [h];simp)
 constructor
 ·rintro ⟨t,ht,hst⟩
  have hm:t < 64/\f t = true:=zaO.1 (by rw [h];simp [ht])
  cases hx:zdR f true s with
  | false=>rfl
  | true =>
    have:=zdu.1 hx t hm.1 hm.2 hst
    subst this
    exact absurd (hp2.1 t ht) zff
 ·intro hx
  have:¬ ∀ t,t < 64->f t = true->s &&& t = s->t = s:=fun h=>by rw [zdu.2 h] at hx;cases hx
  obtain ⟨t,ht⟩:=Classical.not_forall.1 this
  have h1:t < 64:=Classical.byContradiction fun h=>ht fun h2=>absurd h2 h
  have h2:f t = true:=Classical.byContradiction fun h=>ht fun _ h2=>absurd h2 h
  have h3:s &&& t = s:=Classical.byContradiction fun h=>ht fun _ _ h2=>absurd h2 h
  have h4:t ≠ s:=fun e=>ht fun _ _ _=>e
  have hlt:=zgm h1 hs.1 h3 (Ne.symm h4)
  have hm:t ∈ l1 ++ s :: l2:=h ▸ zaO.2 ⟨h1,h2⟩
  rcases List.mem_append.1 hm with hm | hm
  ·have:=hpw.2.2 t hm s sp
   unfold zuf at this
   omega
  ·rcases List.mem_cons.1 hm with hm | hm
   ·exact absurd hm h4
   ·exact ⟨t,hm,h3⟩
theorem zcD (G:Nat) (hG:G < 18446744073709551616):AC Tryz.prog 166 [u64 G] (.fr 3 1 (iL (ofN (zcK G.testBit true)))):=by
 refine xac [.tmp 2] Tryz.func166 fun hl=>?_
 refine xg0 ?_
 refine zaa (zdL G hG) ?_
 refine xg1 @zad ?_
 have hfull:=zca G.testBit
 have hmem:∀ k,k < (za4 G.testBit).length->(za4 G.testBit).getD k 0 < 64:=fun k hk=>(zaO.1 (zaj 0 hk)).1
 have hmax:∀ k,k < (za4 G.testBit).length->((∃ t,t ∈ (za4 G.testBit).drop (k + 1)/\(za4 G.testBit).getD k 0 &&& t = (za4 G.testBit).getD k 0) ↔ zdR G.testBit true ((za4 G.testBit).getD k 0) = false):=fun k hk=>zEl (zya hk)
 unfold zcK
 generalize za4 G.testBit = all at *
 refine zag (fun (za:Nat × Nat × Bool) s=>match za with | (k,v,fz)=>(s.sl 3 = .own 11 1/\s.rw 11 = ⟨1,.sli 3 1 fz (iL (ofN all))⟩/\s.sl 4 = .own 4 v/\s.rw 4 = ⟨v,.sli 3 1 false (iL (ofN ((all.take k).filter (zdR G.testBit true))))⟩/\s.sl 12 = .own 11 1/\s.sl 13 = int all.length/\s.sl 14 = int k)/\(k <= all.length)) (fun (k,v,fz)=>all.length - k) ((0,1,false)) ⟨(xc1 @zad),sp⟩ ?_
 intro (k,v,fz) sa ⟨Ha,hIa⟩
 have hflen:((all.take k).filter (zdR G.testBit true)).length <= k:=Nat.le_trans zqG (by simp;omega)
 by_cases hk:k < all.length
 ·have hs:=hmem k hk
  have hge:(ofN all).getD k 0 = ((all.getD k 0:Nat):Int):=zay hk
  have hwk:=zac hk om
  have hdrop:∀ j,j < (all.drop (k + 1)).length->((all.drop (k + 1)).getD j 0) < 64/\(ofN (all.drop (k + 1))).getD j 0 = (((all.drop (k + 1)).getD j 0:Nat):Int):=fun j hj=>⟨by
   have hm:=List.mem_of_mem_drop (zaj 0 hj)
   obtain ⟨i,hi,e⟩:=zaV 0 hm
   rw [<- e];exact hmem i hi,zay hj⟩
  have hdl:(all.drop (k + 1)).length <= 448:=by simp;omega
  have hsub:∀ j,j < (all.drop (k + 1)).length->(zb8 .i64 (all.getD k 0:Nat) ((ofN (all.drop (k + 1))).getD j 0) = 0 ↔ all.getD k 0 &&& (all.drop (k + 1)).getD j 0 = all.getD k 0):=fun j hj=>by
   have hd:=hdrop j hj
   rw [hd.2,zbj om om,<- zbP]
   omega
  have hofd:(ofN all).drop (k + 1) = ofN (all.drop (k + 1)):=by unfold ofN;rw [List.map_drop]
  have hmk:=hmax k hk
  have hyes:zdR G.testBit true (all.getD k 0) = true->ofN ((all.take (k + 1)).filter (zdR G.testBit true)) = ofN ((all.take k).filter (zdR G.testBit true)) ++ [((all.getD k 0:Nat):Int)]:=fun h=>by rw [ziB hk h,zaD,zdd]
  have hno:zdR G.testBit true (all.getD k 0) = false->ofN ((all.take (k + 1)).filter (zdR G.testBit true)) = ofN ((all.take k).filter (zdR G.testBit true)):=fun h=>by rw [zmW hk h]
  cases fz with
  | false =>
    refine xg6 Ha @zad hge hwk @Int.toNat_natCast hofd ?_
    refine ⟨fun _=>⟨hk,hk,om,?_⟩,fun h=>absurd hk h⟩
    refine zag (fun (j:Nat) s=>(s.sl 3 = .own 11 1/\s.rw 11 = ⟨1,.sli 3 1 true (iL (ofN all))⟩/\s.sl 4 = .own 4 v/\s.rw 4 = ⟨v,.sli 3 1 false (iL (ofN ((all.take k).filter (zdR G.testBit true))))⟩/\s.sl 12 = .own 11 1/\s.sl 13 = int all.length/\s.sl 14 = int k/\s.sl 6 = int (all.getD k 0:Nat)/\s.sl 7 = .v (.bool false)/\s.sl 22 = .sl true 1 (iL (ofN (all.drop (k + 1))))/\s.sl 23 = int (all.drop (k + 1)).length/\s.sl 24 = int j)/\(j <= (all.drop (k + 1)).length/\∀ i,i < j->all.getD k 0 &&& (all.drop (k + 1)).getD i 0 ≠ all.getD k 0)) (fun j=>(all.drop (k + 1)).length - j) (0) ⟨(xc5 Ha @zad hge hwk hofd),sp⟩ ?_
    intro j sb ⟨Hb,hIb⟩
    obtain ⟨hj,hall⟩:=hIb
    refine xg4 Hb @zad hge hwk ?_
    refine ⟨fun h2=>⟨h2,h2,fun he=>?_,fun he=>?_⟩,fun h2=>?_⟩
    ·have hm:=(hsub j h2).1 (by simpa using he)
     have hx:=hmk.1 ⟨_,zaj 0 h2,hm⟩
     have e:=hno hx
     exact zab ((k + 1,v,true)) ⟨(xc4 Ha Hb hwk e),by dsimp only;omega⟩
    ·have hm:¬ all.getD k 0 &&& (all.drop (k + 1)).getD j 0 = all.getD k 0:=fun h=>by rw [(hsub j h2).2 h] at he;simp at he
     have hw2:=zac h2 om
     have hall2:∀ i,i < j + 1->all.getD k 0 &&& (all.drop (k + 1)).getD i 0 ≠ all.getD k 0:=fun i hi=>by
      rcases Nat.lt_succ_iff_lt_or_eq.1 hi with hi | rfl
      ·exact hall i hi
      ·exact hm
     exact zab (j + 1) ⟨(xc2 Hb hw2),⟨om,hall2⟩⟩
    ·have hx:zdR G.testBit true (all.getD k 0) = true:=by
      cases hb:zdR G.testBit true (all.getD k 0) with
      | true=>rfl
      | false =>
        obtain ⟨t,ht,hst⟩:=hmk.2 hb
        obtain ⟨i,hi,rfl⟩:=zaV 0 ht
        exact absurd hst (hall i om)
     have e:=hyes hx
     exact ⟨om,zab ((k + 1,v + 1,true)) ⟨(xc4 Ha Hb hwk e),by dsimp only;omega⟩⟩
  | true =>
    refine xg6 Ha @zad hge hwk @Int.toNat_natCast hofd ?_
    refine ⟨fun _=>⟨hk,hk,om,?_⟩,fun h=>absurd hk h⟩
    refine zag (fun (j:Nat) s=>(s.sl 3 = .own 11 1/\s.rw 11 = ⟨1,.sli 3 1 true (iL (ofN all))⟩/\s.sl 4 = .own 4 v/\s.rw 4 = ⟨v,.sli 3 1 false (iL (ofN ((all.take k).filter (zdR G.testBit true))))⟩/\s.sl 12 = .own 11 1/\s.sl 13 = int all.length/\s.sl 14 = int k/\s.sl 6 = int (all.getD k 0:Nat)/\s.sl 7 = .v (.bool false)/\s.sl 22 = .sl true 1 (iL (ofN (all.drop (k + 1))))/\s.sl 23 = int (all.drop (k + 1)).length/\s.sl 24 = int j)/\(j <= (all.drop (k + 1)).length/\∀ i,i < j->all.getD k 0 &&& (all.drop (k + 1)).getD i 0 ≠ all.getD k 0)) (fun j=>(all.drop (k + 1)).length - j) (0) ⟨(xc5 Ha @zad hge hwk hofd),sp⟩ ?_
    intro j sb ⟨Hb,hIb⟩
    obtain ⟨hj,hall⟩:=hIb
    refine xg4 Hb @zad hge hwk ?_
    refine ⟨fun h2=>⟨h2,h2,fun he=>?_,fun he=>?_⟩,fun h2=>?_⟩
    ·have hm:=(hsub j h2).1 (by simpa using he)
     have hx:=hmk.1 ⟨_,zaj 0 h2,hm⟩
     have e:=hno hx
     exact zab ((k + 1,v,true)) ⟨(xc4 Ha Hb hwk e),by dsimp only;omega⟩
    ·have hm:¬ all.getD k 0 &&& (all.drop (k + 1)).getD j 0 = all.getD k 0:=fun h=>by rw [(hsub j h2).2 h] at he;simp at he
     have hw2:=zac h2 om
     have hall2:∀ i,i < j + 1->all.getD k 0 &&& (all.drop (k + 1)).getD i 0 ≠ all.getD k 0:=fun i hi=>by
      rcases Nat.lt_succ_iff_lt_or_eq.1 hi with hi | rfl
      ·exact hall i hi
      ·exact hm
     exact zab (j + 1) ⟨(xc2 Hb hw2),⟨om,hall2⟩⟩
    ·have hx:zdR G.testBit true (all.getD k 0) = true:=by
      cases hb:zdR G.testBit true (all.getD k 0) with
      | true=>rfl
      | false =>
        obtain ⟨t,ht,hst⟩:=hmk.2 hb
        obtain ⟨i,hi,rfl⟩:=zaV 0 ht
        exact absurd hst (hall i om)
     have e:=hyes hx
     exact ⟨om,zab ((k + 1,v + 1,true)) ⟨(xc4 Ha Hb hwk e),by dsimp only;omega⟩⟩
 ·refine xg2 Ha @zad ?_
  refine ⟨fun h=>absurd h hk,fun _=>?_⟩
  have:k = all.length:=om
  rw [this,List.take_length]
theorem zdB (n:Int) (G:Nat) (hG:G < 18446744073709551616):AC Tryz.prog 113 [int n,u64 G] (.ag [.im (int n),.fr 3 1 (iL (ofN (zcK G.testBit true)))]):=by
 refine xac [.cell 4 27] Tryz.func113 fun hl=>?_
 refine xg0 ?_
 refine zaa (zcD G hG) ?_
 exact xd0
end Go.Proofs.YtkledeboboplmaaGreatDoor

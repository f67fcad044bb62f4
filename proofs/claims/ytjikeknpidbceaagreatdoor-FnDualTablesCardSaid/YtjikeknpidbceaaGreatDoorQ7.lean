/- DERIVED by an AI agent. -/
import Derived.Test.YtjikeknpidbceaaGreatDoorQ2
import Derived.Test.YtjikeknpidbceaaGreatDoorQ6
import Derived.Test.YtjikeknpidbceaaGreatDoorP1
import Derived.Test.YtjikeknpidbceaaGreatDoorQ4
import Derived.Test.YtjikeknpidbceaaGreatDoorQ5
import Derived.Test.YtjikeknpidbceaaGreatDoorA13
import Derived.Lib.ItoaNum
namespace Go.Proofs.YtjikeknpidbceaaGreatDoor
open Go.Abs
open Nat (reduceEqDiff reduceMod reduceAdd reduceLT reduceLeDiff reduceSub reduceMul)
set_option linter.unusedSimpArgs false
set_option linter.unusedVariables false
def zeH (f:Nat→Bool) (d:Nat):Nat→Int | 0=>-1 | k + 1=>if f d = true then d else zeH f (d + 1) k
theorem zgu {f:Nat→Bool} (h:∀ d,f d = false):∀ k d,zeH f d k = -1:=by
 intro k
 induction k with
 | zero=>intro d;rfl
 | succ k ih=>intro d;unfold zeH;rw [h d];exact ih _
noncomputable def zlX (n:Int) (xs:List Int) (p:Int):Int:=if zfq n xs = [] then -1 else zeH (fun d=>zvK n xs p d) 1 n.toNat
theorem zA8 {n:Int} {xs:List Int} (h:zfq n xs ≠ []):1 ≤ n∧n ≤ 6:=by
 cases hc:zcV n xs with
 | false=>exact absurd (zxo hc) h
 | true=>obtain ⟨h1,h6,_⟩:=za7.1 hc;exact ⟨h1,h6⟩
theorem zgv (n:Int) (xs:List Int) (p:Int):AC Tryz.prog 9 [.ag [int n,zbr xs],int p] (.im (int (zlX n xs p))):=by
 refine AC.go (rs:=[.tmp 4]) za0 mixed Tryz.func9 rfl rfl rfl (by kernel_rfl) fun hl=>?_
 simp (maxSteps:=9^7) -dsimp only [↓gp,gq,reduceCtorEq,reduceEqDiff,reduceLT,reduceLeDiff,reduceAdd,reduceMul,reduceSub,Nat.reduceBEq,Int.reduceToNat,Int.reduceLE,Int.reduceLT,Int.reduceNeg,reduceMod,gT]
 refine zan (fun (d:Nat) s=>s.sl 1 = int p∧s.sl 2 = .ref 2 1 0∧s.rw 2 = ⟨1,.box 26 [int n,zbr xs]⟩∧s.sl 5 = int d∧(1 ≤ d∧(d = 1 ∨ (zfq n xs ≠ []∧(d:Int) ≤ n + 1))∧(zfq n xs ≠ []→zlX n xs p = zeH (fun d=>zvK n xs p d) d (n + 1 - d).toNat))) (fun d=>(n + 1 - d).toNat) (1) (by refine ⟨?_,?_,?_,?_,⟨by omega,.inl rfl,fun h=>by unfold zlX;rw [if_neg h];congr 1;omega⟩⟩ <;> (first | (simp (maxSteps:=9^7) -dsimp only [gr,reduceEqDiff,reduceLT,reduceAdd,reduceMod,Nat.reduceBEq];first | done | rfl | (simp;done)) | assumption | rfl)) ?_
 intro d sa ⟨h1a,h2a,r2a,h5a,hIa⟩
 obtain ⟨hd,hd2,hdeg⟩:=hIa
 have hml:=zi2 n xs
 have hend:¬ (d:Int) ≤ n→zlX n xs p = -1:=fun h=>by
  by_cases e:zfq n xs = []
  ·exact if_pos e
  ·rw [hdeg e,show (n + 1 - (d:Int)).toNat = 0 by omega];rfl
 simp (maxSteps:=9^7) -dsimp only [↓gp,gq,reduceCtorEq,reduceEqDiff,reduceLT,reduceLeDiff,reduceAdd,reduceMul,reduceSub,Nat.reduceBEq,Int.reduceToNat,Int.reduceLE,Int.reduceLT,Int.reduceNeg,reduceMod,gT,h1a,h2a,r2a,h5a]
 refine ⟨fun h=>zab (zcl n xs) ?_,fun h=>hend h⟩
 simp (maxSteps:=9^7) -dsimp only [↓gp,gq,reduceCtorEq,reduceEqDiff,reduceLT,reduceLeDiff,reduceAdd,reduceMul,reduceSub,Nat.reduceBEq,Int.reduceToNat,Int.reduceLE,Int.reduceLT,Int.reduceNeg,reduceMod,gT,h1a,h2a,r2a,h5a,zae]
 refine ⟨fun h0=>zab (zeG n xs p d) ?_,fun h0=>?_⟩
 ·have hne:zfq n xs ≠ []:=fun e=>by rw [e] at h0;simp at h0
  obtain ⟨h1,h6⟩:=zA8 hne
  have hst:=hdeg hne
  rw [show (n + 1 - (d:Int)).toNat = (n + 1 - ((d + 1:Nat):Int)).toNat + 1 by omega] at hst
  unfold zeH at hst
  simp (maxSteps:=9^7) -dsimp only [↓gp,gq,reduceCtorEq,reduceEqDiff,reduceLT,reduceLeDiff,reduceAdd,reduceMul,reduceSub,Nat.reduceBEq,Int.reduceToNat,Int.reduceLE,Int.reduceLT,Int.reduceNeg,reduceMod,gT,h1a,h2a,r2a,h5a,zae]
  refine ⟨fun hl=>?_,fun hl=>?_⟩
  ·rw [hst,if_pos hl]
  ·rw [if_neg (by rw [hl];decide)] at hst
   exact zac (d + 1) (by refine ⟨?_,?_,?_,?_,⟨by omega,.inr ⟨hne,by omega⟩,fun _=>hst⟩⟩ <;> (first | (simp (maxSteps:=9^7) -dsimp only [gr,reduceEqDiff,reduceLT,reduceAdd,reduceMod,Nat.reduceBEq,h1a,h2a,r2a,h5a,zaa (show d < 7 by omega) (by omega)];first | done | rfl | (simp;done)) | assumption | rfl)) (by first | omega | (simp only;omega) | (dsimp only;omega) | (show _ < _;simp;omega))
 ·have:zfq n xs = []:=List.eq_nil_of_length_eq_zero (by omega)
  unfold zlX
  rw [if_pos this]
theorem zgw (n:Int) (xs:List Int) (p:Int):AC Tryz.prog 6 [.ag [int n,zbr xs],int p] (.im (int (zlX n xs p))):=by
 refine AC.go (rs:=[.tmp 4]) za0 mixed Tryz.func6 rfl rfl rfl (by kernel_rfl) fun hl=>?_
 simp (maxSteps:=9^7) -dsimp only [↓gp,gq,reduceCtorEq,reduceEqDiff,reduceLT,reduceLeDiff,reduceAdd,reduceMul,reduceSub,Nat.reduceBEq,Int.reduceToNat,Int.reduceLE,Int.reduceLT,Int.reduceNeg,reduceMod,gT]
 refine zab (zcw n xs p) ?_
 have hsq:=zh8 n xs p
 have hml:=zi2 n xs
 have hlin:∀ d:Int,zvK n xs p d = (decide (0 < (zfR n xs p).length) && zwZ (zfR n xs p) d):=fun d=>rfl
 unfold zlX
 simp only [hlin]
 generalize zfR n xs p = M at *
 have hl7:=hsq.len
 simp (maxSteps:=9^7) -dsimp only [↓gp,gq,reduceCtorEq,reduceEqDiff,reduceLT,reduceLeDiff,reduceAdd,reduceMul,reduceSub,Nat.reduceBEq,Int.reduceToNat,Int.reduceLE,Int.reduceLT,Int.reduceNeg,reduceMod,gT]
 have hno:M.length = 0→∀ k d,zeH (fun d=>decide (0 < M.length) && zwZ M (d:Int)) d k = -1:=fun h=>zgu fun d=>by simp [h]
 refine ⟨fun h=>zab (zgF n xs) ?_,fun h=>?_⟩
 ·have hM:decide (0 < M.length) = true:=decide_eq_true (Nat.pos_of_ne_zero fun e=>by rw [e] at h;simp at h)
  rw [hM]
  simp only [Bool.true_and]
  simp (maxSteps:=9^7) -dsimp only [↓gp,gq,reduceCtorEq,reduceEqDiff,reduceLT,reduceLeDiff,reduceAdd,reduceMul,reduceSub,Nat.reduceBEq,Int.reduceToNat,Int.reduceLE,Int.reduceLT,Int.reduceNeg,reduceMod,gT,zae]
  refine ⟨fun h0=>?_,fun h0=>?_⟩
  ·have h0:(zfq n xs).length = 0:=by
    have:((zfq n xs).length:Int) = 0:=by simpa using h0
    omega
   rw [if_pos (List.eq_nil_of_length_eq_zero h0)]
  ·have hne:zfq n xs ≠ []:=fun e=>by rw [e] at h0;simp at h0
   obtain ⟨h1,h6⟩:=zA8 hne
   rw [if_neg hne]
   refine zan (fun (d:Nat) s=>s.sl 2 = .ref 2 1 0∧s.rw 2 = ⟨1,.box 26 [int n,zbr xs]⟩∧s.sl 5 = .own 9 1∧s.rw 9 = ⟨1,.sli 24 1 false (iLL M)⟩∧s.sl 6 = int d∧(1 ≤ d∧(d:Int) ≤ n + 1∧zeH (fun d=>zwZ M (d:Int)) 1 n.toNat = zeH (fun d=>zwZ M (d:Int)) d (n + 1 - d).toNat)) (fun d=>(n + 1 - d).toNat) (1) (by refine ⟨?_,?_,?_,?_,?_,⟨by omega,by omega,by congr 1;omega⟩⟩ <;> (first | (simp (maxSteps:=9^7) -dsimp only [gr,reduceEqDiff,reduceLT,reduceAdd,reduceMod,Nat.reduceBEq];first | done | rfl | (simp;done)) | assumption | rfl)) ?_
   intro d sa ⟨h2a,r2a,h5a,r9a,h6a,hIa⟩
   obtain ⟨hd,hd2,hst⟩:=hIa
   simp (maxSteps:=9^7) -dsimp only [↓gp,gq,reduceCtorEq,reduceEqDiff,reduceLT,reduceLeDiff,reduceAdd,reduceMul,reduceSub,Nat.reduceBEq,Int.reduceToNat,Int.reduceLE,Int.reduceLT,Int.reduceNeg,reduceMod,gT,h2a,r2a,h5a,r9a,h6a]
   refine ⟨fun h=>zab (zc6 M d hsq) ?_,fun h=>?_⟩
   ·rw [show (n + 1 - (d:Int)).toNat = (n + 1 - ((d + 1:Nat):Int)).toNat + 1 by omega] at hst
    rw [zeH] at hst
    simp (maxSteps:=9^7) -dsimp only [↓gp,gq,reduceCtorEq,reduceEqDiff,reduceLT,reduceLeDiff,reduceAdd,reduceMul,reduceSub,Nat.reduceBEq,Int.reduceToNat,Int.reduceLE,Int.reduceLT,Int.reduceNeg,reduceMod,gT,h2a,r2a,h5a,r9a,h6a]
    refine ⟨fun hl=>?_,fun hl=>?_⟩
    ·rw [hst,if_pos hl]
    ·rw [if_neg (by rw [hl];decide)] at hst
     exact zac (d + 1) (by refine ⟨?_,?_,?_,?_,?_,⟨by omega,by omega,hst⟩⟩ <;> (first | (simp (maxSteps:=9^7) -dsimp only [gr,reduceEqDiff,reduceLT,reduceAdd,reduceMod,Nat.reduceBEq,h2a,r2a,h5a,r9a,h6a,zaa (show d < 7 by omega) (by omega)];first | done | rfl | (simp;done)) | assumption | rfl)) (by first | omega | (simp only;omega) | (dsimp only;omega) | (show _ < _;simp;omega))
   ·rw [hst,show (n + 1 - (d:Int)).toNat = 0 by omega];rfl
 ·have h:M.length = 0:=by
   have:(M.length:Int) = 0:=by simpa using h
   omega
  rw [hno h];split <;> rfl
section
variable {m q d:Nat} [NeZero q] {xs:List Int}
omit [NeZero q] in
theorem zFD (hh:zgC m xs = true) (hp:isP (q:Int) = true) (hd:zFF (zag xs) q = d):cmO m xs q = decide ((d:Int) = (zba (zag xs):Int) - 1):=by
 unfold cmO zHl
 rw [(zaO.1 hh).1,hp,hd,decide_eq_true (zsW (zfM hh).choose_spec.2.2.2.2.1)];rfl
theorem zCD (hh:zgC m xs = true):zew (zag xs)∧zag xs 0 = true∧m ≤ 6∧∀ s,s < 64→zag xs s = true→s < 2 ^ m:=by
 obtain ⟨m',e,_,h6,hd,h0,hs⟩:=zfM hh
 have e:=Int.ofNat.inj e
 subst e
 exact ⟨hd,h0,h6,hs⟩
end
theorem zD0 {m:Nat} {xs:List Int} (h:zcV (m:Int) xs = true):zag (znD m xs) = zat m (zag xs):=funext fun s=>by
 by_cases hs:s < 64
 ·exact znE h hs
 ·obtain ⟨_,h6,_⟩:=za7.1 h
  have h64:=zar (m:=m) (by omega)
  have e1:zat m (zag xs) s = false:=by
   unfold zat;rw [decide_eq_false (by omega)];rfl
  rw [e1]
  cases hf:zag (znD m xs) s with
  | false=>rfl
  | true =>
    obtain ⟨x,hx,e⟩:=zbz.1 hf
    have:=zdZ (zo0 h) x hx
    have:s ≤ x.toNat:=by rw [← e];exact Nat.and_le_left
    omega
theorem zl0 {f:Nat→Bool}:∀ (k d t:Nat),d ≤ t→t < d + k→f t = true→(∀ u,u ≠ t→f u = false)→zeH f d k = t
 | 0,d,t,h1,h2,_,_=>by omega
 | k + 1,d,t,h1,h2,ht,hu=>by
   unfold zeH
   by_cases e:d = t
   ·subst e;rw [if_pos ht]
   ·rw [if_neg (by rw [hu d e];decide)]
    exact zl0 k (d + 1) t (by omega) (by omega) ht hu
section
variable {m q:Nat} [NeZero q] {xs:List Int}
omit [NeZero q] in
theorem zD1 (hh:zgC m xs = true) (hp:isP (q:Int) = true) (hm:zfq (m:Int) xs ≠ []):∃ e:Nat,e < m∧cmO m (znD m xs) q = decide ((e:Int) = (zba (zat m (zag xs)):Int) - 1) ∧
 ((e:Int) = (zba (zat m (zag xs)):Int) - 1→zlX m xs q = (m:Int) - e∧zvK m xs q ((m:Int) - e) = true∧zHa m xs q = (m:Int) - e - 1∧∀ s ∈ zfq (m:Int) xs,(zak s:Int) = (m:Int) - e)∧(¬ (e:Int) = (zba (zat m (zag xs)):Int) - 1→zlX m xs q = -1):=by
 obtain ⟨hdn,h0,h6,hs⟩:=zCD hh
 obtain ⟨hcx,_⟩:=zaO.1 hh
 have h64:=zar h6
 have hdf:=zD0 hcx
 have hcd:=zo0 hcx
 obtain ⟨t,ht⟩:=List.exists_mem_of_ne_nil _ hm
 have htm:=zct.1 ht
 have hg0:zat m (zag xs) 0 = true:=by
  have hmt:=htm.1.2
  unfold zf9 at hmt
  rw [Bool.and_eq_true,Bool.and_eq_true,Bool.not_eq_true'] at hmt
  obtain ⟨_,hin,hnf⟩:=hmt
  unfold zby at hin
  rw [decide_eq_true_iff,zbO] at hin
  have htl:t < 2 ^ m:=by have:=hin.2.2.2;omega
  have hpos:=Nat.two_pow_pos m
  unfold zat
  rw [decide_eq_true hpos,Bool.true_and,Nat.sub_zero,Bool.not_eq_true']
  cases hf:zag xs (2 ^ m - 1) with
  | false=>rfl
  | true =>
    have:=hdn _ t hf (by rw [Nat.and_comm,Nat.and_two_pow_sub_one_eq_mod,Nat.mod_eq_of_lt htl])
    rw [hnf] at this;cases this
 have hpos:0 < (znD m xs).length:=by
  have:zag (znD m xs) 0 = true:=by rw [hdf];exact hg0
  cases hx:znD (m:Int) xs with
  | nil=>rw [hx] at this;cases this
  | cons a l=>simp
 have hhd:zgC m (znD m xs) = true:=zaO.2 ⟨hcd,hpos⟩
 obtain ⟨m',q',e,_,em,eq,_,_,hde,_,hdi,_⟩:=zxh hhd hp
 have em:=Int.ofNat.inj em
 have eq:=Int.ofNat.inj eq
 subst em
 subst eq
 have hgd:zew (zat m (zag xs)):=by rw [← hdf];exact (zCD hhd).1
 have hcm:=zFD hhd hp hdi
 rw [hdf] at hde hcm
 have hde':zsJ q (zat m (zag xs)) m e:=hde
 obtain ⟨l1,l2,l3⟩:=zBa hp hdn h0 h6 hgd hg0 hde'
 have eb:zfR (m:Int) xs q = zlM (zag xs) q m:=if_pos ⟨hh,hp⟩
 have hsq:=zla (zag xs) q h6
 have elin:∀ d:Int,zvK m xs q d = zwZ (zlM (zag xs) q m) d:=fun d=>by
  unfold zvK
  rw [eb,hsq.len,decide_eq_true (by omega),Bool.true_and]
 refine ⟨e,l3,hcm,fun hd=>?_,fun hd=>?_⟩
 ·have hl:=l2 hd
  have hlin:zvK m xs q ((m:Int) - e) = true:=by rw [elin];exact zoH hl
  obtain ⟨m',em,_,_,_,hrow⟩:=zrM (n:=(m:Int)) (xs:=xs) (p:=(q:Int)) ⟨hh,hp⟩
  have em:=Int.ofNat.inj em
  subst em
  rw [eb] at hrow
  have hrow1:∀ k:Nat,1 ≤ k→ent (zlM (zag xs) q m) 1 k = (((zfq (m:Int) xs).filter fun s=>zak s == k).length:Int):=hrow
  have hpt:∀ s ∈ zfq (m:Int) xs,1 ≤ zak s∧zak s ≤ m:=fun s hs=>by
   obtain ⟨⟨a,b⟩,_⟩:=zct.1 hs
   unfold zf9 at b
   rw [Bool.and_eq_true,Bool.and_eq_true,Bool.not_eq_true'] at b
   obtain ⟨_,hin,hnf⟩:=b
   unfold zby at hin
   rw [decide_eq_true_iff,zbO] at hin
   have hsl:s < 2 ^ m:=by have:=hin.2.2.2;omega
   refine ⟨Nat.pos_of_ne_zero fun hz=>?_,zcP h6 hsl⟩
   rw [zlq s a hz,h0] at hnf;cases hnf
  have hne1:∀ s ∈ zfq (m:Int) xs,ent (zlM (zag xs) q m) 1 (zak s) ≠ 0:=fun s hs=>by
   rw [hrow1 _ (hpt s hs).1]
   have:0 < ((zfq (m:Int) xs).filter fun x=>zak x == zak s).length:=List.length_pos_of_mem (List.mem_filter.2 ⟨hs,beq_self_eq_true _⟩)
   omega
  have hsz:∀ s ∈ zfq (m:Int) xs,(zak s:Int) = (m:Int) - e:=fun s hs=>by
   have:=hpt s hs
   rcases hl 1 (Nat.le_refl _) (by rw [hsq.len];omega) (zak s) (by rw [hsq.len];omega) with h | h
   ·exact absurd h (hne1 s hs)
   ·omega
  refine ⟨?_,hlin,?_,hsz⟩
  ·unfold zlX
   rw [if_neg hm,Int.toNat_natCast]
   have:=zl0 (f:=fun d:Nat=>zvK m xs q d) m 1 (m - e) (by omega) (by omega) (by
    rw [show ((m - e:Nat):Int) = (m:Int) - e by omega];exact hlin) (fun u hu=>by
    rw [elin]
    exact zoI fun h=>hu (by have:=(l1 _ h).1;omega))
   rw [this];omega
  ·unfold zHa
   rw [eb,hsq.len]
   have hup:zlT (zlM (zag xs) q m) (m + 1) ≤ (m:Int) - e - 1:=zvO _ (by omega) _ fun i j hi hne=>by
    by_cases h0i:i = 0
    ·subst h0i
     rw [zCs hp hdn h0 h6] at hne
     by_cases hj:j = 0
     ·omega
     ·rw [if_neg hj] at hne;exact absurd rfl hne
    ·have hj:j < m + 1:=Nat.lt_of_not_le fun hle=>hne (by
      unfold ent
      rw [List.getD,List.getElem?_eq_none (by rw [hsq.row i (by omega)];exact hle)];rfl)
     rcases hl i (by omega) (by rw [hsq.len];omega) j (by rw [hsq.len];omega) with h | h
     ·exact absurd h hne
     ·omega
   have hlo:=zvN (zlM (zag xs) q m) (m + 1) 1 (zak t) (by have:=hpt t ht;omega) (by rw [hsq.row 1 (by have:=hpt t ht;omega)];have:=hpt t ht;omega) (hne1 t ht)
   have:=hsz t ht
   omega
 ·unfold zlX
  rw [if_neg hm]
  refine zgu (fun d=>?_) _ _
  rw [elin]
  exact zoI fun h=>hd (l1 _ h).2
end
theorem zBd:∀ (l:List UInt8) (a:ByteArray),((l.map fun x=>(x.toNat:Int)).foldl (fun r n=>r.push (UInt8.ofNat n.toNat)) a) = ⟨(a.data.toList ++ l).toArray⟩:=by
 intro l
 induction l with
 | nil=>intro a;simp
 | cons x l ih =>
   intro a
   rw [List.map_cons,List.foldl_cons,ih]
   have:UInt8.ofNat ((x.toNat:Int)).toNat = x:=by simp
   rw [this]
   congr 1
   simp [ByteArray.push]
theorem zw8 (ver e:Nat) (fz:Bool) (b:ByteArray) {Kp:PV→Prop}:zwN ⟨ver,.sli e 1 fz (zgy b)⟩ ver Kp = Kp (.v (.string b)):=by
 unfold zwN
 simp only [true_and]
 have hb:zgy b = (b.data.toList.map fun x=>(x.toNat:Int)).map (fun n=>PV.v (.int .u8 n)):=by simp [zgy]
 have hf:=zBd b.data.toList ByteArray.empty
 have hf:((b.data.toList.map fun x=>(x.toNat:Int)).foldl (fun r n=>r.push (UInt8.ofNat n.toNat)) ByteArray.empty) = b:=by
  rw [hf];show (⟨(([]:List UInt8) ++ b.data.toList).toArray⟩:ByteArray) = b;simp
 refine propext ⟨fun ⟨bs,h1,h2⟩=>?_,fun h=>⟨_,hb,by rw [hf];exact h⟩⟩
 rw [hb] at h1
 have:b.data.toList.map (fun x=>(x.toNat:Int)) = bs:=(List.map_inj_right (fun x y h=>by simpa using h)).1 h1
 rw [← this,hf] at h2
 exact h2
theorem zgx (a b:ByteArray):zgy a ++ zgy b = zgy (a ++ b):=by
 unfold zgy
 rw [← List.map_append,ByteArray.data_append,Array.toList_append]
theorem zCA:zgy ⟨#[]⟩ = []:=rfl
def zdH (l:List ByteArray) (sep:ByteArray):Nat→ByteArray | 0=>⟨#[]⟩ | i + 1=>(if i = 0 then zdH l sep i else zdH l sep i ++ sep) ++ l.getD i ⟨#[]⟩
theorem zsV (l:List ByteArray) (sep:ByteArray) (hN:l.length ≤ 1000000000000) (hb:∀ i,i ≤ l.length→(zdH l sep i).size + sep.size ≤ 70000000000000):AC Tryz.prog 47 [.sl false 1 (sL l),str sep] (.im (str (zdH l sep l.length))):=by
 refine AC.go (rs:=[.tmp 4]) za0 mixed Tryz.func47 rfl rfl rfl (by kernel_rfl) fun hl=>?_
 simp only [zaT,zbg,and_true,zbK,zcZ,zb2,zg2,zhI,true_and] at hl
 simp (maxSteps:=9^7) -dsimp only [↓gp,gq,reduceCtorEq,reduceEqDiff,reduceLT,reduceLeDiff,reduceAdd,reduceMul,reduceSub,Nat.reduceBEq,Int.reduceToNat,Int.reduceLE,Int.reduceLT,Int.reduceNeg,reduceMod,gT]
 refine zan (fun (za:Nat × Nat) s=>match za with | (i,v)=>s.sl 0 = .sl false 1 (sL l)∧s.sl 1 = str sep∧s.sl 5 = .own 7 v∧s.rw 7 = ⟨v,.sli 5 1 false (zgy (zdH l sep i))⟩∧s.sl 6 = int i∧(i ≤ l.length)) (fun (i,v)=>l.length - i) ((0,1)) (by refine ⟨?_,?_,?_,?_,?_,by omega⟩ <;> (first | (simp (maxSteps:=9^7) -dsimp only [gr,reduceEqDiff,reduceLT,reduceAdd,reduceMod,Nat.reduceBEq,zdH,zCA];first | done | rfl | (simp;done)) | assumption | rfl)) ?_
 intro (i,v) sa ⟨h0a,h1a,h5a,r7a,h6a,hIa⟩
 have hsl:(sL l).length = l.length:=by simp [sL]
 have hbi:=hb i hIa
 simp (maxSteps:=9^7) -dsimp only [↓gp,gq,reduceCtorEq,reduceEqDiff,reduceLT,reduceLeDiff,reduceAdd,reduceMul,reduceSub,Nat.reduceBEq,Int.reduceToNat,Int.reduceLE,Int.reduceLT,Int.reduceNeg,reduceMod,gT,h0a,h1a,h5a,r7a,h6a,hsl,zop,zw8]
 refine ⟨fun h=>?_,fun h=>?_⟩
 ·have hb1:=hb (i + 1) h
  have hw:=zaa h (show l.length ≤ 9223372036854775807 by omega)
  have hse:=zgf sep
  have hsj:=zgf (zdH l sep i)
  refine ⟨fun h0=>?_,fun h0=>?_⟩
  ·have e:zdH l sep (i + 1) = (zdH l sep i ++ sep) ++ l.getD i ⟨#[]⟩:=by rw [zdH,if_neg (by omega)]
   rw [e,ByteArray.size_append,ByteArray.size_append] at hb1
   have e2:zgy (zdH l sep i) ++ zgy sep ++ zgy (l.getD i ⟨#[]⟩) = zgy (zdH l sep (i + 1)):=by rw [zgx,zgx,e]
   exact ⟨by omega,h,h,by rw [List.length_append];omega,zac ((i + 1,v + 1 + 1)) (by refine ⟨?_,?_,?_,?_,?_,by dsimp only;omega⟩ <;> (first | (simp (maxSteps:=9^7) -dsimp only [gr,reduceEqDiff,reduceLT,reduceAdd,reduceMod,Nat.reduceBEq,h0a,h1a,h5a,r7a,h6a,hw,e2];first | done | rfl | (simp;done)) | assumption | rfl)) (by first | omega | (simp only;omega) | (dsimp only;omega) | (show _ < _;simp;omega))⟩
  ·have e:zdH l sep (i + 1) = zdH l sep i ++ l.getD i ⟨#[]⟩:=by rw [zdH,if_pos (by omega)]
   rw [e,ByteArray.size_append] at hb1
   have e2:zgy (zdH l sep i) ++ zgy (l.getD i ⟨#[]⟩) = zgy (zdH l sep (i + 1)):=by rw [zgx,e]
   exact ⟨h,h,by omega,zac ((i + 1,v + 1)) (by refine ⟨?_,?_,?_,?_,?_,by dsimp only;omega⟩ <;> (first | (simp (maxSteps:=9^7) -dsimp only [gr,reduceEqDiff,reduceLT,reduceAdd,reduceMod,Nat.reduceBEq,h0a,h1a,h5a,r7a,h6a,hw,e2];first | done | rfl | (simp;done)) | assumption | rfl)) (by first | omega | (simp only;omega) | (dsimp only;omega) | (show _ < _;simp;omega))⟩
 ·have:i = l.length:=by omega
  rw [this]
theorem zoT (sep:List UInt8):∀ (xs:List (List UInt8)) (x:List UInt8),xs ≠ []→Go.Lib.join (xs ++ [x]) sep = Go.Lib.join xs sep ++ sep ++ x:=by
 intro xs x h
 cases xs with
 | nil=>exact absurd rfl h
 | cons y r =>
   rw [List.cons_append,Go.Lib.join_cons,Go.Lib.join_cons]
   simp [Go.Lib.joinTail]
theorem zvS (l:List ByteArray) (sep:ByteArray):∀ i,i ≤ l.length→zdH l sep i = zoU (l.take i) sep:=by
 intro i
 induction i with
 | zero=>intro _;rfl
 | succ i ih =>
   intro hi
   have hi:i < l.length:=by omega
   rw [zdH,ih (by omega),zaF ⟨#[]⟩ hi]
   unfold zoU
   rw [List.map_append,List.map_cons,List.map_nil]
   by_cases h0:i = 0
   ·subst h0
    rw [if_pos rfl]
    refine ByteArray.ext ?_
    simp [Go.Lib.join_nil,Go.Lib.join_one]
   ·rw [if_neg h0,zoT _ _ _ (by intro e;have:=congrArg List.length e;rw [List.length_map,List.length_take,List.length_nil] at this;omega)]
    refine ByteArray.ext ?_
    simp
theorem zFp {u:Nat} (h:u ≠ 0):Go.Lib.decDigits u = (if u / 10 = 0 then [] else Go.Lib.decDigits (u / 10)) ++ [UInt8.ofNat (48 + u % 10)]:=by
 rw [Go.Lib.decDigits]
 by_cases h10:u < 10
 ·rw [dif_pos h10,if_pos (by omega),Nat.mod_eq_of_lt h10];rfl
 ·rw [dif_neg h10,if_neg (by omega)]
theorem zBc:∀ (k u:Nat),u < 10 ^ (k + 1)→(Go.Lib.decDigits u).length ≤ k + 1:=by
 intro k
 induction k with
 | zero=>intro u h;rw [Go.Lib.decDigits,dif_pos (by omega)];simp
 | succ k ih =>
   intro u h
   rw [Go.Lib.decDigits]
   by_cases h10:u < 10
   ·rw [dif_pos h10];simp
   ·rw [dif_neg h10,List.length_append]
    have:u / 10 < 10 ^ (k + 1):=by rw [Nat.pow_succ] at h;omega
    have:=ih _ this
    simp;omega
def zdG (n:Int):ByteArray:=⟨(Go.Lib.itoa n).toArray⟩
theorem zdk {n:Int} (h0:-9223372036854775808 ≤ n) (h1:n ≤ 9223372036854775807):(zdG n).size ≤ 20:=by
 have e:(zdG n).size = (Go.Lib.itoa n).length:=by simp [zdG,ByteArray.size]
 rw [e,Go.Lib.itoa]
 split
 ·have:=zBc 18 n.natAbs (by omega)
  simp;omega
 ·have:=zBc 18 n.toNat (by omega)
  omega
def dgB (d:Nat):ByteArray:=⟨#[UInt8.ofNat (48 + d)]⟩
theorem zDX {d:Nat} (h:d < 10) {x:Int} (hx:x = (d:Int)):([IntKind.u8.wrap (IntKind.i64.wrap (48 + x))].foldl (fun r n=>r.push (UInt8.ofNat n.toNat)) ByteArray.empty) = dgB d:=by
 subst hx
 have:∀ m:Fin 10,([IntKind.u8.wrap (IntKind.i64.wrap (48 + (m.val:Nat)))].foldl (fun r n=>r.push (UInt8.ofNat n.toNat)) ByteArray.empty) = dgB m.val:=by decide +kernel
 exact this ⟨d,h⟩
theorem zcI {n:Int} (h0:-9223372036854775808 ≤ n) (h1:n ≤ 9223372036854775807):AC Tryz.prog 46 [int n] (.im (str (zdG n))):=by
 refine AC.go (rs:=[.tmp 2]) za0 mixed Tryz.func46 rfl rfl rfl (by kernel_rfl) fun hl=>?_
 by_cases hz:n = 0
 ·subst hz
  simp (maxSteps:=9^7) -dsimp only [↓gp,gq,reduceCtorEq,reduceEqDiff,reduceLT,reduceLeDiff,reduceAdd,reduceMul,reduceSub,Nat.reduceBEq,Int.reduceToNat,Int.reduceLE,Int.reduceLT,Int.reduceNeg,reduceMod,gT,show ((0:Int) == 0) = true from rfl]
  decide +kernel
 have e0:(n == 0) = false:=beq_eq_false_iff_ne.2 hz
 simp (maxSteps:=9^7) -dsimp only [↓gp,gq,reduceCtorEq,reduceEqDiff,reduceLT,reduceLeDiff,reduceAdd,reduceMul,reduceSub,Nat.reduceBEq,Int.reduceToNat,Int.reduceLE,Int.reduceLT,Int.reduceNeg,reduceMod,gT,e0]
 refine zan (fun (za:Int × ByteArray) s=>match za with | (m,o)=>s.sl 0 = int m∧s.sl 3 = bool (decide (n < 0))∧s.sl 4 = str o∧((if m = 0 then [] else Go.Lib.decDigits m.natAbs) ++ o.data.toList = Go.Lib.decDigits n.natAbs∧(n < 0→m ≤ 0)∧(0 ≤ n→0 ≤ m)∧m.natAbs ≤ 9223372036854775808∧o.size ≤ 19)) (fun (m,o)=>m.natAbs) ((n,⟨#[]⟩)) (by refine ⟨?_,?_,?_,⟨by rw [if_neg hz];simp,fun h=>Int.le_of_lt h,fun h=>h,by omega,by decide⟩⟩ <;> (first | (simp (maxSteps:=9^7) -dsimp only [gr,reduceEqDiff,reduceLT,reduceAdd,reduceMod,Nat.reduceBEq];first | done | rfl | (simp;done)) | assumption | rfl)) ?_
 intro (m,o) sa ⟨h0a,h3a,h4a,hIa⟩
 obtain ⟨hd,hs1,hs2,hbd,hsz⟩:=hIa
 by_cases hm:m = 0
 ·subst hm
  rw [if_pos rfl,List.nil_append] at hd
  simp (maxSteps:=9^7) -dsimp only [↓gp,gq,reduceCtorEq,reduceEqDiff,reduceLT,reduceLeDiff,reduceAdd,reduceMul,reduceSub,Nat.reduceBEq,Int.reduceToNat,Int.reduceLE,Int.reduceLT,Int.reduceNeg,reduceMod,gT,h0a,h3a,h4a,show ((0:Int) != 0) = false from rfl]
  have ho:o = ⟨(Go.Lib.decDigits n.natAbs).toArray⟩:=by
   rw [← hd]
  subst ho
  unfold zdG Go.Lib.itoa
  refine ⟨fun h=>⟨?_,?_⟩,fun h=>?_⟩
  ·show 1 + _ ≤ _
   omega
  ·rw [if_pos h]
   refine ByteArray.ext ?_
   simp
  ·rw [if_neg h,show n.toNat = n.natAbs by omega]
 ·have hne:(m != 0) = true:=by rw [bne_iff_ne];exact hm
  have hst:=zFp (u:=m.natAbs) (by omega)
  rw [if_neg hm,hst] at hd
  have hr:m.tmod 10 = if m < 0 then -((m.natAbs % 10:Nat):Int) else ((m.natAbs % 10:Nat):Int):=by
   split
   ·rename_i h
    obtain ⟨a,rfl⟩:∃ a:Nat,m = -(a:Int):=⟨m.natAbs,by omega⟩
    rw [Int.neg_tmod,Int.natAbs_neg,Int.natAbs_natCast];rfl
   ·rename_i h
    obtain ⟨a,rfl⟩:∃ a:Nat,m = (a:Int):=⟨m.natAbs,by omega⟩
    rw [Int.natAbs_natCast];rfl
  have hq:m.tdiv 10 = if m < 0 then -((m.natAbs / 10:Nat):Int) else ((m.natAbs / 10:Nat):Int):=by
   split
   ·rename_i h
    obtain ⟨a,rfl⟩:∃ a:Nat,m = -(a:Int):=⟨m.natAbs,by omega⟩
    rw [Int.neg_tdiv,Int.natAbs_neg,Int.natAbs_natCast];rfl
   ·rename_i h
    obtain ⟨a,rfl⟩:∃ a:Nat,m = (a:Int):=⟨m.natAbs,by omega⟩
    rw [Int.natAbs_natCast];rfl
  have hw10:IntKind.i64.wrap (m.tdiv 10) = m.tdiv 10:=by rw [hq];exact zam (by split <;> omega) (by split <;> omega)
  simp (maxSteps:=9^7) -dsimp only [↓gp,gq,reduceCtorEq,reduceEqDiff,reduceLT,reduceLeDiff,reduceAdd,reduceMul,reduceSub,Nat.reduceBEq,Int.reduceToNat,Int.reduceLE,Int.reduceLT,Int.reduceNeg,reduceMod,gT,h0a,h3a,h4a,zop,zrt,zDM,hne,hw10]
  have hd9:=Nat.mod_lt m.natAbs (show 0 < 10 by decide)
  generalize hdd:m.natAbs % 10 = d at *
  have hlen:=congrArg List.length hd
  have hnl:=zBc 18 n.natAbs (by omega)
  have ho:o.data.toList.length = o.size:=Array.length_toList
  rw [List.length_append,List.length_append,List.length_singleton,ho] at hlen
  have hds:(dgB d ++ o).size = 1 + o.size:=by rw [ByteArray.size_append];rfl
  have hd1:(dgB d).size = 1:=rfl
  have hnew:(if m.tdiv 10 = 0 then [] else Go.Lib.decDigits (m.tdiv 10).natAbs) ++ (dgB d ++ o).data.toList = Go.Lib.decDigits n.natAbs:=by
   rw [← hd]
   have e1:(m.tdiv 10).natAbs = m.natAbs / 10:=by rw [hq];split <;> omega
   have e2:(m.tdiv 10 = 0) ↔ (m.natAbs / 10 = 0):=by rw [← e1];omega
   have e3:(dgB d ++ o).data.toList = [UInt8.ofNat (48 + d)] ++ o.data.toList:=by simp [dgB]
   rw [e1,e3,← List.append_assoc]
   by_cases h:m.natAbs / 10 = 0
   ·rw [if_pos h,if_pos (e2.2 h)]
   ·rw [if_neg h,if_neg (fun h2=>h (e2.1 h2))]
  have hdec:(m.tdiv 10).natAbs < m.natAbs:=by rw [hq];split <;> omega
  have hsg:(n < 0→m.tdiv 10 ≤ 0)∧(0 ≤ n→0 ≤ m.tdiv 10)∧(m.tdiv 10).natAbs ≤ 9223372036854775808:=by
   rw [hq]
   refine ⟨fun h=>?_,fun h=>?_,?_⟩ <;> split <;> omega
  refine ⟨by decide,fun hn=>?_,fun hn=>?_⟩
  ·have hk:=zDX (d:=d) hd9 (x:=IntKind.i64.wrap (0 - m.tmod 10)) (by rw [hr,zam (by split <;> omega) (by split <;> omega)];split <;> omega)
   rw [hk]
   refine ⟨by omega,by decide,zac (m.tdiv 10,dgB d ++ o) ⟨by simp (maxSteps:=9^7) -dsimp only [gr,reduceEqDiff,reduceLT,reduceAdd,reduceMod,Nat.reduceBEq,hw10],by simp (maxSteps:=9^7) -dsimp only [gr,reduceEqDiff,reduceLT,reduceAdd,reduceMod,Nat.reduceBEq,h3a],by simp (maxSteps:=9^7) -dsimp only [gr,reduceEqDiff,reduceLT,reduceAdd,reduceMod,Nat.reduceBEq,hk],hnew,hsg.1,hsg.2.1,hsg.2.2,by show (dgB d ++ o).size ≤ 19;omega⟩ hdec⟩
  ·have hk:=zDX (d:=d) hd9 (x:=m.tmod 10) (by rw [hr] at hn ⊢;split at hn <;> split <;> omega)
   rw [hk]
   refine ⟨by omega,by decide,zac (m.tdiv 10,dgB d ++ o) ⟨by simp (maxSteps:=9^7) -dsimp only [gr,reduceEqDiff,reduceLT,reduceAdd,reduceMod,Nat.reduceBEq,hw10],by simp (maxSteps:=9^7) -dsimp only [gr,reduceEqDiff,reduceLT,reduceAdd,reduceMod,Nat.reduceBEq,h3a],by simp (maxSteps:=9^7) -dsimp only [gr,reduceEqDiff,reduceLT,reduceAdd,reduceMod,Nat.reduceBEq,hk],hnew,hsg.1,hsg.2.1,hsg.2.2,by show (dgB d ++ o).size ≤ 19;omega⟩ hdec⟩
end Go.Proofs.YtjikeknpidbceaaGreatDoor
namespace Go.Proofs.YtjikeknpidbceaaGreatDoor
open Go.Abs Go.Shelf
open Nat (reduceEqDiff reduceMod reduceAdd reduceLT reduceLeDiff reduceSub reduceMul)
set_option linter.unusedSimpArgs false
set_option linter.unusedVariables false
def zHb:Go.Shelf.Ren where
 f:=fun x=>match x with | 171=>81 | 243=>100 | 246=>111 | 283=>118 | 284=>119 | 285=>120 | 286=>121 | 129=>124 | 317=>123 | 318=>125 | 319=>126 | 320=>127 | 337=>128 | 338=>129 | n=>n
 t:=fun x=>match x with | 3=>3 | 9=>9 | 2=>2 | 4=>4 | 171=>114 | 0=>0 | 53=>49 | 37=>22 | 5=>5 | 173=>116 | 212=>120 | 51=>95 | 20=>20 | 213=>121 | 46=>70 | 232=>122 | 233=>123 | n=>n
 g:=fun x=>match x with | 17=>1 | 18=>2 | 19=>3 | n=>n
theorem zFo:LaysM.n171 Tryz.prog zHb where
 mixed:=mixed
 f129:=(show Tryz.prog.funcs[124]? = some _ from Tryz.func124).trans (congrArg some (by kernel_rfl))
 f171:=(show Tryz.prog.funcs[81]? = some _ from Tryz.func81).trans (congrArg some (by kernel_rfl))
 f243:=(show Tryz.prog.funcs[100]? = some _ from Tryz.func100).trans (congrArg some (by kernel_rfl))
 f246:=(show Tryz.prog.funcs[111]? = some _ from Tryz.func111).trans (congrArg some (by kernel_rfl))
 f283:=(show Tryz.prog.funcs[118]? = some _ from Tryz.func118).trans (congrArg some (by kernel_rfl))
 f284:=(show Tryz.prog.funcs[119]? = some _ from Tryz.func119).trans (congrArg some (by kernel_rfl))
 f285:=(show Tryz.prog.funcs[120]? = some _ from Tryz.func120).trans (congrArg some (by kernel_rfl))
 f286:=(show Tryz.prog.funcs[121]? = some _ from Tryz.func121).trans (congrArg some (by kernel_rfl))
 f317:=(show Tryz.prog.funcs[123]? = some _ from Tryz.func123).trans (congrArg some (by kernel_rfl))
 f318:=(show Tryz.prog.funcs[125]? = some _ from Tryz.func125).trans (congrArg some (by kernel_rfl))
 f319:=(show Tryz.prog.funcs[126]? = some _ from Tryz.func126).trans (congrArg some (by kernel_rfl))
 f320:=(show Tryz.prog.funcs[127]? = some _ from Tryz.func127).trans (congrArg some (by kernel_rfl))
 f337:=(show Tryz.prog.funcs[128]? = some _ from Tryz.func128).trans (congrArg some (by kernel_rfl))
 f338:=(show Tryz.prog.funcs[129]? = some _ from Tryz.func129).trans (congrArg some (by kernel_rfl))
 t0:=Tryz.underlying0
 a0:=Tryz.isAgg0
 z0:=Tryz.sizeOf0
 v0:=Tryz.zeroValue0
 t2:=Tryz.underlying2
 a2:=Tryz.isAgg2
 z2:=Tryz.sizeOf2
 v2:=Tryz.zeroValue2
 t3:=Tryz.underlying3
 a3:=Tryz.isAgg3
 z3:=Tryz.sizeOf3
 v3:=Tryz.zeroValue3
 t4:=Tryz.underlying4
 a4:=Tryz.isAgg4
 z4:=Tryz.sizeOf4
 v4:=Tryz.zeroValue4
 t5:=Tryz.underlying5
 a5:=Tryz.isAgg5
 z5:=Tryz.sizeOf5
 v5:=Tryz.zeroValue5
 t9:=Tryz.underlying9
 a9:=Tryz.isAgg9
 z9:=Tryz.sizeOf9
 v9:=Tryz.zeroValue9
 t20:=Tryz.underlying20
 a20:=Tryz.isAgg20
 z20:=Tryz.sizeOf20
 v20:=Tryz.zeroValue20
 t37:=Tryz.underlying22
 a37:=Tryz.isAgg22
 z37:=Tryz.sizeOf22
 v37:=Tryz.zeroValue22
 t46:=Tryz.underlying70
 a46:=Tryz.isAgg70
 z46:=Tryz.sizeOf70
 v46:=Tryz.zeroValue70
 t51:=Tryz.underlying95
 a51:=Tryz.isAgg95
 z51:=Tryz.sizeOf95
 v51:=Tryz.zeroValue95
 t53:=Tryz.underlying49
 a53:=Tryz.isAgg49
 z53:=Tryz.sizeOf49
 v53:=Tryz.zeroValue49
 t171:=Tryz.underlying114
 a171:=Tryz.isAgg114
 z171:=Tryz.sizeOf114
 v171:=Tryz.zeroValue114
 t173:=Tryz.underlying116
 a173:=Tryz.isAgg116
 z173:=Tryz.sizeOf116
 v173:=Tryz.zeroValue116
 t212:=Tryz.underlying120
 a212:=Tryz.isAgg120
 z212:=Tryz.sizeOf120
 v212:=Tryz.zeroValue120
 t213:=Tryz.underlying121
 a213:=Tryz.isAgg121
 z213:=Tryz.sizeOf121
 t232:=Tryz.underlying122
 a232:=Tryz.isAgg122
 z232:=Tryz.sizeOf122
 v232:=Tryz.zeroValue122
 t233:=Tryz.underlying123
 a233:=Tryz.isAgg123
 z233:=Tryz.sizeOf123
 v233:=Tryz.zeroValue123
 g17:=by kernel_rfl
 g18:=by kernel_rfl
 g19:=by kernel_rfl
 i0:=by kernel_rfl
 i2:=by kernel_rfl
 i3:=by kernel_rfl
 i4:=by kernel_rfl
 i5:=by kernel_rfl
 i9:=by kernel_rfl
 i20:=by kernel_rfl
 i37:=by kernel_rfl
 i46:=by kernel_rfl
 i51:=by kernel_rfl
 i53:=by kernel_rfl
 i171:=by kernel_rfl
 i173:=by kernel_rfl
 i212:=by kernel_rfl
 i232:=by kernel_rfl
 i233:=by kernel_rfl
 m17:=by kernel_rfl
 m18:=by kernel_rfl
 m19:=by kernel_rfl
theorem zlY {n:Int} (h0:-9223372036854775808 ≤ n) (h1:n ≤ 9223372036854775807):AC Tryz.prog 81 [int n] (.im (str (zdG n))) :=
 zEF zFo ⟨_,Tryz.func81,by kernel_rfl,by kernel_rfl⟩ (fun _ h=>h) h0 h1
theorem zc4 {n:Int} (h0:-9223372036854775808 ≤ n) (h1:n ≤ 9223372036854775807):AC Tryz.prog 44 [int n] (.im (str (zdG n))):=by
 refine AC.go (rs:=[.tmp 2]) za0 mixed Tryz.func44 rfl rfl rfl (by kernel_rfl) fun hl=>?_
 simp (maxSteps:=9^7) -dsimp only [↓gp,gq,reduceCtorEq,reduceEqDiff,reduceLT,reduceLeDiff,reduceAdd,reduceMul,reduceSub,Nat.reduceBEq,Int.reduceToNat,Int.reduceLE,Int.reduceLT,Int.reduceNeg,reduceMod,gT]
 refine zab (zlY h0 h1) ?_
 simp (maxSteps:=9^7) -dsimp only [↓gp,gq,reduceCtorEq,reduceEqDiff,reduceLT,reduceLeDiff,reduceAdd,reduceMul,reduceSub,Nat.reduceBEq,Int.reduceToNat,Int.reduceLE,Int.reduceLT,Int.reduceNeg,reduceMod,gT]
def zDY:Go.Shelf.Ren where
 f:=fun x=>match x with | 156=>45 | 165=>82 | 166=>83 | 169=>84 | 240=>101 | 241=>102 | 276=>112 | 277=>113 | n=>n
 t:=fun x=>match x with | 31=>59 | 9=>9 | 3=>3 | 4=>4 | 0=>0 | 20=>20 | 72=>86 | 76=>90 | 70=>84 | 37=>22 | 75=>89 | 127=>102 | 164=>108 | 5=>5 | 80=>92 | n=>n
 g:=fun x=>x
theorem zFr:Lays.n156 Tryz.prog zDY where
 mixed:=mixed
 f156:=(show Tryz.prog.funcs[45]? = some _ from Tryz.func45).trans (congrArg some (by kernel_rfl))
 f165:=(show Tryz.prog.funcs[82]? = some _ from Tryz.func82).trans (congrArg some (by kernel_rfl))
 f166:=(show Tryz.prog.funcs[83]? = some _ from Tryz.func83).trans (congrArg some (by kernel_rfl))
 f169:=(show Tryz.prog.funcs[84]? = some _ from Tryz.func84).trans (congrArg some (by kernel_rfl))
 f240:=(show Tryz.prog.funcs[101]? = some _ from Tryz.func101).trans (congrArg some (by kernel_rfl))
 f241:=(show Tryz.prog.funcs[102]? = some _ from Tryz.func102).trans (congrArg some (by kernel_rfl))
 f276:=(show Tryz.prog.funcs[112]? = some _ from Tryz.func112).trans (congrArg some (by kernel_rfl))
 f277:=(show Tryz.prog.funcs[113]? = some _ from Tryz.func113).trans (congrArg some (by kernel_rfl))
 t0:=Tryz.underlying0
 a0:=Tryz.isAgg0
 z0:=Tryz.sizeOf0
 v0:=Tryz.zeroValue0
 t3:=Tryz.underlying3
 a3:=Tryz.isAgg3
 z3:=Tryz.sizeOf3
 v3:=Tryz.zeroValue3
 t4:=Tryz.underlying4
 a4:=Tryz.isAgg4
 z4:=Tryz.sizeOf4
 v4:=Tryz.zeroValue4
 t9:=Tryz.underlying9
 a9:=Tryz.isAgg9
 z9:=Tryz.sizeOf9
 v9:=Tryz.zeroValue9
 t20:=Tryz.underlying20
 a20:=Tryz.isAgg20
 z20:=Tryz.sizeOf20
 v20:=Tryz.zeroValue20
 t31:=Tryz.underlying59
 a31:=Tryz.isAgg59
 z31:=Tryz.sizeOf59
 v31:=Tryz.zeroValue59
 t37:=Tryz.underlying22
 a37:=Tryz.isAgg22
 z37:=Tryz.sizeOf22
 v37:=Tryz.zeroValue22
 t70:=Tryz.underlying84
 a70:=Tryz.isAgg84
 z70:=Tryz.sizeOf84
 v70:=Tryz.zeroValue84
 t72:=Tryz.underlying86
 a72:=Tryz.isAgg86
 z72:=Tryz.sizeOf86
 v72:=Tryz.zeroValue86
 t75:=Tryz.underlying89
 a75:=Tryz.isAgg89
 z75:=Tryz.sizeOf89
 v75:=Tryz.zeroValue89
 t76:=Tryz.underlying90
 a76:=Tryz.isAgg90
 z76:=Tryz.sizeOf90
 v76:=Tryz.zeroValue90
 t127:=Tryz.underlying102
 a127:=Tryz.isAgg102
 z127:=Tryz.sizeOf102
 v127:=Tryz.zeroValue102
 t164:=Tryz.underlying108
 a164:=Tryz.isAgg108
 z164:=Tryz.sizeOf108
 v164:=Tryz.zeroValue108
theorem zCB:Builder.Extra Tryz.prog zDY where
 sizeBuilder:=by kernel_rfl
 liesBuilder:=by kernel_rfl
 t5:=Tryz.underlying5
 a5:=Tryz.isAgg5
 z5:=Tryz.sizeOf5
 v5:=Tryz.zeroValue5
 infoByte:=by kernel_rfl
 cellsByte:=by kernel_rfl
 sizeByte:=by kernel_rfl
 neB5:=by decide
theorem zlZ (l:List ByteArray) (sep:ByteArray) (hN:l.length ≤ 140737488355328) (hlen:(zoU l sep).size ≤ 140737488355328):AC Tryz.prog 45 [.sl false 1 (sL l),str sep] (.im (str (zoU l sep))) :=
 zFq zFr zCB ⟨_,Tryz.func45,by kernel_rfl,by kernel_rfl⟩ (fun h=>h) l sep hN hlen
end Go.Proofs.YtjikeknpidbceaaGreatDoor
namespace Go.Proofs.YtjikeknpidbceaaGreatDoor
open Go.Abs
set_option linter.unusedSimpArgs false
set_option linter.unusedVariables false
theorem zlw {m:Nat} {l:List ByteArray} {sep:ByteArray} (h:∀ i,i < l.length→(l.getD i ⟨#[]⟩).size ≤ m) (hs:sep.size ≤ 1):∀ i,i ≤ l.length→(zdH l sep i).size ≤ (m + 1) * i:=by
 intro i
 induction i with
 | zero=>intro _;exact Nat.le_refl _
 | succ i ih =>
   intro hi
   have h1:=ih (by omega)
   have h2:=h i (by omega)
   have e:(m + 1) * (i + 1) = (m + 1) * i + (m + 1):=Nat.mul_succ _ _
   unfold zdH
   rw [ByteArray.size_append]
   split
   ·omega
   ·rw [ByteArray.size_append];omega
open Nat (reduceEqDiff reduceMod reduceAdd reduceLT reduceLeDiff reduceSub reduceMul)
def zrR (i j:Nat) (x:Int):ByteArray:=zdG i ++ ⟨#[58]⟩ ++ zdG j ++ ⟨#[61]⟩ ++ zdG x
def zhD (i:Nat) (r:List Int):Nat→List ByteArray | 0=>[] | k + 1=>if r.getD k 0 = 0 then zhD i r k else zhD i r k ++ [zrR i k (r.getD k 0)]
def zh9 (M:Mat):Nat→List ByteArray | 0=>[] | i + 1=>zh9 M i ++ zhD i (M.getD i []) M.length
theorem zoS (i:Nat) (r:List Int):∀ k,(zhD i r k).length ≤ k:=by
 intro k
 induction k with
 | zero=>exact Nat.le_refl _
 | succ k ih =>
   rw [zhD]
   split
   ·omega
   ·rw [List.length_append,List.length_singleton];omega
theorem zvQ {M:Mat} (hM:M.length ≤ 7):∀ i,(zh9 M i).length ≤ 7 * i:=by
 intro i
 induction i with
 | zero=>exact Nat.le_refl _
 | succ i ih=>rw [zh9,List.length_append];have:=zoS i (M.getD i []) M.length;omega
theorem zw6 {i j:Nat} {x:Int} (hi:i ≤ 100) (hj:j ≤ 100) (hx:-100000 ≤ x∧x ≤ 100000):(zrR i j x).size ≤ 62:=by
 have h1:=zdk (n:=i) (by omega) (by omega)
 have h2:=zdk (n:=j) (by omega) (by omega)
 have h3:=zdk (n:=x) (by omega) (by omega)
 unfold zrR
 simp only [ByteArray.size_append]
 show _ + 1 + _ + 1 + _ ≤ 62
 omega
theorem zCz {i:Nat} {r:List Int} (hi:i ≤ 100) (hr:∀ k,-100000 ≤ r.getD k 0∧r.getD k 0 ≤ 100000):∀ k,k ≤ 100→∀ b ∈ zhD i r k,b.size ≤ 62:=by
 intro k
 induction k with
 | zero=>intro _ b hb;cases hb
 | succ k ih =>
   intro hk b hb
   rw [zhD] at hb
   split at hb
   ·exact ih (by omega) b hb
   ·rcases List.mem_append.1 hb with hb | hb
    ·exact ih (by omega) b hb
    ·rw [List.mem_singleton.1 hb];exact zw6 hi (by omega) (hr k)
theorem zvR {M:Mat} (h:SqB M):∀ i,i ≤ 7→∀ b ∈ zh9 M i,b.size ≤ 62:=by
 intro i
 induction i with
 | zero=>intro _ b hb;cases hb
 | succ i ih =>
   intro hi b hb
   rcases List.mem_append.1 (show b ∈ zh9 M i ++ zhD i (M.getD i []) M.length from hb) with hb | hb
   ·exact ih (by omega) b hb
   ·exact zCz (by omega) (fun k=>h.small i k) M.length (by have:=h.len;omega) b hb
theorem zBb {i j:Nat} {x:Int} (hi:i ≤ 100) (hj:j ≤ 100) (hx:-100000 ≤ x∧x ≤ 100000):(zdG i).size ≤ 20∧(zdG j).size ≤ 20∧(zdG x).size ≤ 20 :=
 ⟨zdk (by omega) (by omega),zdk (by omega) (by omega),zdk (by omega) (by omega)⟩
noncomputable def zw7 (n:Int) (xs:List Int) (p:Int):ByteArray:=zoU (zh9 (zfR n xs p) (zfR n xs p).length) ⟨#[32]⟩
theorem zi1 (n:Int) (xs:List Int) (p:Int):AC Tryz.prog 15 [.ag [int n,zbr xs],int p] (.im (str (zw7 n xs p))):=by
 refine AC.go (rs:=[.tmp 4]) za0 mixed Tryz.func15 rfl rfl rfl (by kernel_rfl) fun hl=>?_
 simp (maxSteps:=9^7) -dsimp only [↓gp,gq,reduceCtorEq,reduceEqDiff,reduceLT,reduceLeDiff,reduceAdd,reduceMul,reduceSub,Nat.reduceBEq,Int.reduceToNat,Int.reduceLE,Int.reduceLT,Int.reduceNeg,reduceMod,gT]
 refine zab (zcv n xs p) ?_
 have hsq:=zh8 n xs p
 unfold zw7
 generalize zfR n xs p = M at *
 have hl7:=hsq.len
 simp (maxSteps:=9^7) -dsimp only [↓gp,gq,reduceCtorEq,reduceEqDiff,reduceLT,reduceLeDiff,reduceAdd,reduceMul,reduceSub,Nat.reduceBEq,Int.reduceToNat,Int.reduceLE,Int.reduceLT,Int.reduceNeg,reduceMod,gT]
 have hz:sL (zh9 M 0) = []:=rfl
 refine zan (fun (za:Nat × Nat) s=>match za with | (i,v)=>s.sl 5 = .own 9 v∧s.rw 9 = ⟨v,.sli 9 1 false (sL (zh9 M i))⟩∧s.sl 6 = .own 12 1∧s.rw 12 = ⟨1,.sli 24 1 false (iLL M)⟩∧s.sl 7 = int i∧(i ≤ M.length)) (fun (i,v)=>M.length - i) ((0,1)) (by refine ⟨?_,?_,?_,?_,?_,by omega⟩ <;> (first | (simp (maxSteps:=9^7) -dsimp only [gr,reduceEqDiff,reduceLT,reduceAdd,reduceMod,Nat.reduceBEq,hz];first | done | rfl | (simp;done)) | assumption | rfl)) ?_
 intro (i,v) sa ⟨h5a,r9a,h6a,r12a,h7a,hIa⟩
 have htl:=zvQ hl7 i
 simp (maxSteps:=9^7) -dsimp only [↓gp,gq,reduceCtorEq,reduceEqDiff,reduceLT,reduceLeDiff,reduceAdd,reduceMul,reduceSub,Nat.reduceBEq,Int.reduceToNat,Int.reduceLE,Int.reduceLT,Int.reduceNeg,reduceMod,gT,h5a,r9a,h6a,r12a,h7a]
 refine ⟨fun h=>?_,fun h=>?_⟩
 ·have hr:=hsq.row i h
  have hz2:sL (zh9 M i ++ zhD i (M.getD i []) 0) = sL (zh9 M i):=by rw [zhD,List.append_nil]
  refine zan (fun (zb:Nat × Nat) s=>match zb with | (j,u)=>s.sl 5 = .own 9 u∧s.rw 9 = ⟨u,.sli 9 1 false (sL (zh9 M i ++ zhD i (M.getD i []) j))⟩∧s.sl 6 = .own 12 1∧s.rw 12 = ⟨1,.sli 24 1 false (iLL M)⟩∧s.sl 7 = int i∧s.sl 8 = int j∧(j ≤ M.length)) (fun (j,u)=>M.length - j) ((0,v)) (by refine ⟨?_,?_,?_,?_,?_,?_,by omega⟩ <;> (first | (simp (maxSteps:=9^7) -dsimp only [gr,reduceEqDiff,reduceLT,reduceAdd,reduceMod,Nat.reduceBEq,h5a,r9a,h6a,r12a,h7a,hz2];first | done | rfl | (simp;done)) | assumption | rfl)) ?_
  intro (j,u) sb ⟨h5b,r9b,h6b,r12b,h7b,h8b,hIb⟩
  have hrl:=zoS i (M.getD i []) j
  have hx:=hsq.small i j
  simp (maxSteps:=9^7) -dsimp only [↓gp,gq,reduceCtorEq,reduceEqDiff,reduceLT,reduceLeDiff,reduceAdd,reduceMul,reduceSub,Nat.reduceBEq,Int.reduceToNat,Int.reduceLE,Int.reduceLT,Int.reduceNeg,reduceMod,gT,h5b,r9b,h6b,r12b,h7b,h8b,hr]
  refine ⟨fun h2=>⟨h,h,h2,h2,fun h0=>?_,fun h0=>?_⟩,fun h2=>?_⟩
  ·have hx0:(M.getD i []).getD j 0 ≠ 0:=by simpa using h0
   have hcs:=zBb (i:=i) (j:=j) (by omega) (by omega) hx
   have e:zhD i (M.getD i []) (j + 1) = zhD i (M.getD i []) j ++ [zrR i j ((M.getD i []).getD j 0)]:=by rw [zhD,if_neg hx0]
   refine ⟨by kernel_rfl,zab (zcI (n:=(i:Nat)) (by omega) (by omega)) ?_⟩
   simp (maxSteps:=9^7) -dsimp only [↓gp,gq,reduceCtorEq,reduceEqDiff,reduceLT,reduceLeDiff,reduceAdd,reduceMul,reduceSub,Nat.reduceBEq,Int.reduceToNat,Int.reduceLE,Int.reduceLT,Int.reduceNeg,reduceMod,gT,h5b,r9b,h6b,r12b,h7b,h8b,hr]
   refine ⟨by show _ + 1 ≤ _;omega,zab (zcI (n:=(j:Nat)) (by omega) (by omega)) ?_⟩
   simp (maxSteps:=9^7) -dsimp only [↓gp,gq,reduceCtorEq,reduceEqDiff,reduceLT,reduceLeDiff,reduceAdd,reduceMul,reduceSub,Nat.reduceBEq,Int.reduceToNat,Int.reduceLE,Int.reduceLT,Int.reduceNeg,reduceMod,gT,h5b,r9b,h6b,r12b,h7b,h8b,hr]
   have s1:(zdG (i:Int) ++ ⟨#[58]⟩).size ≤ 21:=by rw [ByteArray.size_append];show _ + 1 ≤ 21;omega
   have s2:(zdG (i:Int) ++ ⟨#[58]⟩ ++ zdG (j:Int)).size ≤ 41:=by rw [ByteArray.size_append];omega
   have s3:(zdG (i:Int) ++ ⟨#[58]⟩ ++ zdG (j:Int) ++ ⟨#[61]⟩).size ≤ 42:=by rw [ByteArray.size_append];show _ + 1 ≤ 42;omega
   refine ⟨by omega,by show _ + 1 ≤ _;omega,h,h,h2,h2,zab (zcI (n:=(M.getD i []).getD j 0) (by omega) (by omega)) ?_⟩
   simp (maxSteps:=9^7) -dsimp only [↓gp,gq,reduceCtorEq,reduceEqDiff,reduceLT,reduceLeDiff,reduceAdd,reduceMul,reduceSub,Nat.reduceBEq,Int.reduceToNat,Int.reduceLE,Int.reduceLT,Int.reduceNeg,reduceMod,gT,h5b,r9b,h6b,r12b,h7b,h8b,hr]
   have e2:sL (zh9 M i ++ zhD i (M.getD i []) j) ++ sL [zrR i j ((M.getD i []).getD j 0)] = sL (zh9 M i ++ zhD i (M.getD i []) (j + 1)):=by rw [e,← List.append_assoc];simp [sL]
   refine ⟨by omega,by rw [List.length_append];omega,by kernel_rfl,zac ((j + 1,u + 1)) (by refine ⟨?_,?_,?_,?_,?_,?_,by dsimp only;omega⟩ <;> (first | (simp (maxSteps:=9^7) -dsimp only [gr,reduceEqDiff,reduceLT,reduceAdd,reduceMod,Nat.reduceBEq,h5b,r9b,h6b,r12b,h7b,h8b,zaa h2 (show M.length ≤ 9223372036854775807 by omega),e,zrR,List.append_assoc];first | done | rfl | (simp;done)) | assumption | rfl)) (by first | omega | (simp only;omega) | (dsimp only;omega) | (show _ < _;simp;omega))⟩
  ·have hx0:(M.getD i []).getD j 0 = 0:=by simpa using h0
   have e:zhD i (M.getD i []) (j + 1) = zhD i (M.getD i []) j:=by rw [zhD,if_pos hx0]
   exact zac ((j + 1,u)) (by refine ⟨?_,?_,?_,?_,?_,?_,by dsimp only;omega⟩ <;> (first | (simp (maxSteps:=9^7) -dsimp only [gr,reduceEqDiff,reduceLT,reduceAdd,reduceMod,Nat.reduceBEq,h5b,r9b,h6b,r12b,h7b,h8b,zaa h2 (by omega),e];first | done | rfl | (simp;done)) | assumption | rfl)) (by first | omega | (simp only;omega) | (dsimp only;omega) | (show _ < _;simp;omega))
  ·obtain rfl:j = M.length:=by omega
   exact zac ((i + 1,u)) (by refine ⟨?_,?_,?_,?_,?_,by dsimp only;omega⟩ <;> (first | (simp (maxSteps:=9^7) -dsimp only [gr,reduceEqDiff,reduceLT,reduceAdd,reduceMod,Nat.reduceBEq,h5a,r9a,h6a,r12a,h7a,h5b,r9b,h6b,r12b,h7b,h8b,zaa h (by omega),zh9];first | done | rfl | (simp;done)) | assumption | rfl)) (by first | omega | (simp only;omega) | (dsimp only;omega) | (show _ < _;simp;omega))
 ·obtain rfl:i = M.length:=by omega
  have hall:=zvR hsq M.length hl7
  have hsz:∀ k,k ≤ (zh9 M M.length).length→(zdH (zh9 M M.length) ⟨#[32]⟩ k).size ≤ 63 * k:=zlw (m:=62) (fun k hk=>hall _ (zax ⟨#[]⟩ hk)) (Nat.le_refl 1)
  refine zab (zsV _ ⟨#[32]⟩ (by omega) (fun k hk=>?_)) ?_
  ·have:=hsz k hk
   have h1:(⟨#[32]⟩:ByteArray).size = 1:=rfl
   omega
  ·have e:=zvS (zh9 M M.length) ⟨#[32]⟩ (zh9 M M.length).length (Nat.le_refl _)
   rw [List.take_length] at e
   rw [e]
   simp (maxSteps:=9^7) -dsimp only [↓gp,gq,reduceCtorEq,reduceEqDiff,reduceLT,reduceLeDiff,reduceAdd,reduceMul,reduceSub,Nat.reduceBEq,Int.reduceToNat,Int.reduceLE,Int.reduceLT,Int.reduceNeg,reduceMod,gT,h5a,r9a,h6a,r12a,h7a]
theorem zeI (n:Int) (xs:List Int) (p:Int):AC Tryz.prog 14 [.ag [int n,zbr xs],int p] (.im (str (zw7 n xs p))):=by
 refine AC.go (rs:=[.tmp 4]) za0 mixed Tryz.func14 rfl rfl rfl (by kernel_rfl) fun hl=>?_
 simp (maxSteps:=9^7) -dsimp only [↓gp,gq,reduceCtorEq,reduceEqDiff,reduceLT,reduceLeDiff,reduceAdd,reduceMul,reduceSub,Nat.reduceBEq,Int.reduceToNat,Int.reduceLE,Int.reduceLT,Int.reduceNeg,reduceMod,gT]
 refine zab (zcw n xs p) ?_
 have hsq:=zh8 n xs p
 unfold zw7
 generalize zfR n xs p = M at *
 have hl7:=hsq.len
 simp (maxSteps:=9^7) -dsimp only [↓gp,gq,reduceCtorEq,reduceEqDiff,reduceLT,reduceLeDiff,reduceAdd,reduceMul,reduceSub,Nat.reduceBEq,Int.reduceToNat,Int.reduceLE,Int.reduceLT,Int.reduceNeg,reduceMod,gT]
 have hz:sL (zh9 M 0) = []:=rfl
 refine zan (fun (za:Nat × Nat) s=>match za with | (i,v)=>s.sl 5 = .own 5 v∧s.rw 5 = ⟨v,.sli 9 1 false (sL (zh9 M i))⟩∧s.sl 12 = .own 12 1∧s.rw 12 = ⟨1,.sli 24 1 false (iLL M)⟩∧s.sl 13 = int M.length∧s.sl 14 = int i∧(i ≤ M.length)) (fun (i,v)=>M.length - i) ((0,1)) (by refine ⟨?_,?_,?_,?_,?_,?_,by omega⟩ <;> (first | (simp (maxSteps:=9^7) -dsimp only [gr,reduceEqDiff,reduceLT,reduceAdd,reduceMod,Nat.reduceBEq,hz];first | done | rfl | (simp;done)) | assumption | rfl)) ?_
 intro (i,v) sa ⟨h5a,r5a,h12a,r12a,h13a,h14a,hIa⟩
 have htl:=zvQ hl7 i
 simp (maxSteps:=9^7) -dsimp only [↓gp,gq,reduceCtorEq,reduceEqDiff,reduceLT,reduceLeDiff,reduceAdd,reduceMul,reduceSub,Nat.reduceBEq,Int.reduceToNat,Int.reduceLE,Int.reduceLT,Int.reduceNeg,reduceMod,gT,h5a,r5a,h12a,r12a,h13a,h14a]
 refine ⟨fun h=>⟨h,h,?_⟩,fun h=>?_⟩
 ·have hr:=hsq.row i h
  have hz2:sL (zh9 M i ++ zhD i (M.getD i []) 0) = sL (zh9 M i):=by rw [zhD,List.append_nil]
  refine zan (fun (zb:Nat × Nat) s=>match zb with | (j,u)=>s.sl 5 = .own 5 u∧s.rw 5 = ⟨u,.sli 9 1 false (sL (zh9 M i ++ zhD i (M.getD i []) j))⟩∧s.sl 6 = int i∧s.sl 12 = .own 12 1∧s.rw 12 = ⟨1,.sli 24 1 false (iLL M)⟩∧s.sl 13 = int M.length∧s.sl 14 = int i∧s.sl 19 = .sl true 1 (iL (M.getD i []))∧s.sl 20 = int M.length∧s.sl 21 = int j∧(j ≤ M.length)) (fun (j,u)=>M.length - j) ((0,v)) (by refine ⟨?_,?_,?_,?_,?_,?_,?_,?_,?_,?_,by omega⟩ <;> (first | (simp (maxSteps:=9^7) -dsimp only [gr,reduceEqDiff,reduceLT,reduceAdd,reduceMod,Nat.reduceBEq,h5a,r5a,h12a,r12a,h13a,h14a,hr,hz2];first | done | rfl | (simp;done)) | assumption | rfl)) ?_
  intro (j,u) sb ⟨h5b,r5b,h6b,h12b,r12b,h13b,h14b,h19b,h20b,h21b,hIb⟩
  have hrl:=zoS i (M.getD i []) j
  have hx:=hsq.small i j
  simp (maxSteps:=9^7) -dsimp only [↓gp,gq,reduceCtorEq,reduceEqDiff,reduceLT,reduceLeDiff,reduceAdd,reduceMul,reduceSub,Nat.reduceBEq,Int.reduceToNat,Int.reduceLE,Int.reduceLT,Int.reduceNeg,reduceMod,gT,h5b,r5b,h6b,h12b,r12b,h13b,h14b,h19b,h20b,h21b,hr]
  refine ⟨fun h2=>⟨h2,h2,fun h0=>?_,fun h0=>?_⟩,fun h2=>?_⟩
  ·have hx0:(M.getD i []).getD j 0 ≠ 0:=by simpa using h0
   have hcs:=zBb (i:=i) (j:=j) (by omega) (by omega) hx
   have e:zhD i (M.getD i []) (j + 1) = zhD i (M.getD i []) j ++ [zrR i j ((M.getD i []).getD j 0)]:=by rw [zhD,if_neg hx0]
   have s1:(zdG (i:Int) ++ ⟨#[58]⟩).size ≤ 21:=by rw [ByteArray.size_append];show _ + 1 ≤ 21;omega
   have s2:(zdG (i:Int) ++ ⟨#[58]⟩ ++ zdG (j:Int)).size ≤ 41:=by rw [ByteArray.size_append];omega
   have s3:(zdG (i:Int) ++ ⟨#[58]⟩ ++ zdG (j:Int) ++ ⟨#[61]⟩).size ≤ 42:=by rw [ByteArray.size_append];show _ + 1 ≤ 42;omega
   refine zab (zc4 (n:=(i:Nat)) (by omega) (by omega)) ?_
   simp (maxSteps:=9^7) -dsimp only [↓gp,gq,reduceCtorEq,reduceEqDiff,reduceLT,reduceLeDiff,reduceAdd,reduceMul,reduceSub,Nat.reduceBEq,Int.reduceToNat,Int.reduceLE,Int.reduceLT,Int.reduceNeg,reduceMod,gT,h5b,r5b,h6b,h12b,r12b,h13b,h14b,h19b,h20b,h21b,hr]
   refine ⟨by show _ + 1 ≤ _;omega,zab (zc4 (n:=(j:Nat)) (by omega) (by omega)) ?_⟩
   simp (maxSteps:=9^7) -dsimp only [↓gp,gq,reduceCtorEq,reduceEqDiff,reduceLT,reduceLeDiff,reduceAdd,reduceMul,reduceSub,Nat.reduceBEq,Int.reduceToNat,Int.reduceLE,Int.reduceLT,Int.reduceNeg,reduceMod,gT,h5b,r5b,h6b,h12b,r12b,h13b,h14b,h19b,h20b,h21b,hr]
   refine ⟨by omega,by show _ + 1 ≤ _;omega,zab (zc4 (n:=(M.getD i []).getD j 0) (by omega) (by omega)) ?_⟩
   simp (maxSteps:=9^7) -dsimp only [↓gp,gq,reduceCtorEq,reduceEqDiff,reduceLT,reduceLeDiff,reduceAdd,reduceMul,reduceSub,Nat.reduceBEq,Int.reduceToNat,Int.reduceLE,Int.reduceLT,Int.reduceNeg,reduceMod,gT,h5b,r5b,h6b,h12b,r12b,h13b,h14b,h19b,h20b,h21b,hr]
   refine ⟨by omega,by rw [List.length_append];omega,zac ((j + 1,u + 1)) (by refine ⟨?_,?_,?_,?_,?_,?_,?_,?_,?_,?_,by dsimp only;omega⟩ <;> (first | (simp (maxSteps:=9^7) -dsimp only [gr,reduceEqDiff,reduceLT,reduceAdd,reduceMod,Nat.reduceBEq,h5b,r5b,h6b,h12b,r12b,h13b,h14b,h19b,h20b,h21b,zaa h2 (show M.length ≤ 9223372036854775807 by omega),e,zrR,List.append_assoc,hr];first | done | rfl | (simp;done)) | assumption | rfl)) (by first | omega | (simp only;omega) | (dsimp only;omega) | (show _ < _;simp;omega))⟩
  ·have hx0:(M.getD i []).getD j 0 = 0:=by simpa using h0
   have e:zhD i (M.getD i []) (j + 1) = zhD i (M.getD i []) j:=by rw [zhD,if_pos hx0]
   exact zac ((j + 1,u)) (by refine ⟨?_,?_,?_,?_,?_,?_,?_,?_,?_,?_,by dsimp only;omega⟩ <;> (first | (simp (maxSteps:=9^7) -dsimp only [gr,reduceEqDiff,reduceLT,reduceAdd,reduceMod,Nat.reduceBEq,h5b,r5b,h6b,h12b,r12b,h13b,h14b,h19b,h20b,h21b,zaa h2 (by omega),e,hr];first | done | rfl | (simp;done)) | assumption | rfl)) (by first | omega | (simp only;omega) | (dsimp only;omega) | (show _ < _;simp;omega))
  ·obtain rfl:j = M.length:=by omega
   exact zac ((i + 1,u)) (by refine ⟨?_,?_,?_,?_,?_,?_,by dsimp only;omega⟩ <;> (first | (simp (maxSteps:=9^7) -dsimp only [gr,reduceEqDiff,reduceLT,reduceAdd,reduceMod,Nat.reduceBEq,h5a,r5a,h12a,r12a,h13a,h14a,h5b,r5b,h6b,h12b,r12b,h13b,h14b,h19b,h20b,h21b,zaa h (by omega),zh9];first | done | rfl | (simp;done)) | assumption | rfl)) (by first | omega | (simp only;omega) | (dsimp only;omega) | (show _ < _;simp;omega))
 ·obtain rfl:i = M.length:=by omega
  have hall:=zvR hsq M.length hl7
  have hsz:∀ k,k ≤ (zh9 M M.length).length→(zdH (zh9 M M.length) ⟨#[32]⟩ k).size ≤ 63 * k:=zlw (m:=62) (fun k hk=>hall _ (zax ⟨#[]⟩ hk)) (Nat.le_refl 1)
  have hjs:=hsz _ (Nat.le_refl _)
  rw [zvS _ _ _ (Nat.le_refl _),List.take_length] at hjs
  refine zab (zlZ (zh9 M M.length) ⟨#[32]⟩ (by omega) (by omega)) ?_
  simp (maxSteps:=9^7) -dsimp only [↓gp,gq,reduceCtorEq,reduceEqDiff,reduceLT,reduceLeDiff,reduceAdd,reduceMul,reduceSub,Nat.reduceBEq,Int.reduceToNat,Int.reduceLE,Int.reduceLT,Int.reduceNeg,reduceMod,gT,h5a,r5a,h12a,r12a,h13a,h14a]
theorem zee (bs:List Int) (hbs:bs.length ≤ 9223372036854775806):ADr Tryz.prog 5 [.sl false 1 (kL .u8 bs)] (kcp fun n xs p=>cxB n xs):=by
 refine AG.go (rs:=[.cell 2 26,.tmp 3]) za0 mixed Tryz.func5 rfl rfl rfl (by kernel_rfl) fun hl _ s hs hR=>?_
 simp (maxSteps:=9^7) -dsimp only [↓gp,gq,reduceCtorEq,reduceEqDiff,reduceLT,reduceLeDiff,reduceAdd,reduceMul,reduceSub,Nat.reduceBEq,Int.reduceToNat,Int.reduceLE,Int.reduceLT,Int.reduceNeg,reduceMod,gT,hs,hR]
 refine zjy (zf7 bs hbs) (.one (.sl _ _ _) .nil) fun rv ⟨n,xs,p,hrv,hq⟩=>?_
 subst hrv
 simp (maxSteps:=9^7) -dsimp only [↓gp,gq,reduceCtorEq,reduceEqDiff,reduceLT,reduceLeDiff,reduceAdd,reduceMul,reduceSub,Nat.reduceBEq,Int.reduceToNat,Int.reduceLE,Int.reduceLT,Int.reduceNeg,reduceMod,gT,hs,hR,zsT]
 exact ⟨_,_,⟨n,xs,p,rfl,hq⟩,.tup (.cons (.ag (.cons (.im _) (.cons (.fr (by simp (maxSteps:=9^7) -dsimp only [gr,reduceEqDiff,reduceLT,reduceAdd,reduceMod,Nat.reduceBEq] <;> rfl) (by decide)) .nil))) (.cons (.lf (.im _)) .nil)),by simp⟩
theorem zDZ (T:Tab) (s:St) (r1 r2 r3:ResultVar) (post:(Nat→Row)→PV→Prop):zxb T s [r1,r2,r3] post = zv5 T s [r1,r2,r3] (kk fun ps=>post s.rw (.tup ps)):=(rfl)
theorem zfN (bs:List Int) (hbs:bs.length ≤ 9223372036854775806):ADr Tryz.prog 7 [.sl false 1 (kL .u8 bs)] (fun rv=>∃ n xs p a,rv = .tup [.ag [.im (int n),.fr 3 1 (iL xs)],.im (int p),.im (int a)]∧cxB n xs):=by
 refine AG.go (rs:=[.cell 2 26,.tmp 3,.tmp 4]) za0 mixed Tryz.func7 rfl rfl rfl (by kernel_rfl) fun hl _ s hs hR=>?_
 simp (maxSteps:=9^7) -dsimp only [↓gp,gq,reduceCtorEq,reduceEqDiff,reduceLT,reduceLeDiff,reduceAdd,reduceMul,reduceSub,Nat.reduceBEq,Int.reduceToNat,Int.reduceLE,Int.reduceLT,Int.reduceNeg,reduceMod,gT,hs,hR]
 refine zjy (zf7 bs hbs) (.one (.sl _ _ _) .nil) fun rv ⟨n,xs,p,hrv,hq⟩=>?_
 subst hrv
 simp (maxSteps:=9^7) -dsimp only [↓gp,gq,reduceCtorEq,reduceEqDiff,reduceLT,reduceLeDiff,reduceAdd,reduceMul,reduceSub,Nat.reduceBEq,Int.reduceToNat,Int.reduceLE,Int.reduceLT,Int.reduceNeg,reduceMod,gT,hs,hR]
 refine ziF (ziC bs) (.one (.sl _ _ _) .nil) fun h0=>?_
 simp (maxSteps:=9^7) -dsimp only [↓gp,gq,reduceCtorEq,reduceEqDiff,reduceLT,reduceLeDiff,reduceAdd,reduceMul,reduceSub,Nat.reduceBEq,Int.reduceToNat,Int.reduceLE,Int.reduceLT,Int.reduceNeg,reduceMod,gT,hs,hR]
 refine ⟨by kernel_rfl,znA (zb0 bs hbs 4 (by decide)) (zhx _) (i:=0) (h:=h0) (by simp (maxSteps:=9^7) -dsimp only [gr,reduceEqDiff,reduceLT,reduceAdd,reduceMod,Nat.reduceBEq] <;> rfl) rfl ?_⟩
 obtain ⟨y,j3,g3,hr,hy⟩:=znz bs 4 0 h0
 rw [hr]
 simp (maxSteps:=9^7) -dsimp only [↓gp,gq,reduceCtorEq,reduceEqDiff,reduceLT,reduceLeDiff,reduceAdd,reduceMul,reduceSub,Nat.reduceBEq,Int.reduceToNat,Int.reduceLE,Int.reduceLT,Int.reduceNeg,reduceMod,gT,hs,hR,zDZ]
 exact ⟨_,_,⟨n,xs,p,_,rfl,hq⟩,.tup (.cons (.ag (.cons (.im _) (.cons (.fr (by simp (maxSteps:=9^7) -dsimp only [gr,reduceEqDiff,reduceLT,reduceAdd,reduceMod,Nat.reduceBEq] <;> rfl) (by decide)) .nil))) (.cons (.lf (.im _)) (.cons (.lf (.im _)) .nil))),by simp⟩
theorem zxf (s:St) (d e sz:Nat) (x y z:Value) (c:List PV):zai s d (.tup [.ag [.im (.v x),.fr e sz c],.im (.v y),.im (.v z)]) = (s.row d ⟨(s.rw d).ver + 1,.sli e sz false c⟩).put (some d) (.tup [.ag [.v x,.own d ((s.rw d).ver + 1)],.v y,.v z]):=by
 unfold zai
 simp [zbu,zcb,leaves,zas,zaQ,zbL,zbB,za9,zah,St.row,zhe]
 rfl
theorem zBk {n:Int} {xs:List Int} {p:Int} (h:¬ (zgC n xs = true∧isP p = true)):zlX n xs p = -1:=by
 unfold zlX
 split
 ·rfl
 ·refine zgu (fun d=>?_) _ _
  unfold zvK
  rw [zgq h];rfl
theorem zvU {n:Int} {xs:List Int} {p:Int} (h:¬ (zgC n xs = true∧isP p = true)):zw7 n xs p = ⟨#[]⟩:=by
 unfold zw7
 rw [zgq h];rfl
theorem zf8 (bs:List Int):AC Tryz.prog 3 [.sl false 1 (kL .u8 bs)] (.im (bool true)):=by
 refine AC.go (rs:=[.tmp 2]) za0 mixed Tryz.func3 rfl rfl rfl (by kernel_rfl) fun hl=>?_
 simp (maxSteps:=9^7) -dsimp only [↓gp,gq,reduceCtorEq,reduceEqDiff,reduceLT,reduceLeDiff,reduceAdd,reduceMul,reduceSub,Nat.reduceBEq,Int.reduceToNat,Int.reduceLE,Int.reduceLT,Int.reduceNeg,reduceMod,gT]
 refine zab (zw0 bs) ?_
 simp (maxSteps:=9^7) -dsimp only [↓gp,gq,reduceCtorEq,reduceEqDiff,reduceLT,reduceLeDiff,reduceAdd,reduceMul,reduceSub,Nat.reduceBEq,Int.reduceToNat,Int.reduceLE,Int.reduceLT,Int.reduceNeg,reduceMod,gT]
 intro hbs
 refine zjy (zee bs (by omega)) (.one (.sl _ _ _) .nil) fun rv ⟨n,xs,p,hrv,hq⟩=>?_
 subst hrv
 simp (maxSteps:=9^7) -dsimp only [↓gp,gq,reduceCtorEq,reduceEqDiff,reduceLT,reduceLeDiff,reduceAdd,reduceMul,reduceSub,Nat.reduceBEq,Int.reduceToNat,Int.reduceLE,Int.reduceLT,Int.reduceNeg,reduceMod,gT]
 refine zab (zgw n xs p) ?_
 simp (maxSteps:=9^7) -dsimp only [↓gp,gq,reduceCtorEq,reduceEqDiff,reduceLT,reduceLeDiff,reduceAdd,reduceMul,reduceSub,Nat.reduceBEq,Int.reduceToNat,Int.reduceLE,Int.reduceLT,Int.reduceNeg,reduceMod,gT]
 refine zjy (zfN bs (by omega)) (.one (.sl _ _ _) .nil) fun rv ⟨m,ys,q,a,hrv,_⟩=>?_
 subst hrv
 simp (maxSteps:=9^7) -dsimp only [↓gp,gq,reduceCtorEq,reduceEqDiff,reduceLT,reduceLeDiff,reduceAdd,reduceMul,reduceSub,Nat.reduceBEq,Int.reduceToNat,Int.reduceLE,Int.reduceLT,Int.reduceNeg,reduceMod,gT,zxf]
 refine zab (zh7 n xs p) ?_
 simp (maxSteps:=9^7) -dsimp only [↓gp,gq,reduceCtorEq,reduceEqDiff,reduceLT,reduceLeDiff,reduceAdd,reduceMul,reduceSub,Nat.reduceBEq,Int.reduceToNat,Int.reduceLE,Int.reduceLT,Int.reduceNeg,reduceMod,gT]
 refine ⟨by kernel_rfl,zab (zgv n xs p) ?_⟩
 simp (maxSteps:=9^7) -dsimp only [↓gp,gq,reduceCtorEq,reduceEqDiff,reduceLT,reduceLeDiff,reduceAdd,reduceMul,reduceSub,Nat.reduceBEq,Int.reduceToNat,Int.reduceLE,Int.reduceLT,Int.reduceNeg,reduceMod,gT,bne_self_eq_false,beq_self_eq_true,zaZ,zcr,zbW,zcs]
 refine zab (zeF m ys q a) ?_
 simp (maxSteps:=9^7) -dsimp only [↓gp,gq,reduceCtorEq,reduceEqDiff,reduceLT,reduceLeDiff,reduceAdd,reduceMul,reduceSub,Nat.reduceBEq,Int.reduceToNat,Int.reduceLE,Int.reduceLT,Int.reduceNeg,reduceMod,gT,bne_self_eq_false,beq_self_eq_true,zaZ,zcr,zbW,zcs]
 refine zab (zeG m ys q a) ?_
 simp (maxSteps:=9^7) -dsimp only [↓gp,gq,reduceCtorEq,reduceEqDiff,reduceLT,reduceLeDiff,reduceAdd,reduceMul,reduceSub,Nat.reduceBEq,Int.reduceToNat,Int.reduceLE,Int.reduceLT,Int.reduceNeg,reduceMod,gT,bne_self_eq_false,beq_self_eq_true,zaZ,zcr,zbW,zcs]
 refine zab (zh6 n xs p) ?_
 simp (maxSteps:=9^7) -dsimp only [↓gp,gq,reduceCtorEq,reduceEqDiff,reduceLT,reduceLeDiff,reduceAdd,reduceMul,reduceSub,Nat.reduceBEq,Int.reduceToNat,Int.reduceLE,Int.reduceLT,Int.reduceNeg,reduceMod,gT,bne_self_eq_false,beq_self_eq_true,zaZ,zcr,zbW,zcs]
 refine zab (zi0 _ _) ?_
 simp (maxSteps:=9^7) -dsimp only [↓gp,gq,reduceCtorEq,reduceEqDiff,reduceLT,reduceLeDiff,reduceAdd,reduceMul,reduceSub,Nat.reduceBEq,Int.reduceToNat,Int.reduceLE,Int.reduceLT,Int.reduceNeg,reduceMod,gT,bne_self_eq_false,beq_self_eq_true,zaZ,zcr,zbW,zcs]
 refine zab (zeI n xs p) ?_
 simp (maxSteps:=9^7) -dsimp only [↓gp,gq,reduceCtorEq,reduceEqDiff,reduceLT,reduceLeDiff,reduceAdd,reduceMul,reduceSub,Nat.reduceBEq,Int.reduceToNat,Int.reduceLE,Int.reduceLT,Int.reduceNeg,reduceMod,gT,bne_self_eq_false,beq_self_eq_true,zaZ,zcr,zbW,zcs]
 refine zab (zi1 n xs p) ?_
 simp (maxSteps:=9^7) -dsimp only [↓gp,gq,reduceCtorEq,reduceEqDiff,reduceLT,reduceLeDiff,reduceAdd,reduceMul,reduceSub,Nat.reduceBEq,Int.reduceToNat,Int.reduceLE,Int.reduceLT,Int.reduceNeg,reduceMod,gT,bne_self_eq_false,beq_self_eq_true,zaZ,zcr,zbW,zcs]
 by_cases hT:zgC n xs = true∧isP p = true
 ·have htb:=zG5 n xs p
  obtain ⟨w,rfl,h6,hlen,hrow,hent⟩:=zrM hT
  refine ⟨by kernel_rfl,fun h0=>?_,fun h0=>?_⟩
  ·rw [htb,hlen] at h0
   simp at h0
   omega
  refine zab (zcl w xs) ?_
  simp (maxSteps:=9^7) -dsimp only [↓gp,gq,reduceCtorEq,reduceEqDiff,reduceLT,reduceLeDiff,reduceAdd,reduceMul,reduceSub,Nat.reduceBEq,Int.reduceToNat,Int.reduceLE,Int.reduceLT,Int.reduceNeg,reduceMod,gT,zae]
  refine ⟨fun h1=>?_,fun h1=>?_⟩
  ·have hm:zfq (w:Int) xs = []:=List.eq_nil_of_length_eq_zero (by simpa using h1)
   have hdg:zlX (w:Int) xs p = -1:=if_pos hm
   rw [hdg];rfl
  ·have hm:zfq (w:Int) xs ≠ []:=fun e=>by rw [e] at h1;exact absurd h1 (by decide)
   obtain ⟨q2,rfl,hq2⟩:=zoJ hT.2
   haveI:NeZero q2:=⟨hq2⟩
   obtain ⟨hcx,_⟩:=zaO.1 hT.1
   obtain ⟨e,hew,hcm,hyes,hno⟩:=zD1 hT.1 hT.2 hm
   have hmis:∀ s ∈ zfq (w:Int) xs,s < 64:=fun s hs=>(zct.1 hs).1.1
   have hml:=zi2 (w:Int) xs
   refine zab (zhu w xs hcx) ?_
   simp (maxSteps:=9^7) -dsimp only [↓gp,gq,reduceCtorEq,reduceEqDiff,reduceLT,reduceLeDiff,reduceAdd,reduceMul,reduceSub,Nat.reduceBEq,Int.reduceToNat,Int.reduceLE,Int.reduceLT,Int.reduceNeg,reduceMod,gT]
   by_cases hE:(e:Int) = (zba (zat w (zag xs)):Int) - 1
   ·obtain ⟨d1,d2,d3,d4⟩:=hyes hE
    rw [decide_eq_true hE] at hcm
    have d0:decide (0 ≤ zlX (w:Int) xs q2) = true:=decide_eq_true (by omega)
    refine zab (zcx w (znD w xs) q2) ?_
    simp (maxSteps:=9^7) -dsimp only [↓gp,gq,reduceCtorEq,reduceEqDiff,reduceLT,reduceLeDiff,reduceAdd,reduceMul,reduceSub,Nat.reduceBEq,Int.reduceToNat,Int.reduceLE,Int.reduceLT,Int.reduceNeg,reduceMod,gT,hcm,d0,bne_self_eq_false,beq_self_eq_true,zaZ,zcr,zbW,zcs]
    generalize hL:zfq (w:Int) xs = L at *
    refine zan (fun (k:Nat) s=>s.sl 3 = .ref 3 1 0∧s.rw 3 = ⟨1,.box 26 [int w,.own 18 1]⟩∧s.rw 18 = ⟨1,.sli 3 1 false (iL xs)⟩∧s.sl 4 = int q2∧s.sl 5 = int (zlX (w:Int) xs q2)∧s.sl 10 = .own 78 1∧s.rw 78 = ⟨1,.sli 3 1 false (iL (ofN L))⟩∧s.sl 13 = int k∧(k ≤ L.length)) (fun k=>L.length - k) (0) (by refine ⟨?_,?_,?_,?_,?_,?_,?_,?_,Nat.zero_le _⟩ <;> (first | (simp (maxSteps:=9^7) -dsimp only [gr,reduceEqDiff,reduceLT,reduceAdd,reduceMod,Nat.reduceBEq,hL];first | done | rfl | (simp;done)) | assumption | rfl)) ?_
    intro k sa ⟨h3a,r3a,r18a,h4a,h5a,h10a,r78a,h13a,hIa⟩
    simp (maxSteps:=9^7) -dsimp only [↓gp,gq,reduceCtorEq,reduceEqDiff,reduceLT,reduceLeDiff,reduceAdd,reduceMul,reduceSub,Nat.reduceBEq,Int.reduceToNat,Int.reduceLE,Int.reduceLT,Int.reduceNeg,reduceMod,gT,h3a,r3a,r18a,h4a,h5a,h10a,r78a,h13a,zae,d0]
    refine ⟨fun hk=>?_,fun hk=>?_⟩
    ·have hge:(ofN L).getD k 0 = ((L.getD k 0:Nat):Int):=zaK hk
     have hpd:((zak (L.getD k 0):Nat):Int) = zlX (w:Int) xs q2:=by rw [d1];exact d4 _ (zax 0 hk)
     rw [hge]
     refine ⟨hk,hk,zab (zoK _ (hmis _ (zax 0 hk))) ?_⟩
     simp (maxSteps:=9^7) -dsimp only [↓gp,gq,reduceCtorEq,reduceEqDiff,reduceLT,reduceLeDiff,reduceAdd,reduceMul,reduceSub,Nat.reduceBEq,Int.reduceToNat,Int.reduceLE,Int.reduceLT,Int.reduceNeg,reduceMod,gT,h3a,r3a,r18a,h4a,h5a,h10a,r78a,h13a,zae,hpd,bne_self_eq_false,beq_self_eq_true,zaZ,zcr,zbW,zcs]
     exact zac (k + 1) (by refine ⟨?_,?_,?_,?_,?_,?_,?_,?_,by omega⟩ <;> (first | (simp (maxSteps:=9^7) -dsimp only [gr,reduceEqDiff,reduceLT,reduceAdd,reduceMod,Nat.reduceBEq,h3a,r3a,r18a,h4a,h5a,h10a,r78a,h13a,zaa hk (by omega)];first | done | rfl | (simp;done)) | assumption | rfl)) (by first | omega | (simp only;omega) | (dsimp only;omega) | (show _ < _;simp;omega))
    ·have d2':zvK (w:Int) xs q2 (zlX (w:Int) xs q2) = true:=by rw [d1];exact d2
     have hw1:IntKind.i64.wrap (zlX (w:Int) xs q2 - 1) = zHa (w:Int) xs q2:=by rw [zam (by omega) (by omega),d1,d3]
     intro _
     refine zab (zeF w xs q2 _) ?_
     simp (maxSteps:=9^7) -dsimp only [↓gp,gq,reduceCtorEq,reduceEqDiff,reduceLT,reduceLeDiff,reduceAdd,reduceMul,reduceSub,Nat.reduceBEq,Int.reduceToNat,Int.reduceLE,Int.reduceLT,Int.reduceNeg,reduceMod,gT,h3a,r3a,r18a,h4a,h5a,h10a,r78a,h13a,d2']
     refine zab (zgt w xs q2) ?_
     simp (maxSteps:=9^7) -dsimp only [↓gp,gq,reduceCtorEq,reduceEqDiff,reduceLT,reduceLeDiff,reduceAdd,reduceMul,reduceSub,Nat.reduceBEq,Int.reduceToNat,Int.reduceLE,Int.reduceLT,Int.reduceNeg,reduceMod,gT,h3a,r3a,r18a,h4a,h5a,h10a,r78a,h13a,hw1,bne_self_eq_false,beq_self_eq_true,zaZ,zcr,zbW,zcs]
   ·have d1:=hno hE
    rw [decide_eq_false hE] at hcm
    have d0:decide (0 ≤ zlX (w:Int) xs q2) = false:=decide_eq_false (by omega)
    refine zab (zcx w (znD w xs) q2) ?_
    simp (maxSteps:=9^7) -dsimp only [↓gp,gq,reduceCtorEq,reduceEqDiff,reduceLT,reduceLeDiff,reduceAdd,reduceMul,reduceSub,Nat.reduceBEq,Int.reduceToNat,Int.reduceLE,Int.reduceLT,Int.reduceNeg,reduceMod,gT,hcm,d0,bne_self_eq_false,beq_self_eq_true,zaZ,zcr,zbW,zcs]
    generalize hL:zfq (w:Int) xs = L at *
    refine zan (fun (k:Nat) s=>s.sl 3 = .ref 3 1 0∧s.rw 3 = ⟨1,.box 26 [int w,.own 18 1]⟩∧s.rw 18 = ⟨1,.sli 3 1 false (iL xs)⟩∧s.sl 4 = int q2∧s.sl 5 = int (zlX (w:Int) xs q2)∧s.sl 10 = .own 78 1∧s.rw 78 = ⟨1,.sli 3 1 false (iL (ofN L))⟩∧s.sl 13 = int k∧(k ≤ L.length)) (fun k=>L.length - k) (0) (by refine ⟨?_,?_,?_,?_,?_,?_,?_,?_,Nat.zero_le _⟩ <;> (first | (simp (maxSteps:=9^7) -dsimp only [gr,reduceEqDiff,reduceLT,reduceAdd,reduceMod,Nat.reduceBEq,hL];first | done | rfl | (simp;done)) | assumption | rfl)) ?_
    intro k sb ⟨h3b,r3b,r18b,h4b,h5b,h10b,r78b,h13b,hIb⟩
    simp (maxSteps:=9^7) -dsimp only [↓gp,gq,reduceCtorEq,reduceEqDiff,reduceLT,reduceLeDiff,reduceAdd,reduceMul,reduceSub,Nat.reduceBEq,Int.reduceToNat,Int.reduceLE,Int.reduceLT,Int.reduceNeg,reduceMod,gT,h3b,r3b,r18b,h4b,h5b,h10b,r78b,h13b,zae,d0,d1]
 ·have hdg:=zBk hT
  have hbt:=zvU hT
  have hdt:=zl2 hT
  refine ⟨by kernel_rfl,fun h0=>⟨fun h1=>zab (zeI n xs p) ?_,fun h1=>?_⟩,fun h0=>?_⟩
  ·simp (maxSteps:=9^7) -dsimp only [↓gp,gq,reduceCtorEq,reduceEqDiff,reduceLT,reduceLeDiff,reduceAdd,reduceMul,reduceSub,Nat.reduceBEq,Int.reduceToNat,Int.reduceLE,Int.reduceLT,Int.reduceNeg,reduceMod,gT,hbt]
  ·exact absurd hdg (by simpa using h1)
  ·rw [hdt] at h0
   exact absurd h0 (by decide)
end Go.Proofs.YtjikeknpidbceaaGreatDoor

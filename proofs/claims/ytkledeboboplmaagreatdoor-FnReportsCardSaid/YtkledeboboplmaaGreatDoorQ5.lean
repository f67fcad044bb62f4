/- DERIVED by an AI agent. -/
import Derived.Test.YtkledeboboplmaaGreatDoorQ4
import Derived.Test.YtkledeboboplmaaGreatDoorP1
import Derived.Test.YtkledeboboplmaaGreatDoorQ3
import Derived.Test.YtkledeboboplmaaGreatDoorQ2
import Derived.Test.YtkledeboboplmaaGreatDoorA12
namespace Go.Proofs.YtkledeboboplmaaGreatDoor
open Go.Abs
open Nat (reduceEqDiff reduceMod reduceAdd reduceLT reduceLeDiff reduceSub reduceMul)
set_option linter.unusedSimpArgs false
set_option linter.unusedVariables false
def zug (f:Nat->Bool) (c:Nat) (k:Nat):List Nat:=(List.range k).filter fun t=>f t && (t &&& c == c) && t != c
theorem zGg (f:Nat->Bool) (c:Nat):zug f c 64 = zqS f c:=rfl
theorem zGh {f:Nat->Bool} {c k:Nat} (h:(f k && (k &&& c == c) && k != c) = true):zug f c (k + 1) = zug f c k ++ [k]:=by unfold zug;rw [List.range_succ,List.filter_append];simp [h]
theorem zJS {f:Nat->Bool} {c k:Nat} (h:(f k && (k &&& c == c) && k != c) = false):zug f c (k + 1) = zug f c k:=by
 unfold zug;rw [List.range_succ,List.filter_append,List.filter_cons,h];simp
theorem zGi (f:Nat->Bool) (c:Nat) {k:Nat} (hk:k <= 64):(zug f c k).length <= (zqS f c).length:=by
 have e:List.range 64 = List.range k ++ (List.range (64 - k)).map (k + ·):=by rw [<- List.range_add];congr 1;omega
 unfold zug zqS
 rw [e,List.filter_append,List.length_append];exact Nat.le_add_right _ _
def zJT (l:List Nat):Int:=if l.length = 1 then ((l.getD 0 0:Nat):Int) else -1
theorem zM5 (a:Nat):zJT [a] = (a:Int):=rfl
theorem zep (F c:Nat) (hF:F < 18446744073709551616) (hc:c < 64) :
 AC Tryz.prog 114 [u64 F,int c] (.tup [.im (int (if (zqS F.testBit c).length <= 1 then zJT (zqS F.testBit c) else 0)),.im (bool (zdg F.testBit c))]):=by
 refine xac [.tmp 4,.tmp 5] Tryz.func114 fun hl=>?_
 simp -dsimp only [↓gp,gq,simprocAttr,gT]
 refine zag (fun (k:Nat) s=>s.sl 0 = u64 F/\s.sl 1 = int c/\s.sl 6 = int (zJT (zug F.testBit c k))/\s.sl 7 = int k/\(k <= 64/\(zug F.testBit c k).length <= 1)) (fun k=>64 - k) (0) (by refine ⟨?_,?_,?_,?_,⟨om,by simp [zug]⟩⟩ <;> (first | (simp -dsimp only [gr,simprocAttr];first | done | rfl | (simp;done)) | assumption | rfl)) ?_
 intro k sa ⟨h0a,h1a,h6a,h7a,hIa⟩
 obtain ⟨hk,hle⟩:=hIa
 by_cases hk2:k < 64
 ·have hsub:(zb8 .i64 (c:Int) (k:Int) == 0) = (k &&& c == c):=by
   rw [zbj om om,Bool.eq_iff_iff,beq_iff_eq,beq_iff_eq]
   have:=@zbP c k
   rw [Nat.and_comm k c]
   omega
  have hne:(((k:Nat):Int) != (c:Int)) = (k != c):=by
   rw [Bool.eq_iff_iff,bne_iff_ne,bne_iff_ne];omega
  simp -dsimp only [↓gp,gq,simprocAttr,gT,h0a,h1a,h6a,h7a,hne,hsub]
  have hno:(F.testBit k && (k &&& c == c) && k != c) = false->zug F.testBit c (k + 1) = zug F.testBit c k:=zJS
  have hl2:=zGi F.testBit c (show k + 1 <= 64 by omega)
  have hw:=zac hk2 (show 64 <= 9223372036854775807 by omega)
  refine ⟨fun _=>⟨fun h1=>⟨fun h2=>zaa (zbo F k hF hk2) ?_,fun h2=>?_⟩,fun h1=>?_⟩,fun h=>absurd (show (k:Int) < 64 by omega) h⟩
  ·simp -dsimp only [↓gp,gq,simprocAttr,gT,h0a,h1a,h6a,h7a,hne,hsub]
   refine ⟨fun h3=>?_,fun h3=>?_⟩
   ·have hy:=zGh (f:=F.testBit) (c:=c) (k:=k) (by rw [h1,h2,h3];rfl)
    refine ⟨fun h4=>?_,fun h4=>?_⟩
    ·have hone:(zug F.testBit c k).length = 1:=by
      unfold zJT at h4
      split at h4
      ·assumption
      ·omega
     have h2l:2 <= (zqS F.testBit c).length:=by rw [hy,List.length_append,hone] at hl2;exact hl2
     rw [if_neg om]
     refine ⟨rfl,?_⟩
     unfold zdg
     exact beq_eq_false_iff_ne.2 om
    ·have hz:zug F.testBit c k = []:=by
      refine List.eq_nil_of_length_eq_zero ?_
      unfold zJT at h4
      split at h4
      ·omega
      ·omega
     rw [hz,List.nil_append] at hy
     exact zab (k + 1) (by refine ⟨?_,?_,?_,?_,⟨om,by rw [hy];exact Nat.le_refl _⟩⟩ <;> (first | (simp -dsimp only [gr,simprocAttr,h0a,h1a,h6a,h7a,hw,hy,zM5];first | done | rfl | (simp;done)) | assumption | rfl)) (by first | omega | (simp only;omega) | (dsimp only;omega) | (show _ < _;simp;omega))
   ·have e:=hno (by rw [h3];rfl)
    exact zab (k + 1) (by refine ⟨?_,?_,?_,?_,⟨om,by rw [e];exact hle⟩⟩ <;> (first | (simp -dsimp only [gr,simprocAttr,h0a,h1a,h6a,h7a,hw,e];first | done | rfl | (simp;done)) | assumption | rfl)) (by first | omega | (simp only;omega) | (dsimp only;omega) | (show _ < _;simp;omega))
  ·have e:=hno (by rw [h2];simp)
   exact zab (k + 1) (by refine ⟨?_,?_,?_,?_,⟨om,by rw [e];exact hle⟩⟩ <;> (first | (simp -dsimp only [gr,simprocAttr,h0a,h1a,h6a,h7a,hw,e];first | done | rfl | (simp;done)) | assumption | rfl)) (by first | omega | (simp only;omega) | (dsimp only;omega) | (show _ < _;simp;omega))
  ·have e:=hno (by rw [h1];simp)
   exact zab (k + 1) (by refine ⟨?_,?_,?_,?_,⟨om,by rw [e];exact hle⟩⟩ <;> (first | (simp -dsimp only [gr,simprocAttr,h0a,h1a,h6a,h7a,hw,e];first | done | rfl | (simp;done)) | assumption | rfl)) (by first | omega | (simp only;omega) | (dsimp only;omega) | (show _ < _;simp;omega))
 ·obtain rfl:k = 64:=om
  rw [zGg] at *
  simp (maxSteps:=9^7) -dsimp only [↓gp,gq,reduceCtorEq,reduceEqDiff,reduceLT,reduceLeDiff,reduceAdd,reduceMul,reduceSub,Nat.reduceBEq,Int.reduceToNat,Int.reduceLE,Int.reduceLT,Int.reduceNeg,reduceMod,gT,h0a,h1a,h6a,h7a]
  refine ⟨fun h=>absurd h (by decide),fun _=>?_⟩
  rw [if_pos hle]
  refine ⟨rfl,?_⟩
  unfold zdg zJT
  split
  ·rename_i h;rw [h];simp
  ·rename_i h
   rw [beq_eq_false_iff_ne.2 h];simp
theorem zq1 (F:Nat) (hF:F < 18446744073709551616):AC Tryz.prog 112 [u64 F] (.fr 3 1 (iL (ofN (zbh F.testBit)))):=by
 refine xac [.tmp 2] Tryz.func112 fun hl=>?_
 refine xg0 ?_
 refine zaa (zdL F hF) ?_
 have hol:=zad (za4 F.testBit)
 have holen:=zca F.testBit
 have hmem:=fun i (hi:i < (za4 F.testBit).length)=>(zaO.1 (zaj 0 hi)).1
 have hdef:zbh F.testBit = (za4 F.testBit).filter (zdg F.testBit):=rfl
 rw [hdef]
 generalize za4 F.testBit = all at *
 refine xg1 hol ?_
 refine zag (fun (za:Nat × Nat) s=>match za with | (k,v)=>(s.sl 0 = u64 F/\s.sl 3 = .own 3 v/\s.rw 3 = ⟨v,.sli 3 1 false (iL (ofN ((all.take k).filter (zdg F.testBit))))⟩/\s.sl 9 = .own 9 1/\s.rw 9 = ⟨1,.sli 3 1 false (iL (ofN all))⟩/\s.sl 10 = int all.length/\s.sl 11 = int k)/\(k <= all.length)) (fun (k,v)=>all.length - k) ((0,1)) ⟨(xc1 hol),om⟩ ?_
 intro (k,v) sa ⟨Ha,hIa⟩
 have hfl:((all.take k).filter (zdg F.testBit)).length <= k:=Nat.le_trans (List.length_filter_le _ _) (by rw [List.length_take];omega)
 refine xg2 Ha hol ?_
 refine ⟨fun h=>?_,fun h=>?_⟩
 ·have h64:=hmem k h
  rw [zay h]
  refine ⟨h,h,zaa (zep F (all.getD k 0) hF h64) ?_⟩
  have hst:(all.take (k + 1)).filter (zdg F.testBit) = (all.take k).filter (zdg F.testBit) ++ [all.getD k 0].filter (zdg F.testBit):=by rw [zas 0 h,List.filter_append]
  refine xg3 Ha hol (zay h) ?_
  refine ⟨fun hb=>⟨by rw [zad];omega,?_⟩,fun hb=>?_⟩
  ·have e:ofN ((all.take (k + 1)).filter (zdg F.testBit)) = ofN ((all.take k).filter (zdg F.testBit)) ++ [((all.getD k 0:Nat):Int)]:=by rw [hst,zaD,List.filter_cons,if_pos hb,List.filter_nil];rfl
   exact zab ((k + 1,v + 1)) ⟨(xc3 Ha (zac h (show all.length <= 9223372036854775807 by omega)) e),by dsimp only;omega⟩
  ·have e:(all.take (k + 1)).filter (zdg F.testBit) = (all.take k).filter (zdg F.testBit):=by rw [hst,List.filter_cons,if_neg (by rw [hb];decide),List.filter_nil,List.append_nil]
   exact zab ((k + 1,v)) ⟨(xc3 Ha (zac h (show all.length <= 9223372036854775807 by omega)) e),by dsimp only;omega⟩
 ·have e:k = all.length:=om
  subst e
  rw [List.take_length]
theorem znp {l:List Nat} (h:0 < l.length):(ofN l).getD (l.length - 1) 0 = ((zeC l:Nat):Int):=by
 unfold zeC;exact zay om
noncomputable def zq8 (xs:List Int):(Nat->Bool) × List Nat:=zzW 64 (zah xs) []
theorem zH7 (f:Nat->Bool):zHY f <= 64:=by
 have:=List.length_filter_le f (List.range 64)
 rw [List.length_range] at this;exact this
theorem ziR (f:Nat->Bool):zax f 64 < 18446744073709551616:=by
 have:=zbn f 64
 simpa using this
theorem ziS (f:Nat->Bool):∀ s,s < 64->(zax f 64).testBit s = f s:=fun s hs=>by rw [zcZ,decide_eq_true hs,Bool.true_and]
theorem zEk {a b:Nat} (ha:a < 18446744073709551616) (hb:b < 18446744073709551616):zb8 .u64 (a:Int) (b:Int) = ((a ^^^ (a &&& b):Nat):Int):=by
 have e:∀ {x:Nat},x < 18446744073709551616->(BitVec.ofInt 64 (x:Int)).toNat = x:=fun {x} hx=>by
  rw [BitVec.toNat_ofInt];omega
 have h:BitVec.ofInt 64 (a:Int) &&& ~~~ BitVec.ofInt 64 (b:Int) = BitVec.ofInt 64 (a:Int) ^^^ (BitVec.ofInt 64 (a:Int) &&& BitVec.ofInt 64 (b:Int)):=by
  ext i hi
  simp only [BitVec.getElem_and,BitVec.getElem_not,BitVec.getElem_xor]
  cases (BitVec.ofInt 64 (a:Int))[i] <;> cases (BitVec.ofInt 64 (b:Int))[i] <;> rfl
 show IntKind.u64.wrap (((BitVec.ofInt 64 (a:Int) &&& ~~~ BitVec.ofInt 64 (b:Int)).toNat:Nat):Int) = _
 rw [h,BitVec.toNat_xor,BitVec.toNat_and,e ha,e hb]
 have h1:a &&& b < 2 ^ 64:=Nat.and_lt_two_pow _ (by simpa using hb)
 have h2:a ^^^ (a &&& b) < 2 ^ 64:=Nat.xor_lt_two_pow (by simpa using ha) h1
 exact zaI (by simpa using h2)
theorem ziT (n:Int) (xs:List Int) :
 AC Tryz.prog 52 [.ag [int n,zaz xs]] (.tup [.ag [.im (int (if zaC n xs = true then n else 0)),.fr 3 1 (iL (if zaC n xs = true then ofN (zcK (zq8 xs).1 true) else []))],.fr 3 1 (iL (if zaC n xs = true then ofN (zq8 xs).2 else [])),.im (bool (zaC n xs))]):=by
 refine xac [.cell 2 27,.tmp 3,.tmp 4] Tryz.func52 fun hl=>?_
 refine xg0 ?_
 refine zaa (zao n xs) ?_
 refine xg0 ?_
 refine ⟨fun hc=>?_,fun hc=>?_⟩
 ·have hc:zaC n xs = false:=by simpa using hc
  rw [hc];exact ⟨rfl,rfl,rfl,rfl⟩
 ·have hc:zaC n xs = true:=by simpa using hc
  rw [hc]
  refine zaa (zaT n xs (zcb hc)) ?_
  refine xg0 ?_
  refine zag (fun (za:(Nat->Bool) × List Nat × Nat × Nat) s=>match za with | (f,l,m,v)=>(s.sl 1 = .ref 1 1 0/\s.rw 1 = ⟨1,.box 27 [int n,zaz xs]⟩/\s.sl 2 = .ref 2 1 0/\s.rw 2 = ⟨1,.box 27 [int 0,.v (.slice none 0 0)]⟩/\s.sl 5 = u64 (zax f 64:Nat)/\s.sl 6 = .own 6 v/\s.rw 6 = ⟨v,.sli 3 1 false (iL (ofN l))⟩)/\(zzW m f l = zq8 xs/\zHY f <= m/\l.length + m <= 64)) (fun (f,l,m,v)=>m) ((zah xs,[],64,1)) ⟨xc0,⟨rfl,zH7 _,sp⟩⟩ ?_
  intro (f,l,m,v) sa ⟨Ha,hIa⟩
  obtain ⟨hcol,hcnt,hlen⟩:=hIa
  have hfr:zbh (zax f 64).testBit = zbh f:=zhC (ziS f)
  have hfl:=zng f
  refine xg1 Ha ?_
  refine zaa (zq1 (zax f 64) (ziR f)) ?_
  rw [hfr]
  have hol:=zad (zbh f)
  have hst:=zgx (f:=f)
  have hend:∀ q:Prop,zdA f = true->(zzW m f l = (f,l)):=fun _ h=>hst h l m
  have hext:zcK (zax f 64).testBit true = zcK f true:=zeW (ziS f) true
  by_cases hz0:(zbh f).length = 0
  ·have hs:zdA f = true:=by unfold zdA;rw [hz0];rfl
   have he:=hst hs l m
   rw [hcol] at he
   refine xg4 Ha hol hz0 (show (((0:Nat):Int) == 0) = true from rfl) ?_
   refine zaa (zdB n (zax f 64) (ziR f)) ?_
   rw [hext,he]
   exact xd1 Ha
  ·have hw1:IntKind.i64.wrap (((zbh f).length:Int) - 1) = (((zbh f).length - 1:Nat):Int):=by rw [zai om om];omega
   have hne:(((zbh f).length:Int) == 0) = false:=beq_eq_false_iff_ne.2 om
   have hlast:=znp (l:=zbh f) om
   refine xg6 Ha hol hw1 hne @Int.toNat_natCast hlast ?_
   refine ⟨om,om,fun h0=>?_,fun h0=>?_⟩
   ·have hs:zdA f = true:=by
     unfold zdA
     have:zeC (zbh f) = 0:=by have:=beq_iff_eq.1 h0;omega
     rw [this];simp
    have he:=hst hs l m
    rw [hcol] at he
    refine zaa (zdB n (zax f 64) (ziR f)) ?_
    rw [hext,he]
    exact xd1 Ha
   ·have hs:zdA f = false:=by
     unfold zdA
     rw [Bool.or_eq_false_iff,beq_eq_false_iff_ne,beq_eq_false_iff_ne]
     refine ⟨hz0,fun e=>?_⟩
     rw [e] at h0;simp at h0
    obtain ⟨c1,c2,c3,c4,c5⟩:=zgy hs
    obtain ⟨p1,p2,p3,p4⟩:=zD5 c3
    have hpos:=zvt hs
    obtain ⟨m',rfl⟩:∃ m',m = m' + 1:=⟨m - 1,om⟩
    obtain ⟨hstep,hcnt'⟩:=znf hs l hcnt
    generalize hsv:zeC (zbh f) = sv at *
    refine ⟨om,om,zaa (zep (zax f 64) sv (ziR f) c1) ?_⟩
    rw [zpC (ziS f),zvu (ziS f),zD4 c3]
    have hval:(if [zqT f sv].length <= 1 then zJT [zqT f sv] else 0) = ((zqT f sv:Nat):Int):=rfl
    rw [hval]
    have hu1:IntKind.u64.wrap (sv:Int) = (sv:Int):=zaI om
    have hu2:IntKind.u64.wrap (zqT f sv:Int) = (zqT f sv:Int):=zaI om
    have k1:(2:Nat) ^ sv < 2 ^ 64:=Nat.pow_lt_pow_right om om
    have k2:(2:Nat) ^ zqT f sv < 2 ^ 64:=Nat.pow_lt_pow_right om om
    have k3:2 ^ sv ||| 2 ^ zqT f sv < 2 ^ 64:=Nat.or_lt_two_pow k1 k2
    have hx:zb8 .u64 (zax f 64:Nat) (ior .u64 (zg1 .u64 1 (sv:Int)) (zg1 .u64 1 (zqT f sv:Int))) = ((zax (rmF f sv) 64:Nat):Int):=by
     rw [zpq om,zpq om,zDk (by simpa using k1) (by simpa using k2),zEk (ziR f) (by simpa using k3),zJH c1 c3]
    simp -dsimp only [↓gp,gq,simprocAttr,gT,Ha,hol,hw1,hne,Int.toNat_natCast,hlast,hu1,hu2,hx]
    have e2:ofN (l ++ [sv]) = ofN l ++ [((sv:Nat):Int)]:=zaD l [sv]
    refine ⟨by rw [zad];omega,zab ((rmF f sv,l ++ [sv],m',v + 1)) ⟨(xc5 Ha hu1 hu2 hx e2),⟨by rw [<- hstep];exact hcol,hcnt',by show (l ++ [sv]).length + m' <= 64;rw [List.length_append,List.length_singleton];omega⟩⟩⟩
theorem zEi {l:List Nat} (h:l.Pairwise zuf):l.Nodup:=h.imp fun {a b} hab e=>by subst e;exact zff hab
theorem zM4 {a b:List Nat} (ha:a.Pairwise zuf) (hb:b.Pairwise zuf) (h:∀ s,s ∈ a ↔ s ∈ b):a = b :=
 List.Perm.eq_of_pairwise (fun x y _ _ h1 h2=>by unfold zuf at h1 h2;omega) ha hb ((List.perm_ext_iff_of_nodup (zEi ha) (zEi hb)).2 h)
theorem zEj (f:Nat->Bool):(za4 f).Perm ((List.range 64).filter f) :=
 (List.perm_ext_iff_of_nodup (zEi (zmM f)) (List.Pairwise.filter _ List.nodup_range)).2 fun s=>by
  rw [zaO,List.mem_filter,List.mem_range]
theorem zJR (f:Nat->Bool) (c:Nat):((za4 f).filter fun t=>(t &&& c == c) && t != c).length = (zqS f c).length:=by
 have h:=((zEj f).filter fun t=>(t &&& c == c) && t != c).length_eq
 rw [h,List.filter_filter]
 unfold zqS
 congr 1
 refine List.filter_congr fun t _=>?_
 cases f t <;> simp
theorem zuc {n:Int} {xs:List Int} (h:zaC n xs = true):xs = ofN (zcK (zah xs) true):=by
 have hp:=zaK.1 h
 have hok:=zcb h
 have e0:ofN (xs.map Int.toNat) = xs:=by
  unfold ofN
  rw [List.map_map]
  have:∀ x ∈ xs,((fun s:Nat=>(s:Int)) ∘ Int.toNat) x = id x:=fun x hx=>by
   have:=hok x hx
   show ((x.toNat:Nat):Int) = x
   omega
  rw [List.map_congr_left this,List.map_id]
 have hpw:(xs.map Int.toNat).Pairwise zuf:=by
  refine List.pairwise_iff_getElem.2 fun i j hi hj hij=>?_
  have hi':i < xs.length:=by simpa using hi
  have hj':j < xs.length:=by simpa using hj
  have hs:=zmX hp j i hij hj'
  rw [zcH 0 hi',zcH 0 hj'] at hs
  have a:=hok _ (List.getElem_mem hi')
  have b:=hok _ (List.getElem_mem hj')
  rw [List.getElem_map,List.getElem_map]
  generalize xs[i] = x at *
  generalize xs[j] = y at *
  unfold znC at hs
  rw [zdm a,zdm b] at hs
  simp only [Bool.and_eq_true,decide_eq_true_iff] at hs
  obtain ⟨_,_,hs⟩:=hs
  unfold zuf
  split at hs
  ·rw [decide_eq_true_iff] at hs;omega
  ·rw [decide_eq_true_iff] at hs;omega
 have key:xs.map Int.toNat = zcK (zah xs) true:=by
  refine zM4 hpw (zDw _ _) fun s=>?_
  rw [ziH]
  have hfb:∀ t,zah xs t = true ↔ ∃ x ∈ xs,x.toNat &&& t = t:=fun t=>by
   unfold zah;rw [List.any_eq_true]
   exact ⟨fun ⟨x,h1,h2⟩=>⟨x,h1,by simpa using h2⟩,fun ⟨x,h1,h2⟩=>⟨x,h1,by simpa using h2⟩⟩
  have hinc:∀ x ∈ xs,∀ y ∈ xs,x.toNat &&& y.toNat = x.toNat->x = y:=fun x hx y hy hxy=>by
   obtain ⟨i,hi,rfl⟩:=zaV 0 hx
   obtain ⟨j,hj,rfl⟩:=zaV 0 hy
   rcases Nat.lt_trichotomy i j with hij | hij | hij
   ·have:=(hp.2.2 j hj).2.2 i hij
    have a:=hok _ (zaj 0 hi)
    have b:=hok _ (zaj 0 hj)
    refine absurd ?_ this
    have e1:xs.getD i 0 = (((xs.getD i 0).toNat:Nat):Int):=om
    have e2:xs.getD j 0 = (((xs.getD j 0).toNat:Nat):Int):=om
    rw [e1,e2,za1 om om,hxy]
   ·rw [hij]
   ·have hs:=zmX hp i j hij hi
    have a:=hok _ (zaj 0 hi)
    have b:=hok _ (zaj 0 hj)
    by_cases hne:xs.getD i 0 = xs.getD j 0
    ·exact hne
    ·have:=zgm (s:=(xs.getD j 0).toNat) (t:=(xs.getD i 0).toNat) om om hxy om
     unfold znC at hs
     rw [zdm a,zdm b] at hs
     simp only [Bool.and_eq_true,decide_eq_true_iff] at hs
     obtain ⟨_,_,hs⟩:=hs
     split at hs
     ·rw [decide_eq_true_iff] at hs;omega
     ·rw [decide_eq_true_iff] at hs;omega
  constructor
  ·intro hs
   obtain ⟨x,hx,rfl⟩:=List.mem_map.1 hs
   have a:=hok x hx
   refine ⟨⟨om,(hfb _).2 ⟨x,hx,Nat.and_self _⟩⟩,zdu.2 fun t ht hft hxt=>?_⟩
   obtain ⟨y,hy,hyt⟩:=(hfb t).1 hft
   have hxy:x.toNat &&& y.toNat = x.toNat:=by
    rw [<- hxt,Nat.and_assoc,Nat.and_comm t,hyt]
   have:=hinc x hx y hy hxy
   subst this
   exact hyt.symm.trans hxt
  ·rintro ⟨⟨h64,hf⟩,he⟩
   obtain ⟨y,hy,hys⟩:=(hfb s).1 hf
   have b:=hok y hy
   have:=zdu.1 he y.toNat om ((hfb _).2 ⟨y,hy,Nat.and_self _⟩) (by rw [Nat.and_comm];exact hys)
   rw [<- this];exact List.mem_map.2 ⟨y,hy,rfl⟩
 rw [<- key,e0]
theorem zno (ys:List Nat) (c:Nat) (hy:∀ g ∈ ys,g < 64) (hc:c < 64) (hN:ys.length <= 1000000):AC Tryz.prog 167 [zaz (ofN ys),int c] (.fr 3 1 (iL (ofN (ys.filter fun t=>(t &&& c == c) && t != c)))):=by
 refine xac [.tmp 4] Tryz.func167 fun hl=>?_
 simp only [zaS,zbe,and_true,zcU,zck,true_and,zad] at hl
 have hol:=zad ys
 refine xg0 ?_
 refine zag (fun (za:Nat × Nat) s=>match za with | (k,v)=>(s.sl 0 = zaz (ofN ys)/\s.sl 1 = int c/\s.sl 5 = .own 7 v/\s.rw 7 = ⟨v,.sli 3 1 false (iL (ofN ((ys.take k).filter fun t=>(t &&& c == c) && t != c)))⟩/\s.sl 6 = int k)/\(k <= ys.length/\ys.length <= 1000000)) (fun (k,v)=>ys.length - k) ((0,1)) ⟨xc0,⟨om,hN⟩⟩ ?_
 intro (k,v) sa ⟨Ha,hIa⟩
 obtain ⟨hk,_⟩:=hIa
 have hfl:((ys.take k).filter fun t=>(t &&& c == c) && t != c).length <= k:=Nat.le_trans (List.length_filter_le _ _) (by rw [List.length_take];omega)
 generalize hpq:(fun t:Nat=>(t &&& c == c) && t != c) = q at *
 refine xg2 Ha hol ?_
 refine ⟨fun h=>?_,fun h=>?_⟩
 ·have hg:=hy _ (zaj 0 h)
  have hqk:q (ys.getD k 0) = ((ys.getD k 0 &&& c == c) && ys.getD k 0 != c):=by rw [<- hpq]
  have h1:(zdQ .i64 ((ys.getD k 0:Nat):Int) (c:Int) == (c:Int)) = (ys.getD k 0 &&& c == c):=by
   rw [za1 om om,Bool.eq_iff_iff,beq_iff_eq,beq_iff_eq];omega
  have h2:(((ys.getD k 0:Nat):Int) != (c:Int)) = (ys.getD k 0 != c):=by
   rw [Bool.eq_iff_iff,bne_iff_ne,bne_iff_ne];omega
  have hw:=zac h (show ys.length <= 9223372036854775807 by omega)
  have hst:(ys.take (k + 1)).filter q = (ys.take k).filter q ++ [ys.getD k 0].filter q:=by rw [zas 0 h,List.filter_append]
  have hyes:q (ys.getD k 0) = true->ofN ((ys.take (k + 1)).filter q) = ofN ((ys.take k).filter q) ++ [((ys.getD k 0:Nat):Int)]:=fun hb=>by rw [hst,zaD,List.filter_cons,if_pos hb,List.filter_nil];rfl
  have hno:q (ys.getD k 0) = false->(ys.take (k + 1)).filter q = (ys.take k).filter q:=fun hb=>by rw [hst,List.filter_cons,if_neg (by rw [hb];decide),List.filter_nil,List.append_nil]
  rw [zay h,h1]
  refine ⟨h,h,fun e1=>?_,fun e1=>?_⟩
  ·rw [h2]
   refine ⟨h,h,fun e2=>?_,fun e2=>?_⟩
   ·have e:=hyes (by rw [hqk,e1,e2];rfl)
    refine ⟨h,h,by rw [zad];omega,zab ((k + 1,v + 1)) ⟨(xc3 Ha hw e),⟨by dsimp only;omega,om⟩⟩⟩
   ·have e:=hno (by rw [hqk,e2];simp)
    exact zab ((k + 1,v)) ⟨(xc3 Ha hw e),⟨by dsimp only;omega,om⟩⟩
  ·have e:=hno (by rw [hqk,e1];rfl)
   exact zab ((k + 1,v)) ⟨(xc3 Ha hw e),⟨by dsimp only;omega,om⟩⟩
 ·have e:k = ys.length:=om
  subst e
  rw [List.take_length]
theorem zfG (n:Int) (xs:List Int):AC Tryz.prog 116 [.ag [int n,zaz xs]] (.fr 3 1 (iL (ofN (zbh (za8 n xs))))):=by
 refine xac [.tmp 2] Tryz.func116 fun hl=>?_
 refine xg0 ?_
 refine zaa (zb6 n xs) ?_
 have hol:=zad (za4 (za8 n xs))
 have holen:=zca (za8 n xs)
 have hmem:=fun i (hi:i < (za4 (za8 n xs)).length)=>(zaO.1 (zaj 0 hi)).1
 have hmem2:∀ g ∈ za4 (za8 n xs),g < 64:=fun g hg=>(zaO.1 hg).1
 have hfr:∀ c,(((za4 (za8 n xs)).filter fun t=>(t &&& c == c) && t != c).length == 1) = zdg (za8 n xs) c:=fun c=>by rw [zJR];rfl
 have hdef:zbh (za8 n xs) = (za4 (za8 n xs)).filter (zdg (za8 n xs)):=rfl
 rw [hdef]
 generalize zdg (za8 n xs) = q at *
 generalize za4 (za8 n xs) = all at *
 refine xg0 ?_
 refine zag (fun (za:Nat × Nat) s=>match za with | (k,v)=>(s.sl 3 = .own 6 v/\s.rw 6 = ⟨v,.sli 3 1 false (iL (ofN ((all.take k).filter q)))⟩/\s.sl 4 = .own 8 1/\s.rw 8 = ⟨1,.sli 3 1 false (iL (ofN all))⟩/\s.sl 5 = int k)/\(k <= all.length)) (fun (k,v)=>all.length - k) ((0,1)) ⟨xc0,om⟩ ?_
 intro (k,v) sa ⟨Ha,hIa⟩
 have hfl:((all.take k).filter q).length <= k:=Nat.le_trans (List.length_filter_le _ _) (by rw [List.length_take];omega)
 refine xg2 Ha hol ?_
 refine ⟨fun h=>?_,fun h=>?_⟩
 ·have h64:=hmem k h
  have hw:=zac h (show all.length <= 9223372036854775807 by omega)
  have hst:(all.take (k + 1)).filter q = (all.take k).filter q ++ [all.getD k 0].filter q:=by rw [zas 0 h,List.filter_append]
  rw [zay h]
  refine ⟨h,h,zaa (zno all (all.getD k 0) hmem2 h64 om) ?_⟩
  have hq:=hfr (all.getD k 0)
  have hol2:=zad (all.filter fun t=>(t &&& all.getD k 0 == all.getD k 0) && t != all.getD k 0)
  have hcast:(((all.filter fun t=>(t &&& all.getD k 0 == all.getD k 0) && t != all.getD k 0).length:Int) == 1) = q (all.getD k 0):=by
   rw [<- hq,Bool.eq_iff_iff,beq_iff_eq,beq_iff_eq];omega
  generalize (all.filter fun t=>(t &&& all.getD k 0 == all.getD k 0) && t != all.getD k 0) = up at *
  refine xg5 Ha hol hol2 (zay h) hcast ?_
  refine ⟨fun hb=>⟨h,h,by rw [zad];omega,?_⟩,fun hb=>?_⟩
  ·have e:ofN ((all.take (k + 1)).filter q) = ofN ((all.take k).filter q) ++ [((all.getD k 0:Nat):Int)]:=by rw [hst,zaD,List.filter_cons,if_pos hb,List.filter_nil];rfl
   exact zab ((k + 1,v + 1)) ⟨(xc3 Ha hw e),by dsimp only;omega⟩
  ·have e:(all.take (k + 1)).filter q = (all.take k).filter q:=by rw [hst,List.filter_cons,if_neg (by rw [hb];decide),List.filter_nil,List.append_nil]
   exact zab ((k + 1,v)) ⟨(xc3 Ha hw e),by dsimp only;omega⟩
 ·have e:k = all.length:=om
  subst e
  rw [List.take_length]
theorem zcC (n:Int) (xs:List Int) (c:Nat) (hc:c < 64):AC Tryz.prog 117 [.ag [int n,zaz xs],int c] (.ag [.im (int n),.fr 3 1 (iL (ofN (zcK (rmF (za8 n xs) c) true)))]):=by
 refine xac [.cell 4 27] Tryz.func117 fun hl=>?_
 refine xg0 ?_
 refine zaa (zb6 n xs) ?_
 have hol:=zad (za4 (za8 n xs))
 have holen:=zca (za8 n xs)
 have hmem:=fun i (hi:i < (za4 (za8 n xs)).length)=>(zaO.1 (zaj 0 hi)).1
 have hmem2:∀ g ∈ za4 (za8 n xs),g < 64:=fun g hg=>(zaO.1 hg).1
 have hext:zcK (inF (ofN ((za4 (za8 n xs)).filter fun t=>!(t &&& c == c)))) true = zcK (rmF (za8 n xs) c) true:=by
  refine zeW (fun s hs=>?_) true
  rw [zmV,Bool.eq_iff_iff,decide_eq_true_iff,List.mem_filter,zaO]
  unfold rmF
  rw [Bool.and_eq_true]
  exact ⟨fun h=>⟨h.1.2,h.2⟩,fun h=>⟨⟨hs,h.1⟩,h.2⟩⟩
 rw [<- hext]
 generalize za4 (za8 n xs) = all at *
 generalize hpq:(fun t:Nat=>!(t &&& c == c)) = q at *
 refine xg0 ?_
 refine zag (fun (za:Nat × Nat) s=>match za with | (k,v)=>(s.sl 1 = int c/\s.sl 2 = .ref 2 1 0/\s.rw 2 = ⟨1,.box 27 [int n,zaz xs]⟩/\s.sl 4 = .ref 4 1 0/\s.rw 4 = ⟨1,.box 27 [int 0,.v (.slice none 0 0)]⟩/\s.sl 5 = .own 8 v/\s.rw 8 = ⟨v,.sli 3 1 false (iL (ofN ((all.take k).filter q)))⟩/\s.sl 6 = .own 10 1/\s.rw 10 = ⟨1,.sli 3 1 false (iL (ofN all))⟩/\s.sl 7 = int k)/\(k <= all.length)) (fun (k,v)=>all.length - k) ((0,1)) ⟨xc0,om⟩ ?_
 intro (k,v) sa ⟨Ha,hIa⟩
 have hfl:((all.take k).filter q).length <= k:=Nat.le_trans (List.length_filter_le _ _) (by rw [List.length_take];omega)
 refine xg2 Ha hol ?_
 refine ⟨fun h=>?_,fun h=>?_⟩
 ·have h64:=hmem k h
  have hw:=zac h (show all.length <= 9223372036854775807 by omega)
  have hst:(all.take (k + 1)).filter q = (all.take k).filter q ++ [all.getD k 0].filter q:=by rw [zas 0 h,List.filter_append]
  have hqk:(zdQ .i64 ((all.getD k 0:Nat):Int) (c:Int) != (c:Int)) = q (all.getD k 0):=by
   rw [<- hpq,za1 om om]
   show _ = !(all.getD k 0 &&& c == c)
   rw [Bool.eq_iff_iff,bne_iff_ne,Bool.not_eq_true',beq_eq_false_iff_ne];omega
  rw [zay h,hqk]
  refine ⟨h,h,fun hb=>⟨h,h,by rw [zad];omega,?_⟩,fun hb=>?_⟩
  ·have e:ofN ((all.take (k + 1)).filter q) = ofN ((all.take k).filter q) ++ [((all.getD k 0:Nat):Int)]:=by rw [hst,zaD,List.filter_cons,if_pos hb,List.filter_nil];rfl
   exact zab ((k + 1,v + 1)) ⟨(xc3 Ha hw e),by dsimp only;omega⟩
  ·have e:(all.take (k + 1)).filter q = (all.take k).filter q:=by rw [hst,List.filter_cons,if_neg (by rw [hb];decide),List.filter_nil,List.append_nil]
   exact zab ((k + 1,v)) ⟨(xc3 Ha hw e),by dsimp only;omega⟩
 ·have e:k = all.length:=om
  subst e
  rw [List.take_length]
  refine zaa (zc0 n _ (fun x hx=>?_)) ?_
  ·obtain ⟨s,hs,rfl⟩:=List.mem_map.1 (show x ∈ (all.filter q).map fun s:Nat=>(s:Int) from hx)
   have:=hmem2 s (List.mem_filter.1 hs).1
   omega
  ·exact xd1 Ha
def zzP (n:Int) (f:Nat->Bool):Prop:=DnF f/\∀ s,s < 64->f s = true->s < 2 ^ n.toNat
theorem zyp {n:Int} (h1:1 <= n) (h6:n <= 6) {f:Nat->Bool} (h:zzP n f):zaC n (ofN (zcK f true)) = true:=by
 have:=zHV (m:=n.toNat) om om h.2
 rwa [show ((n.toNat:Nat):Int) = n by omega] at this
theorem zvB {n:Int} (h1:1 <= n) (h6:n <= 6) {f:Nat->Bool} (h:zzP n f):∀ s,s < 64->za8 n (ofN (zcK f true)) s = f s:=fun s hs=>by
 unfold za8
 rw [zyp h1 h6 h,Bool.true_and,ztR,zMV h.1 hs]
theorem zyq {n:Int} {f:Nat->Bool} (h:zzP n f) (c:Nat):zzP n (rmF f c):=⟨zNQ h.1 c,fun s hs hr=>h.2 s hs (by unfold rmF at hr;rw [Bool.and_eq_true] at hr;exact hr.1)⟩
theorem zjy {n:Int} {xs:List Int} (h:zaC n xs = true):zzP n (zah xs):=by
 refine ⟨fun s t a b=>zjs a b,fun s hs hf=>?_⟩
 unfold zah at hf
 rw [List.any_eq_true] at hf
 obtain ⟨x,hx,e⟩:=hf
 have e:=beq_iff_eq.1 e
 obtain ⟨h1,h6,hk⟩:=zaK.1 h
 obtain ⟨i,hi,rfl⟩:=zaV 0 hx
 have hin:=(hk i hi).1
 unfold zcI at hin
 rw [decide_eq_true_iff] at hin
 obtain ⟨_,_,a,b⟩:=hin
 have:s <= (xs.getD i 0).toNat:=by rw [<- e];exact Nat.and_le_left
 have e2:((2:Int) ^ n.toNat) = ((2 ^ n.toNat:Nat):Int):=sp
 rw [e2] at b
 omega
theorem zH6 {f g:Nat->Bool} (h:∀ s,s < 64->f s = g s) (c:Nat):zcK (rmF f c) true = zcK (rmF g c) true:=zeW (fun s hs=>by unfold rmF;rw [h s hs]) true
theorem znX (n:Int) (xs:List Int) (hx:xs.length <= 1048576):AC Tryz.prog 115 [.ag [int n,zaz xs]] (.ag [.im (int n),.fr 3 1 (iL xs)]):=by
 refine xac [.cell 2 27] Tryz.func115 fun hl=>?_
 refine xg0 ?_
 exact ⟨kr,om,kr⟩
theorem ziQ (n:Int) (xs:List Int) :
 AC Tryz.prog 55 [.ag [int n,zaz xs]] (.tup [.ag [.im (int (if zaC n xs = true then n else 0)),.fr 3 1 (iL (if zaC n xs = true then ofN (zcK (zq8 xs).1 true) else []))],.fr 3 1 (iL (if zaC n xs = true then ofN (zq8 xs).2 else [])),.im (bool (zaC n xs))]):=by
 refine xac [.cell 2 27,.tmp 3,.tmp 4] Tryz.func55 fun hl=>?_
 refine xg0 ?_
 refine zaa (zat n xs) ?_
 refine xg0 ?_
 refine ⟨fun hc=>?_,fun hc=>?_⟩
 ·have hc:zaC n xs = false:=by simpa using hc
  rw [hc];exact ⟨rfl,rfl,rfl,rfl⟩
 ·have hc:zaC n xs = true:=by simpa using hc
  rw [hc]
  obtain ⟨h1,h6,_⟩:=zaK.1 hc
  have hxe:=zuc hc
  have hxl:xs.length <= 448:=by rw [hxe,zad];exact zk3 _ _
  refine zaa (znX n xs om) ?_
  refine xg0 ?_
  refine zag (fun (za:(Nat->Bool) × List Nat × Nat × Nat × PV × Nat) s=>match za with | (f,l,m,v,fc,u)=>(s.sl 2 = .ref 2 1 0/\s.rw 2 = ⟨1,.box 27 [int 0,.v (.slice none 0 0)]⟩/\s.sl 5 = .ref 5 1 0/\s.rw 5 = ⟨1,.box 27 [int n,fc]⟩/\s.sl 6 = .own 16 v/\s.rw 16 = ⟨v,.sli 3 1 false (iL (ofN l))⟩)/\(zzW m f l = zq8 xs/\zHY f <= m/\l.length + m <= 64/\zzP n f/\((fc = .own 15 1/\s.rw 15 = ⟨1,.sli 3 1 false (iL (ofN (zcK f true)))⟩) \/ (fc = .own 45 u/\s.rw 45 = ⟨u,.sli 3 1 false (iL (ofN (zcK f true)))⟩)))) (fun (f,l,m,v,fc,u)=>m) ((zah xs,[],64,1,.own 15 1,0)) ⟨xc0,⟨rfl,zH7 _,sp,zjy hc,Or.inl ⟨rfl,by rw [<- hxe];simp -dsimp only [gr,simprocAttr]⟩⟩⟩ ?_
  intro (f,l,m,v,fc,u) sa ⟨Ha,hIa⟩
  obtain ⟨hcol,hcnt,hlen,hfam,hfc⟩:=hIa
  rcases hfc with ⟨rfl,hrow⟩ | ⟨rfl,hrow⟩
  ·have hfac:=zvB h1 h6 hfam
   have hcx:=zyp h1 h6 hfam
   have hfr:zbh (za8 n (ofN (zcK f true))) = zbh f:=zhC hfac
   refine xg2 Ha hrow ?_
   refine zaa (zfG n (ofN (zcK f true))) ?_
   rw [hfr]
   have hol:=zad (zbh f)
   have hfl:=zng f
   by_cases hz0:(zbh f).length = 0
   ·have hs:zdA f = true:=by unfold zdA;rw [hz0];rfl
    have he:=zgx hs l m
    rw [hcol] at he
    refine xg5 Ha hrow hol hz0 (show (((0:Nat):Int) == 0) = true from rfl) ?_
    rw [he]
    exact ⟨rfl,rfl⟩
   ·have hw1:IntKind.i64.wrap (((zbh f).length:Int) - 1) = (((zbh f).length - 1:Nat):Int):=by rw [zai om om];omega
    have hne:(((zbh f).length:Int) == 0) = false:=beq_eq_false_iff_ne.2 om
    have hlast:=znp (l:=zbh f) om
    refine xg7 Ha hrow hol hw1 hne @Int.toNat_natCast hlast ?_
    refine ⟨om,om,fun h0=>?_,fun h0=>?_⟩
    ·have hs:zdA f = true:=by
      unfold zdA
      have:zeC (zbh f) = 0:=by have:=beq_iff_eq.1 h0;omega
      rw [this];simp
     have he:=zgx hs l m
     rw [hcol] at he
     rw [he]
     exact ⟨rfl,rfl⟩
    ·have hs:zdA f = false:=by
      unfold zdA
      rw [Bool.or_eq_false_iff,beq_eq_false_iff_ne,beq_eq_false_iff_ne]
      refine ⟨hz0,fun e=>?_⟩
      rw [e] at h0;simp at h0
     obtain ⟨c1,c2,c3,c4,c5⟩:=zgy hs
     have hpos:=zvt hs
     obtain ⟨m',rfl⟩:∃ m',m = m' + 1:=⟨m - 1,om⟩
     obtain ⟨hstep,hcnt'⟩:=znf hs l hcnt
     generalize hsv:zeC (zbh f) = sv at *
     have hl5:=zcC n (ofN (zcK f true)) sv c1
     rw [zH6 hfac sv] at hl5
     refine ⟨om,om,by rw [zad];omega,zaa hl5 ?_⟩
     have e2:ofN (l ++ [sv]) = ofN l ++ [((sv:Nat):Int)]:=zaD l [sv]
     refine xg2 Ha hrow ?_
     exact zab ((rmF f sv,l ++ [sv],m',v + 1,.own 45 ((sa.rw 45).ver + 1),(sa.rw 45).ver + 1)) ⟨(xc3 Ha hrow e2),⟨by rw [<- hstep];exact hcol,hcnt',by show (l ++ [sv]).length + m' <= 64;rw [List.length_append,List.length_singleton];omega,zyq hfam sv,Or.inr ⟨rfl,by simp -dsimp only [gr,simprocAttr,hrow]⟩⟩⟩
  ·have hfac:=zvB h1 h6 hfam
   have hcx:=zyp h1 h6 hfam
   have hfr:zbh (za8 n (ofN (zcK f true))) = zbh f:=zhC hfac
   refine xg2 Ha hrow ?_
   refine zaa (zfG n (ofN (zcK f true))) ?_
   rw [hfr]
   have hol:=zad (zbh f)
   have hfl:=zng f
   by_cases hz0:(zbh f).length = 0
   ·have hs:zdA f = true:=by unfold zdA;rw [hz0];rfl
    have he:=zgx hs l m
    rw [hcol] at he
    refine xg5 Ha hrow hol hz0 (show (((0:Nat):Int) == 0) = true from rfl) ?_
    rw [he]
    exact ⟨rfl,rfl⟩
   ·have hw1:IntKind.i64.wrap (((zbh f).length:Int) - 1) = (((zbh f).length - 1:Nat):Int):=by rw [zai om om];omega
    have hne:(((zbh f).length:Int) == 0) = false:=beq_eq_false_iff_ne.2 om
    have hlast:=znp (l:=zbh f) om
    refine xg7 Ha hrow hol hw1 hne @Int.toNat_natCast hlast ?_
    refine ⟨om,om,fun h0=>?_,fun h0=>?_⟩
    ·have hs:zdA f = true:=by
      unfold zdA
      have:zeC (zbh f) = 0:=by have:=beq_iff_eq.1 h0;omega
      rw [this];simp
     have he:=zgx hs l m
     rw [hcol] at he
     rw [he]
     exact ⟨rfl,rfl⟩
    ·have hs:zdA f = false:=by
      unfold zdA
      rw [Bool.or_eq_false_iff,beq_eq_false_iff_ne,beq_eq_false_iff_ne]
      refine ⟨hz0,fun e=>?_⟩
      rw [e] at h0;simp at h0
     obtain ⟨c1,c2,c3,c4,c5⟩:=zgy hs
     have hpos:=zvt hs
     obtain ⟨m',rfl⟩:∃ m',m = m' + 1:=⟨m - 1,om⟩
     obtain ⟨hstep,hcnt'⟩:=znf hs l hcnt
     generalize hsv:zeC (zbh f) = sv at *
     have hl5:=zcC n (ofN (zcK f true)) sv c1
     rw [zH6 hfac sv] at hl5
     refine ⟨om,om,by rw [zad];omega,zaa hl5 ?_⟩
     have e2:ofN (l ++ [sv]) = ofN l ++ [((sv:Nat):Int)]:=zaD l [sv]
     refine xg2 Ha hrow ?_
     exact zab ((rmF f sv,l ++ [sv],m',v + 1,.own 45 ((sa.rw 45).ver + 1),(sa.rw 45).ver + 1)) ⟨(xc3 Ha hrow e2),⟨by rw [<- hstep];exact hcol,hcnt',by show (l ++ [sv]).length + m' <= 64;rw [List.length_append,List.length_singleton];omega,zyq hfam sv,Or.inr ⟨rfl,by simp -dsimp only [gr,simprocAttr,hrow]⟩⟩⟩
theorem zhp (G s t:Nat) (hG:G < 18446744073709551616) (hs:s < 64) (ht:t < 64):AC Tryz.prog 227 [int t,.eref false [u64 G] 0,.eref false [int s] 0] (.im (bool (rmF G.testBit s t))):=by
 refine xac [.tmp 4] Tryz.func227 fun hl=>?_
 have e1:zb8 .i64 (s:Int) (t:Int) = ((s ^^^ (s &&& t):Nat):Int):=zbj om om
 have e2:((((s ^^^ (s &&& t):Nat):Int)) != 0) = !(t &&& s == s):=by
  have:=zbP (a:=s) (b:=t)
  rw [Nat.and_comm t s,Bool.eq_iff_iff,bne_iff_ne,Bool.not_eq_true',beq_eq_false_iff_ne]
  omega
 refine xg2 e1 e2 ?_
 refine zaa (zbo G _ hG ht) ?_
 refine xg2 e1 e2 ?_
 unfold rmF
 refine ⟨fun h=>?_,fun h=>?_⟩
 ·have h:G.testBit t = true:=by simpa using h
  rw [h];rfl
 ·have h:G.testBit t = false:=by simpa using h
  rw [h];rfl
theorem zeF (f:Nat->Bool) (s:Nat) (hs:s < 64):AC Tryz.prog 201 [u64 (zax f 64:Nat),int s] (.im (u64 (zax (rmF f s) 64:Nat))):=by
 refine xac [.tmp 4] Tryz.func201 fun hl=>?_
 have hlt:=zbn f 64
 refine xg0 ?_
 refine zaa (zd2 6 om _ [.eref false [u64 (zax f 64:Nat)] 0,.eref false [int s] 0] (rmF (zax f 64).testBit s) (fun rw=>rfl) fun t ht=>zhp _ s t om hs om) ?_
 rw [zpz (w':=rmF f s) om fun t ht=>by rw [decide_eq_true (show t < 2 ^ 6 by omega),Bool.true_and];unfold rmF;rw [zba f ht]]
 exact xd0
noncomputable def lkX (xs:List Int) (p:Nat):List Int:=ofN (zcK (inF (zna xs (2 ^ p))) true)
noncomputable def dlX (xs:List Int) (p:Nat):List Int:=ofN (zcK (rmF (zah xs) (2 ^ p)) true)
noncomputable def zrc (xs:List Int) (p:Nat):Bool:=zah xs (2 ^ p) && (lkX xs p).all fun s=>!decide (s ∈ dlX xs p)
def kyX (xs:List Int):Nat:=zax (zah xs) 64
theorem zAn (xs:List Int):kyX xs < 18446744073709551616:=by have:=zbn (zah xs) 64;unfold kyX;omega
theorem p64 {p:Nat} (hp:p < 6):2 ^ p < 64:=by have:=Nat.pow_lt_pow_right (a:=2) (by decide) hp;omega
theorem zvL {n:Int} {xs:List Int} (h:zaC n xs = true):ofN (zcK (kyX xs).testBit true) = xs:=by
 conv=>rhs;rw [zuc h]
 exact congrArg ofN (zeW (fun s hs=>zba (zah xs) hs) true)
theorem zlh {m:Nat} {xs:List Int} (h:zaC (m:Int) xs = true) {p:Nat} (hp:p < 6):zaC (m:Int) (lkX xs p) = true:=zDG h (p64 hp)
theorem zuk {m:Nat} {xs:List Int} (h:zaC (m:Int) xs = true) (p:Nat):zaC (m:Int) (dlX xs p) = true:=by
 obtain ⟨h1,h6,_⟩:=zaK.1 h
 exact zyp h1 h6 (zyq (zjy h) _)
theorem zul {m:Nat} {xs:List Int} (h:zaC (m:Int) xs = true) {p:Nat} (hp:p < 6) (t:Nat):zah (lkX xs p) t = zbE (zah xs) (2 ^ p) t:=congrFun (zFV h (p64 hp)) t
theorem zum {m:Nat} {xs:List Int} (h:zaC (m:Int) xs = true) (p:Nat) {t:Nat} (ht:t < 64):zah (dlX xs p) t = rmF (zah xs) (2 ^ p) t:=by
 obtain ⟨h1,h6,_⟩:=zaK.1 h
 have:=zvB h1 h6 (zyq (zjy h) (2 ^ p)) t ht
 unfold za8 at this
 have e:=zuk h p
 unfold dlX at e ⊢
 rwa [e,Bool.true_and] at this
theorem zIj {m:Nat} {xs:List Int} (h:zaC (m:Int) xs = true) {p:Nat} (hp:p < 6):zax (zbE (zah xs) (2 ^ p)) 64 = kyX (lkX xs p):=zcQ fun t _=>(zul h hp t).symm
theorem zKA {m:Nat} {xs:List Int} (h:zaC (m:Int) xs = true) (p:Nat):zax (rmF (zah xs) (2 ^ p)) 64 = kyX (dlX xs p):=zcQ fun t ht=>(zum h p om).symm
theorem zli {q:Int->Bool} {l:List Int} {j:Nat} (hj:j < l.length) (h:q (l.getD j 0) = false):l.all q = false:=by
 rw [List.all_eq_false]
 exact ⟨_,zaj 0 hj,by rw [h];decide⟩
theorem zjB {q:Int->Bool} {l:List Int} {j:Nat} (hj:j < l.length):(l.take (j + 1)).all q = ((l.take j).all q && q (l.getD j 0)):=by
 rw [zas 0 hj,List.all_append];simp
theorem zrd (m:Nat) (xs:List Int) (p:Nat) (h:zaC (m:Int) xs = true) (hp:p < 6):AC Tryz.prog 200 [u64 (kyX xs),int p] (.im (bool (zrc xs p))):=by
 refine xac [.tmp 4] Tryz.func200 fun hl=>?_
 have hb:=p64 hp
 have hky:=zAn xs
 have hun:IntKind.u64.wrap (p:Int) = (p:Int):=zaI om
 have hsh:zg1 .i64 1 (p:Int) = ((2 ^ p:Nat):Int):=zaW om
 have hf:(kyX xs).testBit (2 ^ p) = zah xs (2 ^ p):=zba _ hb
 refine xg2 hun hsh ?_
 refine zaa (zbo (kyX xs) _ hky hb) ?_
 rw [hf]
 refine xg2 hun hsh ?_
 unfold zrc
 refine ⟨fun h0=>?_,fun h0=>zaa (zeF (zah xs) _ hb) ?_⟩
 ·have h0:zah xs (2 ^ p) = false:=by simpa using h0
  rw [h0];rfl
 have h0:zah xs (2 ^ p) = true:=by simpa using h0
 rw [zKA h,h0,Bool.true_and]
 refine xg0 ?_
 refine zaa (zcD _ (zAn _)) ?_
 rw [zvL (zuk h p)]
 refine xg0 ?_
 refine zaa (zdM (zah xs) _ hb) ?_
 rw [zIj h hp]
 refine xg0 ?_
 refine zaa (zcD _ (zAn _)) ?_
 rw [zvL (zlh h hp)]
 have hLl:=zeo (zlh h hp)
 generalize lkX xs p = L at *
 generalize dlX xs p = D at *
 refine xg0 ?_
 refine zag (fun (j:Nat) s=>(s.sl 6 = .own 19 1/\s.rw 19 = ⟨1,.sli 3 1 false (iL D)⟩/\s.sl 23 = .own 23 1/\s.rw 23 = ⟨1,.sli 3 1 false (iL L)⟩/\s.sl 24 = int L.length/\s.sl 25 = int j)/\(j <= L.length/\(L.take j).all (fun s=>!decide (s ∈ D)) = true)) (fun j=>L.length - j) (0) ⟨xc0,⟨Nat.zero_le _,rfl⟩⟩ ?_
 intro j sa ⟨Ha,hIa⟩
 obtain ⟨hj,hall⟩:=hIa
 refine xg1 Ha ?_
 refine ⟨fun h1=>⟨h1,h1,zaa (zjo _ _) ?_⟩,fun h1=>?_⟩
 ·refine xg1 Ha ?_
  refine ⟨fun h2=>?_,fun h2=>?_⟩
  ·rw [zli h1 (by rw [decide_eq_true h2];rfl)]
  ·exact zab (j + 1) ⟨(xc2 Ha (zac h1 om)),⟨om,by rw [zjB h1,hall,decide_eq_false h2];rfl⟩⟩
 ·rw [show L.take j = L from List.take_of_length_le om] at hall
  rw [hall]
theorem zi0 (m:Nat) (xs:List Int) (p:Nat) (h:zaC (m:Int) xs = true) (hp:p < m):AC Tryz.prog 206 [.ag [int m,zaz xs],int p] (.im (bool (zrc xs p))):=by
 refine xac [.tmp 4] Tryz.func206 fun hl=>?_
 obtain ⟨h1,h6,_⟩:=zaK.1 h
 have hp6:p < 6:=om
 have hb:=p64 hp6
 have hun:IntKind.u64.wrap (p:Int) = (p:Int):=zaI om
 have hsh:zg1 .i64 1 (p:Int) = ((2 ^ p:Nat):Int):=zaW om
 have hw:IntKind.i64.wrap ((m:Int) - 1) = (m:Int) - 1:=zai om om
 have hok:=zcb h
 refine xg0 ?_
 refine zaa (zat m xs) ?_
 have hin:(decide ((0:Int) <= (p:Int)) && decide ((p:Int) <= (m:Int) - 1)) = true:=by
  rw [Bool.and_eq_true,decide_eq_true_iff,decide_eq_true_iff];omega
 refine xg2 h hw ?_
 refine zaa (zbC _ _ _) ?_
 rw [hin]
 refine xg4 h hw hun hsh ?_
 refine zaa (zdv m xs _ hok hb) ?_
 refine xg4 h hw hun hsh ?_
 unfold zrc
 refine ⟨fun h0=>?_,fun h0=>?_⟩
 ·have h0:zah xs (2 ^ p) = false:=by simpa using h0
  rw [h0];rfl
 have h0:zah xs (2 ^ p) = true:=by simpa using h0
 have hxl:=zeo h
 rw [h0,Bool.true_and]
 refine zaa (zdN m xs _ hb hok om) ?_
 refine xg4 h hw hun hsh ?_
 refine zaa (zcC m xs _ hb) ?_
 have hfac:za8 (m:Int) xs = zah xs:=by funext t;unfold za8;rw [h,Bool.true_and]
 rw [hfac]
 have hLl:=zeo (zlh h hp6)
 refine xg4 h hw hun hsh ?_
 have eL:ofN (zcK (inF (zna xs (2 ^ p))) true) = lkX xs p:=rfl
 have eD:ofN (zcK (rmF (zah xs) (2 ^ p)) true) = dlX xs p:=rfl
 rw [eL,eD]
 generalize lkX xs p = L at *
 generalize dlX xs p = D at *
 refine zag (fun (j:Nat) s=>(s.sl 5 = .ref 5 1 0/\s.rw 5 = ⟨1,.box 27 [int m,.own 31 1]⟩/\s.rw 31 = ⟨1,.sli 3 1 false (iL L)⟩/\s.sl 6 = .ref 6 1 0/\s.rw 6 = ⟨1,.box 27 [int m,.own 36 1]⟩/\s.rw 36 = ⟨1,.sli 3 1 false (iL D)⟩/\s.sl 7 = int j)/\(j <= L.length/\(L.take j).all (fun s=>!decide (s ∈ D)) = true)) (fun j=>L.length - j) (0) ⟨xc0,⟨Nat.zero_le _,rfl⟩⟩ ?_
 intro j sa ⟨Ha,hIa⟩
 obtain ⟨hj,hall⟩:=hIa
 refine xg1 Ha ?_
 refine ⟨fun h1=>?_,fun h1=>?_⟩
 ·refine ⟨kr,h1,h1,zaa (zel _ _) ?_⟩
  refine xg1 Ha ?_
  refine ⟨fun h2=>?_,fun h2=>?_⟩
  ·rw [zli h1 (by rw [decide_eq_true h2];rfl)]
  ·exact zab (j + 1) ⟨(xc2 Ha (zac h1 om)),⟨om,by rw [zjB h1,hall,decide_eq_false h2];rfl⟩⟩
 ·rw [show L.take j = L from List.take_of_length_le om] at hall
  rw [hall]
noncomputable def usX (xs:List Int):Nat:=((List.range 6).filter fun p=>zah xs (2 ^ p)).length
noncomputable def zyA:Nat->List Int->Bool
 | 0,_=>true
 | r + 1,xs=>decide (xs.length <= 1) || (List.range 6).any fun p=>zrc xs p && zyA r (lkX xs p) && zyA r (dlX xs p)
theorem zAj (r:Nat) (xs:List Int):zyA (r + 1) xs = (decide (xs.length <= 1) || (List.range 6).any fun p=>zrc xs p && zyA r (lkX xs p) && zyA r (dlX xs p)):=rfl
noncomputable def zvK (xs:List Int):Bool:=zyA 7 xs
theorem zuj {a b:Nat->Bool} {p:Nat}:∀ {l:List Nat},(∀ q ∈ l,a q = true->b q = true)->p ∈ l->b p = true->a p = false->(l.filter a).length < (l.filter b).length
 | [],_,h,_,_=>by cases h
 | x :: l,h,hp,hb,ha=>by
   have hle:(l.filter a).length <= (l.filter b).length:=by
    have:l.filter a = (l.filter b).filter a:=by
     rw [List.filter_filter]
     refine List.filter_congr fun q hq=>?_
     have:=h q (List.mem_cons_of_mem _ hq)
     cases hh:a q
     ·rfl
     ·rw [this hh];rfl
    rw [this];exact List.length_filter_le _ _
   rcases List.mem_cons.1 hp with rfl | hp
   ·rw [List.filter_cons,List.filter_cons,if_pos hb,if_neg (by rw [ha];decide),List.length_cons];omega
   ·have ih:=zuj (fun q hq=>h q (List.mem_cons_of_mem _ hq)) hp hb ha
    have hx:=h x sp
    rw [List.filter_cons,List.filter_cons]
    cases h1:a x
    ·cases h2:b x
     ·simpa using ih
     ·simp;omega
    ·rw [hx h1];simpa using ih
theorem zET (xs:List Int):usX xs <= 6:=by
 have:=List.length_filter_le (fun p=>zah xs (2 ^ p)) (List.range 6)
 rw [List.length_range] at this;exact this
theorem zAk {m:Nat} {xs:List Int} (h:zaC (m:Int) xs = true) {p:Nat} (hp:p < 6) (hf:zah xs (2 ^ p) = true):usX (lkX xs p) < usX xs:=by
 refine zuj (p:=p) (fun q hq e=>?_) (List.mem_range.2 hp) hf ?_
 ·rw [zul h hp] at e
  unfold zbE at e
  rw [Bool.and_eq_true] at e
  exact zjs e.2 (Nat.eq_of_testBit_eq fun i=>by rw [Nat.testBit_and,Nat.testBit_or];cases Nat.testBit (2 ^ q) i <;> simp)
 ·rw [zul h hp]
  unfold zbE
  rw [Nat.and_self,show ((2 ^ p == 0) = false) from by rw [beq_eq_false_iff_ne];have:=Nat.two_pow_pos p;omega];rfl
theorem zAl {m:Nat} {xs:List Int} (h:zaC (m:Int) xs = true) {p:Nat} (hp:p < 6) (hf:zah xs (2 ^ p) = true):usX (dlX xs p) < usX xs:=by
 refine zuj (p:=p) (fun q hq e=>?_) (List.mem_range.2 hp) hf ?_
 ·rw [zum h p (p64 (List.mem_range.1 hq))] at e
  unfold rmF at e
  rw [Bool.and_eq_true] at e
  exact e.1
 ·rw [zum h p (p64 hp)]
  unfold rmF
  rw [Nat.and_self];simp
theorem zhQ {xs:List Int} {p:Nat} (h:zrc xs p = true):zah xs (2 ^ p) = true:=by
 unfold zrc at h;rw [Bool.and_eq_true] at h;exact h.1
theorem any_eq {a b:Nat->Bool} {l:List Nat} (h:∀ q ∈ l,a q = b q):l.any a = l.any b:=by
 rw [Bool.eq_iff_iff,List.any_eq_true,List.any_eq_true]
 exact ⟨fun ⟨q,hq,e⟩=>⟨q,hq,by rw [<- h q hq];exact e⟩,fun ⟨q,hq,e⟩=>⟨q,hq,by rw [h q hq];exact e⟩⟩
theorem zhR (m:Nat):∀ (r:Nat) (xs:List Int),zaC (m:Int) xs = true->usX xs < r->∀ r',usX xs < r'->zyA r xs = zyA r' xs
 | 0,_,_,h,_,_=>om
 | r + 1,xs,hc,h,0,h'=>om
 | r + 1,xs,hc,h,r' + 1,h'=>by
   unfold zyA
   congr 1
   refine any_eq fun p hp=>?_
   have hp:=List.mem_range.1 hp
   cases hs:zrc xs p
   ·rfl
   ·have hf:=zhQ hs
    have h1:=zAk hc hp hf
    have h2:=zAl hc hp hf
    rw [zhR m r _ (zlh hc hp) om r' om,zhR m r _ (zuk hc p) om r' om]
noncomputable def zEA (xs:List Int) (p:Nat):Bool:=zrc xs p && zvK (lkX xs p) && zvK (dlX xs p)
theorem zAm {m:Nat} {xs:List Int} (hc:zaC (m:Int) xs = true):zvK xs = (decide (xs.length <= 1) || (List.range 6).any (zEA xs)):=by
 refine (zAj 6 xs).trans (congrArg (decide (xs.length <= 1) || ·) (any_eq fun p hp=>?_))
 have hp:=List.mem_range.1 hp
 show (zrc xs p && zyA 6 (lkX xs p) && zyA 6 (dlX xs p)) = (zrc xs p && zyA 7 (lkX xs p) && zyA 7 (dlX xs p))
 cases hs:zrc xs p
 ·simp only [Bool.false_and]
 ·have hf:=zhQ hs
  have h0:=zET xs
  have h1:=zAk hc hp hf
  have h2:=zAl hc hp hf
  rw [zhR m 6 _ (zlh hc hp) om 7 om,zhR m 6 _ (zuk hc p) om 7 om]
theorem zIi {m:Nat} {xs:List Int} (hc:zaC (m:Int) xs = true) {p:Nat} (hp:p < 6) (hm:m <= p):zrc xs p = false:=by
 have hn:zah xs (2 ^ p) = false:=by
  refine Bool.eq_false_iff.2 fun hf=>?_
  have:=(zjy hc).2 _ (p64 hp) hf
  rw [Int.toNat_natCast] at this
  have:=Nat.pow_le_pow_right (show 0 < 2 by decide) hm
  omega
 unfold zrc;rw [hn];rfl
theorem zEU {m:Nat} {xs:List Int} (hc:zaC (m:Int) xs = true) (h:∀ p,p < m->zEA xs p = false):(List.range 6).any (zEA xs) = false:=by
 rw [List.any_eq_false]
 intro p hp
 by_cases hm:p < m
 ·rw [h p hm];decide
 ·unfold zEA;rw [zIi hc (List.mem_range.1 hp) om];simp
theorem zlg (m r:Nat) (ih:∀ xs,zaC (m:Int) xs = true->usX xs < r->AC Tryz.prog 134 [.ag [int m,zaz xs]] (.im (bool (zvK xs)))) (xs:List Int) (p:Nat) (h:zaC (m:Int) xs = true) (hu:usX xs < r + 1) (hp:p < m):AC Tryz.prog 180 [.ag [int m,zaz xs],int p] (.im (bool (zEA xs p))):=by
 refine xac [.tmp 4] Tryz.func180 fun hl=>?_
 obtain ⟨h1,h6,_⟩:=zaK.1 h
 have hp6:p < 6:=om
 have hb:=p64 hp6
 have hun:IntKind.u64.wrap (p:Int) = (p:Int):=zaI om
 have hsh:zg1 .i64 1 (p:Int) = ((2 ^ p:Nat):Int):=zaW om
 have hok:=zcb h
 have hxl:=zeo h
 have hfac:za8 (m:Int) xs = zah xs:=by funext t;unfold za8;rw [h,Bool.true_and]
 have eL:ofN (zcK (inF (zna xs (2 ^ p))) true) = lkX xs p:=rfl
 have eD:ofN (zcK (rmF (zah xs) (2 ^ p)) true) = dlX xs p:=rfl
 refine xg2 hun hsh ?_
 refine zaa (zi0 m xs p h hp) ?_
 refine xg2 hun hsh ?_
 unfold zEA
 refine ⟨fun hs=>?_,fun hs=>?_⟩
 ·have hf:=zhQ hs
  have u1:=zAk h hp6 hf
  have u2:=zAl h hp6 hf
  refine zaa (zdN m xs _ hb hok om) ?_
  rw [eL]
  refine xg2 hun hsh ?_
  refine zaa (ih _ (zlh h hp6) om) ?_
  rw [hs,Bool.true_and]
  refine xg2 hun hsh ?_
  refine ⟨fun hd=>?_,fun hd=>?_⟩
  ·refine zaa (zcC m xs _ hb) ?_
   rw [hfac,eD]
   refine xg2 hun hsh ?_
   refine zaa (ih _ (zuk h p) om) ?_
   refine xg0 ?_
   rw [hd];rfl
  ·rw [hd];rfl
 ·rw [hs];rfl
theorem zny (m:Nat):∀ (r:Nat) (xs:List Int),zaC (m:Int) xs = true->usX xs < r->AC Tryz.prog 134 [.ag [int m,zaz xs]] (.im (bool (zvK xs))):=by
 intro r
 induction r with
 | zero=>intro xs _ h;omega
 | succ r ih =>
   intro xs h hu
   refine xac [.tmp 2] Tryz.func134 fun hl=>?_
   obtain ⟨h1,h6,_⟩:=zaK.1 h
   have hde:=zAm h
   refine xg0 ?_
   refine ⟨fun h0=>?_,fun h0=>?_⟩
   ·rw [hde,decide_eq_true (show xs.length <= 1 by omega)];rfl
   rw [decide_eq_false (show ¬ xs.length <= 1 by omega),Bool.false_or] at hde
   refine zag (fun (j:Nat) s=>(s.sl 1 = .ref 1 1 0/\s.rw 1 = ⟨1,.box 27 [int m,zaz xs]⟩/\s.sl 3 = int j)/\(j <= m/\∀ p,p < j->zEA xs p = false)) (fun j=>m - j) (0) ⟨xc0,⟨Nat.zero_le _,fun p hp=>absurd hp (Nat.not_lt_zero p)⟩⟩ ?_
   intro j sa ⟨Ha,hIa⟩
   obtain ⟨hj,hall⟩:=hIa
   refine xg1 Ha ?_
   refine ⟨fun h2=>?_,fun h2=>?_⟩
   ·refine zaa (zlg m r ih xs j h hu h2) ?_
    refine xg1 Ha ?_
    refine ⟨fun h3=>?_,fun h3=>?_⟩
    ·rw [hde,List.any_eq_true]
     exact ⟨j,List.mem_range.2 om,h3⟩
    ·exact zab (j + 1) ⟨(xc2 Ha (zac h2 om)),⟨om,fun p hp=>by
      rcases Nat.lt_succ_iff_lt_or_eq.1 hp with hp | rfl
      ·exact hall p hp
      ·exact h3⟩⟩
   ·rw [hde,zEU h fun p hp=>hall p om]
noncomputable def zEV (n:Int) (xs:List Int):Bool:=zaC n xs && zvK xs
theorem zfW (n:Int) (xs:List Int):AC Tryz.prog 74 [.ag [int n,zaz xs]] (.im (bool (zEV n xs))):=by
 refine xac [.tmp 2] Tryz.func74 fun hl=>?_
 refine xg0 ?_
 refine zaa (zat n xs) ?_
 refine xg0 ?_
 unfold zEV
 refine ⟨fun h=>?_,fun h=>?_⟩
 ·obtain ⟨h1,h6,_⟩:=zaK.1 h
  obtain ⟨m,rfl⟩:∃ m:Nat,n = m:=⟨n.toNat,om⟩
  have:=zET xs
  refine zaa (zny m 7 xs h om) ?_
  refine xg0 ?_
  rw [h];rfl
 ·rw [h];rfl
abbrev Mf:=Int->Int
def mpR (g:Mf) (i:Nat):Row:=if i = 1000000 then ⟨1,.mp g⟩ else ⟨0,.dead⟩
theorem zjA (g:Mf):mpR g 1000000 = ⟨1,.mp g⟩:=if_pos rfl
theorem zAe (g:Mf) {i:Nat} (h:i ≠ 1000000):mpR g i = ⟨0,.dead⟩:=if_neg h
theorem zAf {g:Mf} {i:Nat} (h:(mpR g i).kind.nd = true):i = 1000000:=Classical.byContradiction fun e=>by rw [zAe g e] at h;cases h
def zn2 (x:Bool × Mf) (R1:Nat->Row) (p:PV):Prop:=p = bool x.1/\R1 1000000 = ⟨1,.mp x.2⟩
def zAg (k a:Nat):Option Nat:=if a = 1000000 then some k else none
theorem zpO (k:Nat):zAg k 1000000 = some k:=if_pos rfl
theorem zeE {k a x:Nat} (h:zAg k a = some x):a = 1000000/\x = k:=by
 unfold zAg at h
 split at h
 ·cases h;exact ⟨‹_›,rfl⟩
 ·cases h
theorem zfV {rho:Nat->Option Nat} {Ln:Nat->Prop} {R0 R:Nat->Row}:∀ {l:List PV},zbs l->GvL rho Ln R0 R l l
 | [],_=>.nil
 | p :: l,h=>by
   have hp:=h p sp
   cases p <;> first | exact .one (.v _) (zfV fun q hq=>h q (by simp [hq])) | (simp [isV] at hp)
theorem zKz [zae] {s:St} {K:St->Prop} {f:FuncId} {args:List PV} {d k v:Nat} {g:Mf} {x:Bool × Mf} (hc:AG Tryz.prog f (.ag [.own 1000000 1] :: args) (mpR g) (zn2 x)) (hp:zbs args) (hk:s.rw k = ⟨v,.mp g⟩)
 (hK:K ((s.row k ⟨v,.mp x.2⟩).put (some d) (bool x.1))):askG Tryz.prog s f (.ag [.own k v] :: args) (some d) K:=by
 refine ⟨_,_,_,zAg k,fun _=>False,hc,.ag (.one (.own (zpO k) (by rw [zjA]) (by rw [hk]) (by rw [zjA];rfl)) .nil) (zfV hp),⟨fun a ha=>?_,fun a b j ha hb _ _=>(zAf ha).trans (zAf hb).symm,fun _ _ _ _ h=>h⟩,fun R1 p ⟨e1,e2⟩=>?_⟩
 ·have:=zAf ha
  subst this
  exact ⟨Nat.le_refl _,by rw [zjA];exact Nat.one_pos,k,zpO k,by rw [zjA,hk];rfl⟩
 ·subst e1
  refine ⟨zAg k,fun _=>v,true,⟨fun _ _=>rfl,fun a b j ha hb=>(zeE ha).1.trans (zeE hb).1.symm,fun a j ha _ _=>?_,fun a j ha hn=>?_,fun _ _ h=>h⟩,fun S hS=>?_⟩
  ·rw [(zeE ha).2,hk]
  ·have:=(zeE ha).1
   subst this
   exact absurd (by rw [e2,zjA]) (hn (by rw [zjA];rfl))
  ·have e:S = (s.row k ⟨v,.mp x.2⟩).put (some d) (bool x.1):=by
    refine St.ext2 (fun i=>?_) fun a=>?_
    ·rw [hS.sl]
     by_cases e:i = d
     ·subst e;rw [zau,zau];rfl
     ·rw [zaG _ _ _ _ e,zaG _ _ _ _ e];rfl
    ·rw [zec]
     by_cases e:a = k
     ·subst e;rw [zaA,hS.row 1000000 a (zpO a),e2];rfl
     ·rw [zap _ _ _ _ e]
      exact hS.off a fun b hb=>e (zeE hb).2
   rw [e];exact hK
theorem zES [zae] {s:St} {K:St->Prop} {f:FuncId} {args lents:List PV} {Ka:RV->Prop} {d k v:Nat} {g:Mf} {x:Bool × Mf} {us:Dm s} {u:Dm K} (hc:AG Tryz.prog f (.ag [.own 1000000 1] :: args) (mpR g) (zn2 x)) (hp:zbs args) (hk:s.rw k = ⟨v,.mp g⟩)
 (hK:K ((s.row k ⟨v,.mp x.2⟩).put (some d) (bool x.1))):zf0 Tryz.prog f lents Ka (znD Tryz.prog f lents (.ag [.own k v] :: args) (some d) (kk s us) (kk K u)):=.inr (.inr (.inr (.inr (zKz hc hp hk hK))))
theorem zlf [zae] {s:St} {Ke:Ent->St->Prop} {f:FuncId} {args lents:List PV} {Ka:RV->Prop} {d k v:Nat} {g:Mf} {x:Bool × Mf} {us:Dm s} {u:Dm Ke} (hc:AG Tryz.prog f (.ag [.own 1000000 1] :: args) (mpR g) (zn2 x)) (hp:zbs args) (hk:s.rw k = ⟨v,.mp g⟩) (hd:d % 1000 ≠ k % 1000)
 (hK:Ke ⟨[],.ids [d,k]⟩ ((s.row k ⟨v,.mp x.2⟩).put (some d) (bool x.1))):zf0 Tryz.prog f lents Ka (zED Tryz.prog f (.ag [.own k v] :: args) d (kk s us) (kk Ke u)) :=
 zwP (fun s' hs K' hk'=>zKz hc hp (hs.trans hk) hk') hd hK
def zAh (R1:Nat->Row) (p:PV):Prop:=∃ k v,p = .ag [.own k v]/\R1 k = ⟨v,.mp fun _=>0⟩
theorem zNm [zae] {s:St} {K:St->Prop} {f:FuncId} {d j:Nat} (hc:AG Tryz.prog f [] (fun _=>⟨0,.dead⟩) zAh)
 (hK:K ((s.row j ⟨(s.rw j).ver + 1,.mp fun _=>0⟩).put (some d) (.ag [.own j ((s.rw j).ver + 1)]))):askG Tryz.prog s f [] (some d) K:=by
 refine ⟨_,_,_,fun _=>none,fun _=>False,hc,.nil,⟨fun _ h=>(by cases h),fun _ _ _ h=>(by cases h),fun _ _ h=>(by cases h)⟩,fun R1 p ⟨k,v,hp,hr⟩=>?_⟩
 subst hp
 have hs:∀ {a x:Nat},(if a = k then some j else none) = some x->a = k/\x = j:=fun {a x} h=>by
  split at h
  ·cases h;exact ⟨‹_›,rfl⟩
  ·cases h
 refine ⟨fun a=>if a = k then some j else none,fun _=>(s.rw j).ver + 1,true,⟨fun _ h=>(by cases h),fun a b x ha hb=>(hs ha).1.trans (hs hb).1.symm,fun _ _ _ h=>(by cases h),fun a x ha _=>by rw [(hs ha).2];exact Nat.lt_succ_self _,fun _ _ h=>h⟩,fun S hS=>?_⟩
 have e:S = (s.row j ⟨(s.rw j).ver + 1,.mp fun _=>0⟩).put (some d) (.ag [.own j ((s.rw j).ver + 1)]):=by
  refine St.ext2 (fun i=>?_) fun a=>?_
  ·rw [hS.sl]
   have hr2:zC1 (fun a=>if a = k then some j else none) R1 (fun _=>(s.rw j).ver + 1) true (.ag [.own k v]) = .ag [.own j ((s.rw j).ver + 1)]:=by
    unfold zC1
    simp only [List.map_cons,List.map_nil,ren1,zek,if_pos,hr,beq_self_eq_true]
   rw [hr2]
   by_cases e:i = d
   ·subst e;rw [zau,zau]
   ·rw [zaG _ _ _ _ e,zaG _ _ _ _ e];rfl
  ·rw [zec]
   by_cases e:a = j
   ·subst e;rw [zaA,hS.row k a (if_pos rfl),hr];rfl
   ·rw [zap _ _ _ _ e]
    exact hS.off a fun b hb=>e (hs hb).2
 rw [e];exact hK
theorem zAi [zae] {s:St} {Ke:Ent->St->Prop} {f:FuncId} {lents:List PV} {Ka:RV->Prop} {d:Nat} (j:Nat) {us:Dm s} {u:Dm Ke} (hc:AG Tryz.prog f [] (fun _=>⟨0,.dead⟩) zAh) (hd:d % 1000 ≠ j % 1000)
 (hK:Ke ⟨[],.ids [d,j]⟩ ((s.row j ⟨(s.rw j).ver + 1,.mp fun _=>0⟩).put (some d) (.ag [.own j ((s.rw j).ver + 1)]))):zf0 Tryz.prog f lents Ka (zED Tryz.prog f [] d (kk s us) (kk Ke u)) :=
 zwP (fun s' hs K' hk'=>zNm hc (j:=j) (by rw [hs];exact hk')) hd hK
noncomputable def spF (W:List Int->Mf->Bool × Mf) (xs:List Int) (p:Nat) (g:Mf):Bool × Mf :=
 if zrc xs p = true then (if (W (lkX xs p) g).1 = true then W (dlX xs p) (W (lkX xs p) g).2 else (false,(W (lkX xs p) g).2)) else (false,g)
noncomputable def lpF (S:Nat->Mf->Bool × Mf) (k:Int):Nat->Nat->Mf->Bool × Mf
 | 0,_,g=>(false,g)
 | n + 1,p,g=>if (S p g).1 = true then (true,ztv (S p g).2 k 1) else lpF S k n (p + 1) (S p g).2
noncomputable def wkF:Nat->List Int->Mf->Bool × Mf
 | 0,_,g=>(true,g)
 | r + 1,xs,g=>if xs.length <= 1 then (true,g) else if g (kyX xs) ≠ 0 then (g (kyX xs) == 1,g) else lpF (spF (wkF r) xs) (kyX xs) 6 0 (ztv g (kyX xs) 2)
theorem mpT:zHJ T 103:=⟨by rw [zIq];decide,by rw [zNu];decide,zNt,by rw [T3s];decide,T3k,T3z⟩
theorem plu (a:Nat):zbs [u64 a]:=fun q h=>by rw [List.mem_singleton.1 h];rfl
theorem zPk (a p:Nat):zbs [u64 a,int p]:=fun q h=>by
 rcases List.mem_cons.1 h with rfl | h
 ·rfl
 ·rw [List.mem_singleton.1 h];rfl
theorem zpN (m r:Nat) (ih:∀ xs g,zaC (m:Int) xs = true->usX xs < r->AG Tryz.prog 129 [.ag [.own 1000000 1],u64 (kyX xs)] (mpR g) (zn2 (wkF r xs g))) (xs:List Int) (p:Nat) (g:Mf) (h:zaC (m:Int) xs = true) (hu:usX xs < r + 1) (hp:p < 6) :
 AG Tryz.prog 177 [.ag [.own 1000000 1],u64 (kyX xs),int p] (mpR g) (zn2 (spF (wkF r) xs p g)):=by
 refine xag [.tmp 6] Tryz.func177 fun hl hrl z hz hr=>?_
 have z0:z.sl 0 = .ag [.own 1000000 1]:=by rw [hz];rfl
 have z1:z.sl 1 = u64 (kyX xs):=by rw [hz];rfl
 have z2:z.sl 2 = int p:=by rw [hz];rfl
 have y0:z.rw 1000000 = ⟨1,.mp g⟩:=by rw [hr,zjA]
 have yl:∀ j,j < 1000000->z.rw j = ⟨0,.dead⟩:=fun j hj=>by rw [hr,zAe _ om]
 clear hz hr
 have hb:=p64 hp
 have hun:IntKind.u64.wrap (p:Int) = (p:Int):=zaI om
 have hsh:zg1 .i64 1 (p:Int) = ((2 ^ p:Nat):Int):=zaW om
 refine xg7 z0 z1 z2 y0 yl hun hsh ?_
 refine ⟨kr,zaa (zrd m xs p h hp) ?_⟩
 refine xg5 z0 z1 z2 y0 yl ?_
 unfold spF
 refine ⟨fun hs=>?_,fun hs=>?_⟩
 ·rw [if_pos hs]
  have hf:=zhQ hs
  refine zaa (zdM (zah xs) _ hb) ?_
  rw [zIj h hp]
  refine xg5 z0 z1 z2 y0 yl ?_
  have u1:=zAk h hp hf
  have u2:=zAl h hp hf
  have hA:=ih (lkX xs p) g (zlh h hp) om
  refine zlf hA (plu _) (xr1 y0) (by decide) ?_
  generalize wkF r (lkX xs p) g = a at *
  refine xg5 z0 z1 z2 y0 yl ?_
  refine ⟨fun ha=>?_,fun ha=>?_⟩
  ·rw [if_pos ha]
   refine zaa (zeF (zah xs) _ hb) ?_
   rw [zKA h]
   refine xg5 z0 z1 z2 y0 yl ?_
   have hB:=ih (dlX xs p) a.2 (zuk h p) om
   refine zlf hB (plu _) (xr1 y0) (by decide) ?_
   generalize wkF r (dlX xs p) a.2 = b at *
   refine xg5 z0 z1 z2 y0 yl ?_
   exact ⟨kr,rfl,by simp -dsimp only [gr,simprocAttr,y0]⟩
  ·rw [if_neg (by rw [ha];decide)]
   exact ⟨rfl,by simp -dsimp only [gr,simprocAttr,y0]⟩
 ·rw [if_neg (by rw [hs];decide)]
  exact ⟨rfl,by simp -dsimp only [gr,simprocAttr,y0]⟩
theorem zrb (m:Nat):∀ (r:Nat) (xs:List Int) (g:Mf),zaC (m:Int) xs = true->usX xs < r->AG Tryz.prog 129 [.ag [.own 1000000 1],u64 (kyX xs)] (mpR g) (zn2 (wkF r xs g)):=by
 intro r
 induction r with
 | zero=>intro xs g _ h;omega
 | succ r ih =>
   intro xs g h hu
   refine xag [.tmp 4] Tryz.func129 fun hl hrl z hz hr=>?_
   have z0:z.sl 0 = .ag [.own 1000000 1]:=by rw [hz];rfl
   have z1:z.sl 1 = u64 (kyX xs):=by rw [hz];rfl
   have y0:z.rw 1000000 = ⟨1,.mp g⟩:=by rw [hr,zjA]
   have yl:∀ j,j < 1000000->z.rw j = ⟨0,.dead⟩:=fun j hj=>by rw [hr,zAe _ om]
   clear hz hr
   have hmx:=zcD (kyX xs) (zAn xs)
   rw [zvL h] at hmx
   refine xg4 z0 z1 y0 yl ?_
   refine zaa hmx ?_
   refine xg4 z0 z1 y0 yl ?_
   refine ⟨fun h0=>?_,fun h0=>?_⟩
   ·rw [show wkF (r + 1) xs g = (true,g) from if_pos om]
    exact ⟨rfl,by simp -dsimp only [gr,simprocAttr,y0]⟩
   have hw:=(show wkF (r + 1) xs g = _ from if_neg (show ¬ xs.length <= 1 by omega))
   refine ⟨mpT,fun h1=>?_,fun h1=>?_⟩
   ·rw [hw,if_pos (by simpa using h1)]
    exact ⟨mpT,rfl,by simp -dsimp only [gr,simprocAttr,y0]⟩
   rw [if_neg (by simpa using h1)] at hw
   rw [hw]
   refine ⟨mpT,?_⟩
   refine zag (fun (za:Nat × Mf) s=>match za with | (j,e)=>(s.sl 1 = u64 (kyX xs)/\s.sl 2 = .ref 2 1 0/\s.rw 2 = ⟨1,.box 105 [.own 1000000 1]⟩/\s.rw 1000000 = ⟨1,.mp e⟩/\s.sl 4 = bool false/\s.sl 5 = int j)/\(j <= 6/\lpF (spF (wkF r) xs) (kyX xs) (6 - j) j e = lpF (spF (wkF r) xs) (kyX xs) 6 0 (ztv g (kyX xs) 2))) (fun (j,e)=>6 - j) ((0,ztv g (kyX xs) 2)) ⟨(xc4 z0 z1 y0 yl),⟨Nat.zero_le _,rfl⟩⟩ ?_
   intro (j,e) sa ⟨Ha,hIa⟩
   obtain ⟨hj,hlp⟩:=hIa
   refine xg1 Ha ?_
   refine ⟨fun h2=>?_,fun h2=>?_⟩
   ·rw [show 6 - j = (6 - (j + 1)) + 1 by omega,lpF] at hlp
    have hA:=zpN m r ih xs j e h hu om
    refine zES hA (zPk _ _) (xr1 Ha) ?_
    generalize spF (wkF r) xs j e = a at *
    refine xg1 Ha ?_
    refine ⟨fun ha=>?_,fun ha=>?_⟩
    ·rw [if_pos ha] at hlp
     rw [<- hlp]
     exact ⟨mpT,rfl,by simp -dsimp only [gr,simprocAttr,Ha]⟩
    ·rw [if_neg (by rw [ha];decide)] at hlp
     exact zab ((j + 1,a.2)) ⟨(xc3 Ha Ha (zac (show j < 6 by omega) om)),⟨by dsimp only;omega,hlp⟩⟩
   ·rw [show 6 - j = 0 by omega,lpF] at hlp
    rw [<- hlp]
    exact ⟨rfl,by simp -dsimp only [gr,simprocAttr,Ha]⟩
theorem zKw {n:Int} {xs ys:List Int} (hx:zaC n xs = true) (hy:zaC n ys = true) (h:kyX xs = kyX ys):xs = ys:=by
 rw [zuc hx,zuc hy]
 refine congrArg ofN (zeW (fun s hs=>?_) true)
 rw [<- zba (zah xs) hs,<- zba (zah ys) hs]
 exact congrArg (fun k=>Nat.testBit k s) h
def zEz (m b:Nat) (g:Mf):Prop:=∀ ys,zaC (m:Int) ys = true->(g (kyX ys) = 1->zvK ys = true)/\(g (kyX ys) ≠ 0->g (kyX ys) ≠ 1->usX ys < b->zvK ys = false)
def OkM (m b:Nat) (g:Mf) (xs:List Int) (R:Bool × Mf):Prop:=R.1 = zvK xs/\zEz m b R.2/\∀ ys,zaC (m:Int) ys = true->usX xs < usX ys->R.2 (kyX ys) = g (kyX ys)
theorem zvI (f:Mf) (a y:Int):ztv f a y a = y:=if_pos rfl
theorem zvJ (f:Mf) {a b:Int} (y:Int) (h:b ≠ a):ztv f a y b = f b:=if_neg h
theorem zER {m:Nat} {xs ys:List Int} (hx:zaC (m:Int) xs = true) (hy:zaC (m:Int) ys = true) (h:ys ≠ xs):((kyX ys:Nat):Int) ≠ ((kyX xs:Nat):Int):=fun e=>h (zKw hy hx om)
theorem zKx {m r:Nat} (ih:∀ xs g b,zaC (m:Int) xs = true->usX xs < r->usX xs < b->zEz m b g->OkM m b g xs (wkF r xs g)) {xs:List Int} (hx:zaC (m:Int) xs = true) (hu:usX xs < r + 1) {p:Nat} (hp:p < 6) {e:Mf} (hI:zEz m (usX xs) e) :
 (spF (wkF r) xs p e).1 = zEA xs p/\zEz m (usX xs) (spF (wkF r) xs p e).2/\∀ ys,zaC (m:Int) ys = true->usX xs <= usX ys->(spF (wkF r) xs p e).2 (kyX ys) = e (kyX ys):=by
 unfold spF zEA
 cases hs:zrc xs p
 ·rw [if_neg (by decide)]
  exact ⟨rfl,hI,fun _ _ _=>rfl⟩
 ·rw [if_pos rfl]
  have hf:=zhQ hs
  have u1:=zAk hx hp hf
  have u2:=zAl hx hp hf
  obtain ⟨a1,a2,a3⟩:=ih (lkX xs p) e (usX xs) (zlh hx hp) om u1 hI
  generalize wkF r (lkX xs p) e = a at *
  rw [Bool.true_and,<- a1]
  cases ha:a.1
  ·rw [if_neg (by decide)]
   exact ⟨rfl,a2,fun ys hy hl=>a3 ys hy om⟩
  ·rw [if_pos rfl]
   obtain ⟨b1,b2,b3⟩:=ih (dlX xs p) a.2 (usX xs) (zuk hx p) om u2 a2
   exact ⟨by rw [b1];rfl,b2,fun ys hy hl=>(b3 ys hy om).trans (a3 ys hy om)⟩
theorem zNk {m r b:Nat} (ih:∀ xs g b,zaC (m:Int) xs = true->usX xs < r->usX xs < b->zEz m b g->OkM m b g xs (wkF r xs g)) {xs:List Int} (hx:zaC (m:Int) xs = true) (hu:usX xs < r + 1) (h1:¬ xs.length <= 1) {g:Mf} (hg:zEz m b g) :
 ∀ (n p:Nat) (e:Mf),p + n = 6->zEz m (usX xs) e->(∀ q,q < p->zEA xs q = false)->e (kyX xs) = 2->(∀ ys,zaC (m:Int) ys = true->ys ≠ xs->usX xs <= usX ys->e (kyX ys) = g (kyX ys))->OkM m b g xs (lpF (spF (wkF r) xs) (kyX xs) n p e):=by
 have hde:=zAm hx
 rw [decide_eq_false h1,Bool.false_or] at hde
 have hmix:∀ (e:Mf) (v:Int),(∀ ys,zaC (m:Int) ys = true->ys ≠ xs->usX xs <= usX ys->e (kyX ys) = g (kyX ys))->zEz m (usX xs) e->e (kyX xs) = v->(v = 1->zvK xs = true)->(v ≠ 1->zvK xs = false)->zEz m b e:=fun e v hfr hI hv h1 h2 ys hy=>by
  by_cases hyx:ys = xs
  ·subst hyx
   rw [hv]
   exact ⟨h1,fun _ h _=>h2 h⟩
  ·by_cases hlt:usX ys < usX xs
   ·exact ⟨(hI ys hy).1,fun a b _=>(hI ys hy).2 a b hlt⟩
   ·rw [hfr ys hy hyx om];exact hg ys hy
 have hfar:∀ ys,usX xs < usX ys->ys ≠ xs:=fun ys h e=>by rw [e] at h;omega
 intro n
 induction n with
 | zero =>
   intro p e hp hI hall he hfr
   have hd:zvK xs = false:=by
    rw [hde,List.any_eq_false]
    intro q hq
    rw [hall q (by have:=List.mem_range.1 hq;omega)];decide
   exact ⟨hd.symm,hmix e 2 hfr hI he (fun h=>absurd h (by decide)) (fun _=>hd),fun ys hy hl=>hfr ys hy (hfar ys hl) om⟩
 | succ n ihn =>
   intro p e hp hI hall he hfr
   obtain ⟨a1,a2,a3⟩:=zKx ih hx hu (p:=p) om hI
   rw [lpF]
   generalize spF (wkF r) xs p e = a at *
   have hfr2:∀ ys,zaC (m:Int) ys = true->ys ≠ xs->usX xs <= usX ys->a.2 (kyX ys) = g (kyX ys):=fun ys hy hne hl=>(a3 ys hy hl).trans (hfr ys hy hne hl)
   cases ha:a.1
   ·rw [if_neg (by decide)]
    exact ihn (p + 1) a.2 om a2 (fun q hq=>by
     rcases Nat.lt_succ_iff_lt_or_eq.1 hq with hq | rfl
     ·exact hall q hq
     ·rw [<- a1,ha]) ((a3 xs hx (Nat.le_refl _)).trans he) hfr2
   ·rw [if_pos rfl]
    have hd:zvK xs = true:=by
     rw [hde,List.any_eq_true]
     exact ⟨p,List.mem_range.2 om,by rw [<- a1,ha]⟩
    have hfr3:∀ ys,zaC (m:Int) ys = true->ys ≠ xs->usX xs <= usX ys->ztv a.2 (kyX xs) 1 (kyX ys) = g (kyX ys):=fun ys hy hne hl=>by
     rw [zvJ _ _ (zER hx hy hne)];exact hfr2 ys hy hne hl
    refine ⟨hd.symm,hmix _ 1 hfr3 (fun ys hy=>?_) (zvI _ _ _) (fun _=>hd) (fun h=>absurd rfl h),fun ys hy hl=>hfr3 ys hy (hfar ys hl) om⟩
    by_cases hyx:ys = xs
    ·subst hyx
     show (ztv a.2 _ 1 _ = 1->_)/\(ztv a.2 _ 1 _ ≠ 0->ztv a.2 _ 1 _ ≠ 1->_)
     rw [zvI]
     exact ⟨fun _=>hd,fun _ h=>absurd rfl h⟩
    ·show (ztv a.2 _ 1 _ = 1->_)/\(ztv a.2 _ 1 _ ≠ 0->ztv a.2 _ 1 _ ≠ 1->_)
     rw [zvJ _ _ (zER hx hy hyx)];exact a2 ys hy
theorem zNl (m:Nat):∀ (r:Nat) (xs:List Int) (g:Mf) (b:Nat),zaC (m:Int) xs = true->usX xs < r->usX xs < b->zEz m b g->OkM m b g xs (wkF r xs g):=by
 intro r
 induction r with
 | zero=>intro xs g b _ h;omega
 | succ r ih =>
   intro xs g b hx hu hb hg
   rw [wkF]
   by_cases h1:xs.length <= 1
   ·rw [if_pos h1]
    exact ⟨by rw [zAm hx,decide_eq_true h1];rfl,hg,fun _ _ _=>rfl⟩
   rw [if_neg h1]
   by_cases h2:g (kyX xs) ≠ 0
   ·rw [if_pos h2]
    refine ⟨?_,hg,fun _ _ _=>rfl⟩
    obtain ⟨q1,q2⟩:=hg xs hx
    show (g (kyX xs) == 1) = _
    by_cases h3:g (kyX xs) = 1
    ·rw [q1 h3,h3];rfl
    ·rw [q2 h2 h3 hb];exact beq_eq_false_iff_ne.2 h3
   ·rw [if_neg h2]
    refine zNk ih hx hu h1 hg 6 0 _ rfl (fun ys hy=>?_) (fun q h=>absurd h (Nat.not_lt_zero q)) (zvI _ _ _) (fun ys hy hne _=>zvJ _ _ (zER hx hy hne))
    by_cases hyx:ys = xs
    ·subst hyx
     rw [zvI]
     exact ⟨fun h=>absurd h (by decide),fun _ _ h=>absurd h (Nat.lt_irrefl _)⟩
    ·rw [zvJ _ _ (zER hx hy hyx)]
     exact ⟨(hg ys hy).1,fun a c h=>(hg ys hy).2 a c om⟩
theorem zKy {m:Nat} {xs:List Int} (h:zaC (m:Int) xs = true):(wkF 7 xs fun _=>0).1 = zvK xs:=by
 have:=zET xs
 exact (zNl m 7 xs (fun _=>0) 7 h om om fun ys _=>⟨fun h=>absurd (show (0:Int) = 1 from h) (by decide),fun h=>absurd rfl h⟩).1
theorem zAd (ver:Nat) (f:Mf) (K:Prop):zii ⟨ver,.mp f⟩ ver (kk K) = K:=by simp [zii,RK.slice,kk]
theorem zgU:AG Tryz.prog 128 [] (fun _=>⟨0,.dead⟩) zAh:=by
 refine xag [.cell 0 105] Tryz.func128 fun hl hrl z hz hr=>?_
 have yl:∀ j,z.rw j = ⟨0,.dead⟩:=hr
 clear hz hr
 refine xg2 yl @zAd ?_
 exact ⟨1,1,rfl,by simp -dsimp only [gr,simprocAttr,yl]⟩
theorem zfU (n:Int) (xs:List Int):AC Tryz.prog 66 [.ag [int n,zaz xs]] (.im (bool (zEV n xs))):=by
 refine xac [.tmp 2] Tryz.func66 fun hl=>?_
 refine xg0 ?_
 refine ⟨kr,zaa (zao n xs) ?_⟩
 refine xg0 ?_
 unfold zEV
 refine ⟨fun h=>?_,fun h=>?_⟩
 ·obtain ⟨h1,h6,_⟩:=zaK.1 h
  obtain ⟨m,rfl⟩:∃ m:Nat,n = m:=⟨n.toNat,om⟩
  have hu:=zET xs
  refine zAi 999 zgU (by decide) ?_
  refine xg0 ?_
  refine zaa (zaT m xs (zcb h)) ?_
  refine xg0 ?_
  have hA:=zrb m 7 xs (fun _=>0) h om
  refine zlf hA (plu _) xr0 (by decide) ?_
  rw [h,Bool.true_and,<- zKy h]
  refine xg0 ?_
  kernel_rfl
 ·rw [h];rfl
def rcB (d:Int) (s:Nat) (x:Int):Bool:=(x.toNat &&& s == s) && decide ((zar x.toNat:Int) = d + 1)
def rcN (xs:List Int) (d:Int) (s j:Nat):Nat:=((xs.take j).filter (rcB d s)).length
theorem zq2 (xs:List Int) (d:Int) (s:Nat):rcN xs d s 0 = 0:=by unfold rcN;rw [List.take_zero];rfl
theorem zyr {xs:List Int} (d:Int) (s:Nat) {j:Nat} (h:j < xs.length):rcN xs d s (j + 1) = rcN xs d s j + if rcB d s (xs.getD j 0) = true then 1 else 0:=by
 unfold rcN
 rw [zas 0 h,List.filter_append,List.length_append]
 congr 1
 rw [List.filter_cons]
 split <;> rfl
theorem zH8 (xs:List Int) (d:Int) (s j:Nat):rcN xs d s j <= xs.length:=by
 unfold rcN
 have h1:=List.length_filter_le (rcB d s) (xs.take j)
 have h2:=List.length_take_le j xs
 have h3:=List.length_take_le' j xs
 omega
noncomputable def rgL (n:Int) (xs:List Int):List Nat:=if zdC n xs < 0 then [] else zaR (za8 n xs) (zdC n xs).toNat 64
noncomputable def rcL (n:Int) (xs:List Int):List Int:=(rgL n xs).map fun s=>(rcN xs (zdC n xs) s xs.length:Int)
def csL (xs:List Int) (d:Int) (L:List Nat) (i j:Nat):List Int:=(List.range L.length).map fun t=>(rcN xs d (L.getD t 0) (if t < i then xs.length else if t = i then j else 0):Int)
theorem zEm (xs:List Int) (d:Int) (L:List Nat) (i j:Nat):(csL xs d L i j).length = L.length:=by simp [csL]
theorem zM6 {xs:List Int} {d:Int} {L:List Nat} {i:Nat} (j:Nat) (h:i < L.length):(csL xs d L i j).getD i 0 = (rcN xs d (L.getD i 0) j:Int):=by
 rw [zcH 0 (by rw [zEm];exact h)]
 simp [csL]
theorem zJU {xs:List Int} {d:Int} {L:List Nat} {i j:Nat} (h:i < L.length):(csL xs d L i j).set i (rcN xs d (L.getD i 0) (j + 1):Int) = csL xs d L i (j + 1):=by
 refine List.ext_getElem (by simp [csL]) fun t h1 h2=>?_
 rw [List.getElem_set]
 by_cases e:i = t
 ·subst e;rw [if_pos rfl];simp [csL]
 ·rw [if_neg e]
  simp only [csL,List.getElem_map,List.getElem_range]
  rw [if_neg (show ¬ t = i from fun h=>e h.symm)]
  rw [if_neg (show ¬ t = i from fun h=>e h.symm)]
theorem zys {xs:List Int} {d:Int} {L:List Nat} {i j:Nat} (h:rcN xs d (L.getD i 0) (j + 1) = rcN xs d (L.getD i 0) j):csL xs d L i (j + 1) = csL xs d L i j:=by
 refine List.ext_getElem (by simp [csL]) fun t h1 h2=>?_
 simp only [csL,List.getElem_map,List.getElem_range]
 by_cases ht:t < i
 ·rw [if_pos ht,if_pos ht]
 ·rw [if_neg ht,if_neg ht]
  by_cases e:t = i
  ·rw [if_pos e,if_pos e,e,h]
  ·rw [if_neg e,if_neg e]
theorem zGj (xs:List Int) (d:Int) (L:List Nat):List.replicate L.length (0:Int) = csL xs d L 0 0:=by
 refine List.ext_getElem (by simp [csL]) fun t h1 h2=>?_
 simp [csL,zq2]
theorem zGk (xs:List Int) (d:Int) (L:List Nat) (i:Nat):csL xs d L i xs.length = csL xs d L (i + 1) 0:=by
 refine List.ext_getElem (by simp [csL]) fun t h1 h2=>?_
 simp only [csL,List.getElem_map,List.getElem_range]
 by_cases h:t < i
 ·rw [if_pos h,if_pos om]
 ·rw [if_neg h]
  by_cases e:t = i
  ·rw [if_pos e,if_pos om]
  ·rw [if_neg e,if_neg om]
   split <;> rfl
theorem zJV (xs:List Int) (d:Int) (L:List Nat):csL xs d L L.length 0 = L.map fun s=>(rcN xs d s xs.length:Int):=by
 refine List.ext_getElem (by simp [csL]) fun t h1 h2=>?_
 have ht:t < L.length:=by simpa [csL] using h1
 simp only [csL,List.getElem_map,List.getElem_range]
 rw [if_pos ht]
 simp [List.getD,ht]
theorem zla {n:Int} {xs:List Int} (h:¬ zdC n xs < 0):zaC n xs = true/\∃ d:Nat,zdC n xs = d/\d <= 5:=by
 have hF:zj4 n xs = true:=Classical.byContradiction fun hc=>h (by rw [show zdC n xs = -2 from if_neg hc];decide)
 have h1:=zm4 hF
 have h2:=zbp (zah xs)
 exact ⟨(zbF.1 hF).1,(zdC n xs).toNat,om,om⟩
theorem znq (n:Int) (xs:List Int) (hx:xs.length <= 1048576):AC Tryz.prog 178 [.ag [int n,zaz xs]] (.tup [.fr 3 1 (iL (ofN (rgL n xs))),.fr 3 1 (iL (rcL n xs))]):=by
 refine xac [.tmp 2,.tmp 3] Tryz.func178 fun hl=>?_
 refine xg0 ?_
 refine zaa (zdp n xs) ?_
 refine xg0 ?_
 refine ⟨fun hd=>?_,fun hd=>?_⟩
 ·have e:rgL n xs = []:=if_pos hd
  unfold rcL
  rw [e]
  exact ⟨rfl,rfl⟩
 ·obtain ⟨hcx,d,hdd,hd6⟩:=zla hd
  have hok:=zcb hcx
  have e:rgL n xs = zaR (za8 n xs) d 64:=by unfold rgL;rw [if_neg hd,hdd,Int.toNat_natCast]
  have hLm:∀ s ∈ rgL n xs,s < 64:=fun s hs=>by rw [e] at hs;exact (zcp.1 hs).1
  have hLl:(rgL n xs).length <= 64:=by rw [e];exact zbG _ _ (Nat.le_refl 64)
  unfold rcL
  rw [hdd]
  refine zaa (zeb n xs d om) ?_
  rw [<- e]
  generalize rgL n xs = L at *
  refine xg1 @zad ?_
  refine ⟨om,om,?_⟩
  have hz:List.replicate L.length (0:Int) = csL xs d L 0 0:=zGj xs d L
  refine zag (fun (i:Nat) s=>(s.sl 1 = .ref 1 1 0/\s.rw 1 = ⟨1,.box 27 [int n,zaz xs]⟩/\s.sl 4 = int d/\s.sl 5 = .own 17 1/\s.rw 17 = ⟨1,.sli 3 1 false (iL (ofN L))⟩/\s.sl 6 = .own 20 1/\s.rw 20 = ⟨1,.sli 3 1 false (iL (csL xs d L i 0))⟩/\s.sl 21 = .own 17 1/\s.sl 22 = int L.length/\s.sl 23 = int i)/\(i <= L.length)) (fun i=>L.length - i) (0) ⟨(xc1 hz),Nat.zero_le _⟩ ?_
  intro i sa ⟨Ha,hIa⟩
  refine xg2 Ha @zad ?_
  refine ⟨fun hi=>⟨om,om,?_⟩,fun hi=>?_⟩
  ·have hge:(ofN L).getD i 0 = ((L.getD i 0:Nat):Int):=zay hi
   have hs:=hLm _ (zaj 0 hi)
   rw [hge]
   refine zag (fun (j:Nat) s=>(s.sl 1 = .ref 1 1 0/\s.rw 1 = ⟨1,.box 27 [int n,zaz xs]⟩/\s.sl 4 = int d/\s.sl 5 = .own 17 1/\s.rw 17 = ⟨1,.sli 3 1 false (iL (ofN L))⟩/\s.sl 6 = .own 20 1/\s.rw 20 = ⟨1,.sli 3 1 false (iL (csL xs d L i j))⟩/\s.sl 7 = int i/\s.sl 8 = int (L.getD i 0)/\s.sl 21 = .own 17 1/\s.sl 22 = int L.length/\s.sl 23 = int i/\s.sl 29 = zaz xs/\s.sl 30 = int xs.length/\s.sl 31 = int j)/\(j <= xs.length)) (fun j=>xs.length - j) (0) ⟨(xc1 Ha),Nat.zero_le _⟩ ?_
   intro j sb ⟨⟨h1b,r1b,h4b,h5b,r17b,h6b,r20b,h7b,h8b,h21b,h22b,h23b,h29b,h30b,h31b⟩,hIb⟩
   simp -dsimp only [↓gp,gq,simprocAttr,gT,h1b,r1b,h4b,h5b,r17b,h6b,r20b,h7b,h8b,h21b,h22b,h23b,h29b,h30b,h31b]
   refine ⟨fun hj=>⟨om,om,zaa (zaE _) ?_⟩,fun hj=>?_⟩
   ·have hxj:=hok _ (zaj 0 hj)
    have hsz:=zdm hxj
    have hw:IntKind.i64.wrap ((d:Int) + 1) = ((d + 1:Nat):Int):=zac (show d < 6 by omega) om
    have hsu:=zyr (d:Int) (L.getD i 0) hj
    have hle:=zH8 xs d (L.getD i 0) j
    have hat:=zM6 (xs:=xs) (d:=d) j hi
    have hlen:=zEm xs d L i j
    have hset:=zJU (xs:=xs) (d:=(d:Int)) (j:=j) hi
    have hxn:xs.getD j 0 = (((xs.getD j 0).toNat:Nat):Int):=om
    have hand:(zb8 .i64 ((L.getD i 0:Nat):Int) (xs.getD j 0) == 0) = ((xs.getD j 0).toNat &&& L.getD i 0 == L.getD i 0):=by
     rw [hxn,zbj om om,Int.toNat_natCast]
     refine Bool.eq_iff_iff.2 ?_
     rw [beq_iff_eq,beq_iff_eq,Nat.and_comm (xs.getD j 0).toNat,<- zbP]
     omega
    simp -dsimp only [↓gp,gq,simprocAttr,gT,h1b,r1b,h4b,h5b,r17b,h6b,r20b,h7b,h8b,h21b,h22b,h23b,h29b,h30b,h31b,hsz,hw,hand]
    have hrb:rcB (d:Int) (L.getD i 0) (xs.getD j 0) = (((xs.getD j 0).toNat &&& L.getD i 0 == L.getD i 0) && decide ((zar (xs.getD j 0).toNat:Int) = (d:Int) + 1)):=rfl
    refine ⟨fun h1=>⟨fun h2=>⟨om,om,om,om,?_⟩,fun h2=>?_⟩,fun h1=>?_⟩
    ·rw [if_pos (by rw [hrb,h2,Bool.true_and,decide_eq_true_iff];have:=beq_iff_eq.1 h1;omega)] at hsu
     have hw2:IntKind.i64.wrap ((rcN xs (d:Int) (L.getD i 0) j:Int) + 1) = (rcN xs (d:Int) (L.getD i 0) (j + 1):Int):=by rw [hsu,zai om om];omega
     exact zab (j + 1) ⟨(by and_intros <;> (first | (simp -dsimp only [gr,simprocAttr,h1b,r1b,h4b,h5b,r17b,h6b,r20b,h7b,h8b,h21b,h22b,h23b,h29b,h30b,h31b,hat,hw2,hset,zac hj om];first | done | rfl | (simp;done)) | assumption | rfl)),om⟩
    ·rw [if_neg (by rw [hrb,h2];simp),Nat.add_zero] at hsu
     exact zab (j + 1) ⟨(by and_intros <;> (first | (simp -dsimp only [gr,simprocAttr,h1b,r1b,h4b,h5b,r17b,h6b,r20b,h7b,h8b,h21b,h22b,h23b,h29b,h30b,h31b,zys hsu,zac hj om];first | done | rfl | (simp;done)) | assumption | rfl)),om⟩
    ·rw [if_neg (by rw [hrb,Bool.and_eq_true,decide_eq_true_iff];rintro ⟨_,h⟩;have:=beq_eq_false_iff_ne.1 h1;omega),Nat.add_zero] at hsu
     exact zab (j + 1) ⟨(by and_intros <;> (first | (simp -dsimp only [gr,simprocAttr,h1b,r1b,h4b,h5b,r17b,h6b,r20b,h7b,h8b,h21b,h22b,h23b,h29b,h30b,h31b,zys hsu,zac hj om];first | done | rfl | (simp;done)) | assumption | rfl)),om⟩
   ·have:j = xs.length:=om
    rw [this,zGk] at r20b
    exact zab (i + 1) ⟨(by and_intros <;> (first | (simp -dsimp only [gr,simprocAttr,Ha,h1b,r1b,h4b,h5b,r17b,h6b,r20b,h7b,h8b,h21b,h22b,h23b,h29b,h30b,h31b,zac hi om];first | done | rfl | (simp;done)) | assumption | rfl)),om⟩
  ·have:i = L.length:=om
   rw [this,zJV]
theorem zEn {n:Int} {xs:List Int}:(rcL n xs).length <= 64:=by
 unfold rcL rgL
 rw [List.length_map]
 split
 ·simp
 ·exact zbG _ _ (Nat.le_refl 64)
theorem zEo {s:St} (d e sz e2 sz2:Nat) (c c2:List PV):zal s d (.tup [.fr e sz c,.fr e2 sz2 c2]) =
 ((s.row (d + 1000) ⟨(s.rw (d + 1000)).ver + 1,.sli e2 sz2 false c2⟩).row d ⟨(s.rw d).ver + 1,.sli e sz false c⟩).put (some d) (.tup [.own d ((s.rw d).ver + 1),.own (d + 1000) ((s.rw (d + 1000)).ver + 1)]):=by
 unfold zal
 simp [zce,zby,leaves,zaw,zaY,zbO,zbl,zbI,zak,St.row,zhv]
 rfl
theorem zJW (n:Int) (xs:List Int):decide (0 < (rcL n xs).length) = decide (0 <= zdC n xs):=by
 have hl:(rcL n xs).length = (rgL n xs).length:=by unfold rcL;rw [List.length_map]
 rw [hl]
 by_cases hd:zdC n xs < 0
 ·rw [decide_eq_false (show ¬ 0 <= zdC n xs by omega),show rgL n xs = [] from if_pos hd];rfl
 ·rw [decide_eq_true (show 0 <= zdC n xs by omega),decide_eq_true_iff]
  obtain ⟨hcx,d,hdd,hd6⟩:=zla hd
  have hF:zj4 n xs = true:=Classical.byContradiction fun hc=>hd (by rw [show zdC n xs = -2 from if_neg hc];decide)
  obtain ⟨m,rfl,h1,h6,hdn,h0,hs⟩:=zk9 hF
  have hde:=zm4 hF
  have hdm:zbd (zah xs) = zj5 (zah xs) 64:=rfl
  obtain ⟨T,a,b,c⟩:=zmZ (f:=zah xs) 64 om
  have hT:T ≠ 0:=fun e=>by
   subst e
   have:zar 0 = 0:=by decide +kernel
   omega
  obtain ⟨v,hv⟩:∃ v,T.testBit v = true:=Classical.byContradiction fun hc=>hT (Nat.eq_of_testBit_eq fun i=>by
   rw [Nat.zero_testBit]
   cases h:T.testBit i with
   | false=>rfl
   | true=>exact absurd ⟨i,h⟩ hc)
  have hv6:v < 6:=Classical.byContradiction fun hc=>by
   have h1:=Nat.ge_two_pow_of_testBit hv
   have:(2:Nat) ^ 6 <= 2 ^ v:=Nat.pow_le_pow_right om om
   omega
  obtain ⟨x1,x2⟩:=znd hv
  have hx64:=zDP a hv6
  have hp:=ztY _ hx64 v hv6 x1
  rw [x2] at hp
  have hsub:T &&& (T ^^^ 2 ^ v) = T ^^^ 2 ^ v:=by
   have:=zfn (a:=T ^^^ 2 ^ v) (v:=v)
   rwa [x2] at this
  refine List.length_pos_of_mem (a:=T ^^^ 2 ^ v) ?_
  unfold rgL
  rw [if_neg hd,hdd,Int.toNat_natCast,zcp]
  refine ⟨hx64,?_,om⟩
  unfold za8
  rw [hcx,Bool.true_and]
  exact hdn _ _ b hsub
theorem ziU (n:Int) (xs:List Int) (hx:xs.length <= 1048576):AC Tryz.prog 132 [.ag [int n,zaz xs]] (.fr 3 1 (iL (rcL n xs))):=by
 refine xac [.tmp 2] Tryz.func132 fun hl=>?_
 refine xg0 ?_
 refine zaa (znq n xs hx) ?_
 exact xd1 @zEo
noncomputable def znr (n:Int) (xs:List Int):Bool:=puB n xs && (decide (0 <= zdC n xs) && (rcL n xs).all fun x=>decide (x = 2))
theorem zd7 (n:Int) (xs:List Int) (hx:xs.length <= 1048576):AC Tryz.prog 69 [.ag [int n,zaz xs]] (.im (bool (znr n xs))):=by
 refine xac [.tmp 2] Tryz.func69 fun hl=>?_
 refine xg0 ?_
 refine zaa (zfm n xs) ?_
 refine xg0 ?_
 unfold znr
 refine ⟨fun hp=>zaa (zdp n xs) ?_,fun hp=>?_⟩
 ·have hp:puB n xs = true:=by simpa using hp
  rw [hp,Bool.true_and]
  by_cases hd0:zdC n xs < 0
  ·rw [decide_eq_false (show ¬ 0 <= zdC n xs by omega),Bool.false_and]
   refine xg0 ?_
   exact fun h=>absurd hd0 h
  ·rw [decide_eq_true (show 0 <= zdC n xs by omega),Bool.true_and]
   refine xg0 ?_
   refine ⟨fun hd=>absurd hd hd0,fun hd=>zaa (ziU n xs hx) ?_⟩
   have hlen:=zEn (n:=n) (xs:=xs)
   generalize rcL n xs = R at *
   refine xg0 ?_
   refine zag (fun (k:Nat) s=>(s.sl 14 = .own 14 1/\s.rw 14 = ⟨1,.sli 3 1 false (iL R)⟩/\s.sl 15 = int R.length/\s.sl 16 = int k)/\(k <= R.length/\(∀ i,i < k->R.getD i 0 = 2))) (fun k=>R.length - k) (0) ⟨xc0,sp⟩ ?_
   intro k sa ⟨Ha,hIa⟩
   obtain ⟨hk,hall⟩:=hIa
   refine xg1 Ha ?_
   refine ⟨fun h=>⟨h,h,fun h2=>?_,fun h2=>?_⟩,fun h=>?_⟩
   ·exact zHS h (p:=fun x=>decide (x = 2)) (decide_eq_false (bne_iff_ne.1 h2))
   ·exact zab (k + 1) ⟨(xc2 Ha (zac h om)),⟨om,fun i hi=>by
     by_cases e:i = k
     ·rw [e];simpa using h2
     ·exact hall i om⟩⟩
   ·exact zDr (l:=R) (p:=fun x=>decide (x = 2)) fun i hi=>decide_eq_true (hall i om)
 ·rw [show puB n xs = false by simpa using hp];rfl
theorem zkx (n:Int) (xs:List Int) (hd:¬ zdC n xs < 0):AC Tryz.prog 181 [.ag [int n,zaz xs]] (.fr 3 1 (iL (ofN (rgL n xs)))):=by
 refine xac [.tmp 2] Tryz.func181 fun hl=>?_
 refine xg0 ?_
 refine ⟨kr,zaa (zbQ n xs) ?_⟩
 obtain ⟨_,d,hdd,_⟩:=zla hd
 have e:rgL n xs = zaR (za8 n xs) d 64:=by unfold rgL;rw [if_neg hd,hdd,Int.toNat_natCast]
 rw [e,hdd]
 refine xg0 ?_
 refine zaa (zcL n xs d) ?_
 exact xd0
theorem ziV (n:Int) (xs:List Int) (hx:xs.length <= 1048576):AC Tryz.prog 136 [.ag [int n,zaz xs]] (.fr 3 1 (iL (rcL n xs))):=by
 refine xac [.tmp 2] Tryz.func136 fun hl=>?_
 refine xg0 ?_
 refine zaa (zbQ n xs) ?_
 refine xg0 ?_
 refine ⟨fun hd=>?_,fun hd=>zaa (zkx n xs hd) ?_⟩
 ·have e:rgL n xs = []:=if_pos hd
  unfold rcL
  rw [e];rfl
 ·obtain ⟨hcx,d,hdd,hd6⟩:=zla hd
  have hok:=zcb hcx
  have e:rgL n xs = zaR (za8 n xs) d 64:=by unfold rgL;rw [if_neg hd,hdd,Int.toNat_natCast]
  have hLm:∀ s ∈ rgL n xs,s < 64:=fun s hs=>by rw [e] at hs;exact (zcp.1 hs).1
  have hLl:(rgL n xs).length <= 64:=by rw [e];exact zbG _ _ (Nat.le_refl 64)
  have hdim:=zbQ n xs
  unfold rcL
  rw [hdd] at hdim ⊢
  generalize rgL n xs = L at *
  refine xg1 @zad ?_
  have hz:((L.take 0).map fun s=>(rcN xs (d:Int) s xs.length:Int)) = []:=rfl
  have hzi:iL ([]:List Int) = []:=rfl
  refine zag (fun (za:Nat × Nat) s=>match za with | (i,v)=>(s.sl 1 = .ref 1 1 0/\s.rw 1 = ⟨1,.box 27 [int n,zaz xs]⟩/\s.sl 3 = .own 8 v/\s.rw 8 = ⟨v,.sli 3 1 false (iL ((L.take i).map fun s=>(rcN xs (d:Int) s xs.length:Int)))⟩/\s.sl 4 = .own 14 1/\s.rw 14 = ⟨1,.sli 3 1 false (iL (ofN L))⟩/\s.sl 5 = int i)/\(i <= L.length)) (fun (i,v)=>L.length - i) ((0,1)) ⟨(xc2 hz hzi),Nat.zero_le _⟩ ?_
  intro (i,v) sa ⟨Ha,hIa⟩
  refine xg2 Ha @zad ?_
  refine ⟨fun hi=>?_,fun hi=>?_⟩
  ·have hge:(ofN L).getD i 0 = ((L.getD i 0:Nat):Int):=zay hi
   have hs:=hLm _ (zaj 0 hi)
   have hz2:((0:Nat):Int) = (rcN xs (d:Int) (L.getD i 0) 0:Int):=by rw [zq2]
   refine zag (fun (j:Nat) s=>(s.sl 1 = .ref 1 1 0/\s.rw 1 = ⟨1,.box 27 [int n,zaz xs]⟩/\s.sl 3 = .own 8 v/\s.rw 8 = ⟨v,.sli 3 1 false (iL ((L.take i).map fun s=>(rcN xs (d:Int) s xs.length:Int)))⟩/\s.sl 4 = .own 14 1/\s.rw 14 = ⟨1,.sli 3 1 false (iL (ofN L))⟩/\s.sl 5 = int i/\s.sl 6 = int (rcN xs (d:Int) (L.getD i 0) j)/\s.sl 7 = int j)/\(j <= xs.length)) (fun j=>xs.length - j) (0) ⟨(xc2 Ha @zq2),Nat.zero_le _⟩ ?_
   intro j sb ⟨Hb,hIb⟩
   refine xg1 Hb ?_
   refine ⟨fun hj=>?_,fun hj=>?_⟩
   ·have hxj:=hok _ (zaj 0 hj)
    have hw:IntKind.i64.wrap ((d:Int) + 1) = ((d + 1:Nat):Int):=zac (show d < 6 by omega) om
    have hsu:=zyr (d:Int) (L.getD i 0) hj
    have hle:=zH8 xs d (L.getD i 0) j
    obtain ⟨t,ht,ht6⟩:∃ t:Nat,xs.getD j 0 = t/\t < 64:=⟨(xs.getD j 0).toNat,om,om⟩
    have hand:(zdQ .i64 (t:Int) ((L.getD i 0:Nat):Int) == ((L.getD i 0:Nat):Int)) = (t &&& L.getD i 0 == L.getD i 0):=by
     rw [za1 om om]
     refine Bool.eq_iff_iff.2 ?_
     rw [beq_iff_eq,beq_iff_eq]
     omega
    have hrb:rcB (d:Int) (L.getD i 0) (xs.getD j 0) = ((t &&& L.getD i 0 == L.getD i 0) && decide ((zar t:Int) = (d:Int) + 1)):=by rw [ht];unfold rcB;rw [Int.toNat_natCast]
    rw [hrb] at hsu
    refine xg5 Hb @zad hge hand ht ?_
    refine ⟨kr,hj,hj,hi,hi,hi,hi,fun h1=>⟨hj,hj,zaa (zaM t om) ?_⟩,fun h1=>?_⟩
    ·rw [h1,Bool.true_and] at hsu
     refine xg2 Hb hw ?_
     refine zaa hdim ?_
     refine xg2 Hb hw ?_
     refine zaa (zj8 _) ?_
     have hb:IntKind.i64.wrap ((rcN xs (d:Int) (L.getD i 0) j:Int) + (if ((zar t:Int) == ((d + 1:Nat):Int)) = true then 1 else 0)) = (rcN xs (d:Int) (L.getD i 0) (j + 1):Int):=by
      rw [hsu]
      by_cases h2:(zar t:Int) = (d:Int) + 1
      ·rw [if_pos (beq_iff_eq.2 om),if_pos (decide_eq_true h2),zai om om];omega
      ·rw [if_neg (fun h=>h2 (by have:=beq_iff_eq.1 h;omega)),if_neg (fun h=>h2 (of_decide_eq_true h)),zai om om];omega
     refine xg2 Hb hb ?_
     exact zab (j + 1) ⟨(xc3 Hb hb (zac hj om)),om⟩
    ·rw [h1,Bool.false_and,if_neg (by decide),Nat.add_zero] at hsu
     refine zaa (zj8 _) ?_
     have hb:IntKind.i64.wrap ((rcN xs (d:Int) (L.getD i 0) j:Int) + 0) = (rcN xs (d:Int) (L.getD i 0) (j + 1):Int):=by rw [hsu,zai om om];omega
     refine xg2 Hb hb ?_
     exact zab (j + 1) ⟨(xc3 Hb hb (zac hj om)),om⟩
   ·have:j = xs.length:=om
    have hsn:(L.take (i + 1)).map (fun s=>(rcN xs (d:Int) s xs.length:Int)) = (L.take i).map (fun s=>(rcN xs (d:Int) s xs.length:Int)) ++ [(rcN xs (d:Int) (L.getD i 0) j:Int)]:=by rw [this,zas 0 hi,List.map_append];rfl
    refine ⟨by rw [List.length_map,List.length_take];omega,?_⟩
    exact zab ((i + 1,v + 1)) ⟨(xc4 Ha Hb hsn (zac hi om)),by dsimp only;omega⟩
  ·have:i = L.length:=om
   rw [this,List.take_length]
theorem zd8 (n:Int) (xs:List Int) (hx:xs.length <= 1048576):AC Tryz.prog 77 [.ag [int n,zaz xs]] (.im (bool (znr n xs))):=by
 refine xac [.tmp 2] Tryz.func77 fun hl=>?_
 refine xg0 ?_
 refine zaa (ziV n xs hx) ?_
 have hne:=zJW n xs
 have hlen:=zEn (n:=n) (xs:=xs)
 unfold znr
 generalize rcL n xs = R at *
 refine xg0 ?_
 refine zag (fun (k:Nat) s=>(s.sl 1 = .ref 1 1 0/\s.rw 1 = ⟨1,.box 27 [int n,zaz xs]⟩/\s.sl 3 = .own 6 1/\s.rw 6 = ⟨1,.sli 3 1 false (iL R)⟩/\s.sl 4 = int k)/\(k <= R.length/\(∀ i,i < k->R.getD i 0 = 2))) (fun k=>R.length - k) (0) ⟨xc0,sp⟩ ?_
 intro k sa ⟨Ha,hIa⟩
 obtain ⟨hk,hall⟩:=hIa
 refine xg1 Ha ?_
 refine ⟨fun h=>⟨h,h,fun h2=>?_,fun h2=>?_⟩,fun h=>?_⟩
 ·rw [zHS h (p:=fun x=>decide (x = 2)) (decide_eq_false (bne_iff_ne.1 h2)),Bool.and_false,Bool.and_false]
 ·exact zab (k + 1) ⟨(xc2 Ha (zac h om)),⟨om,fun i hi=>by
   by_cases e:i = k
   ·rw [e];simpa using h2
   ·exact hall i om⟩⟩
 ·rw [zDr (l:=R) (p:=fun x=>decide (x = 2)) fun i hi=>decide_eq_true (hall i om),Bool.and_true,<- hne]
  refine zaa (zfl n xs) ?_
  refine xg1 Ha ?_
  refine ⟨fun h=>?_,fun h=>?_⟩
  ·rw [h,Bool.true_and]
   exact decide_eq_decide.2 om
  ·rw [h];rfl
theorem zEs:∀ (l:List UInt8) (a:ByteArray),((l.map fun x=>(x.toNat:Int)).foldl (fun r n=>r.push (UInt8.ofNat n.toNat)) a) = ⟨(a.data.toList ++ l).toArray⟩:=by
 intro l
 induction l with
 | nil=>intro a;simp
 | cons x l ih =>
   intro a
   rw [List.map_cons,List.foldl_cons,ih]
   have:UInt8.ofNat ((x.toNat:Int)).toNat = x:=sp
   rw [this]
   congr 1
   simp [ByteArray.push]
theorem zjz (ver e:Nat) (fz:Bool) (b:ByteArray) {Kp:PV->Prop}:zzv ⟨ver,.sli e 1 fz (zfO b)⟩ ver Kp = Kp (.v (.string b)):=by
 unfold zzv
 simp only [true_and]
 have hb:zfO b = (b.data.toList.map fun x=>(x.toNat:Int)).map (fun n=>PV.v (.int .u8 n)):=by simp [zfO]
 have hf:=zEs b.data.toList ByteArray.empty
 have hf:((b.data.toList.map fun x=>(x.toNat:Int)).foldl (fun r n=>r.push (UInt8.ofNat n.toNat)) ByteArray.empty) = b:=by
  rw [hf];show (⟨(([]:List UInt8) ++ b.data.toList).toArray⟩:ByteArray) = b;simp
 refine propext ⟨fun ⟨bs,h1,h2⟩=>?_,fun h=>⟨_,hb,by rw [hf];exact h⟩⟩
 rw [hb] at h1
 have:b.data.toList.map (fun x=>(x.toNat:Int)) = bs:=(List.map_inj_right (fun x y h=>by simpa using h)).1 h1
 rw [<- this,hf] at h2
 exact h2
theorem zhD (a b:ByteArray):zfO a ++ zfO b = zfO (a ++ b):=by
 unfold zfO
 rw [<- List.map_append,ByteArray.data_append,Array.toList_append]
theorem zyv:zfO ⟨#[]⟩ = []:=rfl
def zcz (l:List ByteArray) (sep:ByteArray):Nat->ByteArray | 0=>⟨#[]⟩ | i + 1=>(if i = 0 then zcz l sep i else zcz l sep i ++ sep) ++ l.getD i ⟨#[]⟩
theorem zhE (l:List ByteArray) (sep:ByteArray) (hN:l.length <= 1000000000000) (hb:∀ i,i <= l.length->(zcz l sep i).size + sep.size <= 70000000000000):AC Tryz.prog 51 [.sl false 1 (sL l),str sep] (.im (str (zcz l sep l.length))):=by
 refine xac [.tmp 4] Tryz.func51 fun hl=>?_
 simp only [zaS,zbe,and_true,zcv,zev,zdh,zck,zcU,true_and] at hl
 refine xg0 ?_
 refine zag (fun (za:Nat × Nat) s=>match za with | (i,v)=>(s.sl 0 = .sl false 1 (sL l)/\s.sl 1 = str sep/\s.sl 5 = .own 7 v/\s.rw 7 = ⟨v,.sli 5 1 false (zfO (zcz l sep i))⟩/\s.sl 6 = int i)/\(i <= l.length)) (fun (i,v)=>l.length - i) ((0,1)) ⟨(by and_intros <;> (first | (simp -dsimp only [gr,simprocAttr,zcz,zyv];first | done | rfl | (simp;done)) | assumption | rfl)),om⟩ ?_
 intro (i,v) sa ⟨Ha,hIa⟩
 have hsl:(sL l).length = l.length:=by simp [sL]
 have hbi:=hb i hIa
 refine xg4 Ha hsl @ziI @zjz ?_
 refine ⟨fun h=>?_,fun h=>?_⟩
 ·have hb1:=hb (i + 1) h
  have hw:=zac h (show l.length <= 9223372036854775807 by omega)
  have hse:=zfc sep
  have hsj:=zfc (zcz l sep i)
  refine ⟨fun h0=>?_,fun h0=>?_⟩
  ·have e:zcz l sep (i + 1) = (zcz l sep i ++ sep) ++ l.getD i ⟨#[]⟩:=by rw [zcz,if_neg om]
   rw [e,ByteArray.size_append,ByteArray.size_append] at hb1
   have e2:zfO (zcz l sep i) ++ zfO sep ++ zfO (l.getD i ⟨#[]⟩) = zfO (zcz l sep (i + 1)):=by rw [zhD,zhD,e]
   exact ⟨om,h,h,by rw [List.length_append];omega,zab ((i + 1,v + 1 + 1)) ⟨(xc3 Ha hw e2),by dsimp only;omega⟩⟩
  ·have e:zcz l sep (i + 1) = zcz l sep i ++ l.getD i ⟨#[]⟩:=by rw [zcz,if_pos om]
   rw [e,ByteArray.size_append] at hb1
   have e2:zfO (zcz l sep i) ++ zfO (l.getD i ⟨#[]⟩) = zfO (zcz l sep (i + 1)):=by rw [zhD,e]
   exact ⟨h,h,om,zab ((i + 1,v + 1)) ⟨(xc3 Ha hw e2),by dsimp only;omega⟩⟩
 ·have:i = l.length:=om
  rw [this]
end Go.Proofs.YtkledeboboplmaaGreatDoor

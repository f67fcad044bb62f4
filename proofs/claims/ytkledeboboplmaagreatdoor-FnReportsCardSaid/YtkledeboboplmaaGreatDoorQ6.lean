/- DERIVED by an AI agent. -/
import Derived.Test.YtkledeboboplmaaGreatDoorQ5
import Derived.Test.YtkledeboboplmaaGreatDoorQ3
import Derived.Test.YtkledeboboplmaaGreatDoorQ4
import Derived.Test.YtkledeboboplmaaGreatDoorQ2
import Derived.Lib.ItoaNum
import Derived.Test.YtkledeboboplmaaGreatDoorA12
namespace Go.Proofs.YtkledeboboplmaaGreatDoor
open Go.Abs
open Nat (reduceEqDiff reduceMod reduceAdd reduceLT reduceLeDiff reduceSub reduceMul)
set_option linter.unusedSimpArgs false
set_option linter.unusedVariables false
theorem zEp:∀ s,s < 64->∀ i,i < 6->(zdQ .i64 (zpk .i64 (s:Nat) (i:Nat)) 1 == 1) = s.testBit i:=by
 have h:((List.range 64).all fun s=>(List.range 6).all fun i=>(zdQ .i64 (zpk .i64 (s:Nat) (i:Nat)) 1 == 1) == s.testBit i) = true:=by decide +kernel
 intro s hs i hi
 have:=List.all_eq_true.1 (List.all_eq_true.1 h s (List.mem_range.2 hs)) i (List.mem_range.2 hi)
 simpa using this
def znY (s i:Nat):List Nat:=(List.range i).filter s.testBit
def txP (s i:Nat):ByteArray:=⟨((znY s i).map fun j=>UInt8.ofNat (97 + j)).toArray⟩
def zGm (s:Nat):ByteArray:=if s = 0 then ⟨#[45]⟩ else txP s 6
def zcj (s:Int):ByteArray:=if 0 <= s/\s < 64 then zGm s.toNat else ⟨#[]⟩
theorem zyt {s i:Nat} (h:s.testBit i = true):znY s (i + 1) = znY s i ++ [i]:=by unfold znY;rw [List.range_succ,List.filter_append];simp [h]
theorem zEq {s i:Nat} (h:s.testBit i = false):znY s (i + 1) = znY s i:=by unfold znY;rw [List.range_succ,List.filter_append];simp [h]
theorem zJY {s i:Nat} (h:s.testBit i = true):txP s (i + 1) = txP s i ++ ⟨#[UInt8.ofNat (97 + i)]⟩:=by
 unfold txP;rw [zyt h]
 refine ByteArray.ext ?_
 simp
theorem zM7 {s i:Nat} (h:s.testBit i = false):txP s (i + 1) = txP s i:=by unfold txP;rw [zEq h]
theorem zlb (s i:Nat):(znY s i).length <= i:=by
 have:=List.length_filter_le s.testBit (List.range i)
 rwa [List.length_range] at this
theorem zyu (s i:Nat):(txP s i).size <= i:=by
 have:=zlb s i
 show ((znY s i).map _).toArray.size <= i
 simpa using this
theorem zJZ:∀ i,i < 6->(⟨#[97,98,99,100,101,102]⟩:ByteArray).extract i (i + 1) = ⟨#[UInt8.ofNat (97 + i)]⟩:=by decide +kernel
theorem znZ (s:Int):AC Tryz.prog 118 [int s] (.im (str (zcj s))):=by
 refine xac [.tmp 2] Tryz.func118 fun hl=>?_
 refine xg0 ?_
 refine zaa (zbC _ _ _) ?_
 refine xg0 ?_
 unfold zcj
 refine ⟨fun h=>?_,fun h=>?_⟩
 ·rw [if_neg (fun hc=>by simp at h;omega)]
 ·have h:0 <= s/\s <= 63:=by simpa using h
  rw [if_pos ⟨h.1,om⟩]
  obtain ⟨u,rfl⟩:∃ u:Nat,s = u:=⟨s.toNat,om⟩
  rw [Int.toNat_natCast]
  have hu:u < 64:=om
  refine ⟨fun h0=>?_,fun h0=>?_⟩
  ·have:u = 0:=by
    have:(u:Int) = 0:=by simpa using h0
    omega
   rw [this];rfl
  ·have hne:u ≠ 0:=fun e=>by rw [e] at h0;simp at h0
   have hse:zGm u = txP u 6:=if_neg hne
   rw [hse]
   refine zag (fun (i:Nat) s=>(s.sl 0 = int u/\s.sl 3 = str (txP u i)/\s.sl 4 = int i)/\(i <= 6)) (fun i=>6 - i) (0) ⟨xc0,om⟩ ?_
   intro i sa ⟨Ha,hIa⟩
   have hun:IntKind.u64.wrap (i:Int) = (i:Int):=zaI om
   by_cases hi:i < 6
   ·have hbit:=zEp u hu i hi
    have hcut:=zJZ i hi
    have hw:=zac hi om
    refine xg6 Ha hun hbit hw @Int.toNat_natCast hcut ?_
    have hsz:=zyu u i
    refine ⟨fun _=>⟨fun hb=>⟨om,by show i + 1 <= 6;omega,by show (txP u i).size + 1 <= 9223372036854775807;omega,?_⟩,fun hb=>?_⟩,fun h=>absurd om h⟩
    ·have e:=zJY hb
     exact zab (i + 1) ⟨(xc3 Ha hw e),om⟩
    ·have e:=zM7 hb
     exact zab (i + 1) ⟨(xc3 Ha hw e),om⟩
   ·refine xg2 Ha hun ?_
    refine ⟨fun h=>absurd h om,fun _=>?_⟩
    have:i = 6:=om
    rw [this]
theorem zfH (u:Nat) (hs:u < 64):AC Tryz.prog 157 [int u] (.fr 3 1 (iL (ofN (znY u 6)))):=by
 refine xac [.tmp 2] Tryz.func157 fun hl=>?_
 refine xg0 ?_
 refine zaa (zcc 6 u) ?_
 have hin:zcI 6 (u:Int) = true:=by unfold zcI;exact decide_eq_true ⟨om,om,om,by simpa using (by omega:(u:Int) < 64)⟩
 rw [hin]
 refine xg0 ?_
 refine zag (fun (za:Nat × Nat) s=>match za with | (i,v)=>(s.sl 0 = int u/\s.sl 3 = .own 3 v/\s.rw 3 = ⟨v,.sli 3 1 false (iL (ofN (znY u i)))⟩/\s.sl 4 = int i)/\(i <= 6)) (fun (i,v)=>6 - i) ((0,1)) ⟨xc0,om⟩ ?_
 intro (i,v) sa ⟨Ha,hIa⟩
 have hpl:=zlb u i
 have hun:IntKind.u64.wrap (i:Int) = (i:Int):=zaI om
 by_cases hi:i < 6
 ·have hbit:=zEp u hs i hi
  refine xg3 Ha hun hbit ?_
  refine ⟨fun _=>⟨fun hb=>⟨by rw [zad];omega,?_⟩,fun hb=>?_⟩,fun h=>absurd h om⟩
  ·have e:ofN (znY u i) ++ [(i:Int)] = ofN (znY u (i + 1)):=by rw [zyt hb,zaD,zdd]
   exact zab ((i + 1,v + 1)) ⟨(xc3 Ha (zac hi om) e),by dsimp only;omega⟩
  ·have e:=zEq hb
   exact zab ((i + 1,v)) ⟨(xc3 Ha (zac hi om) e),by dsimp only;omega⟩
 ·refine xg2 Ha hun ?_
  refine ⟨fun h=>absurd h om,fun _=>?_⟩
  have:i = 6:=om
  rw [this]
def zGn (l:List Nat):ByteArray:=⟨(l.map fun j=>UInt8.ofNat (97 + j)).toArray⟩
theorem zEr (l:List Nat) (i:Nat) (h:i < 6):zfO (zGn l) ++ [PV.v (.int .u8 (97 + i:Nat))] = zfO (zGn (l ++ [i])):=by
 unfold zfO zGn
 have:(UInt8.ofNat (97 + i)).toNat = 97 + i:=by simp;omega
 simp only [List.map_append,List.map_cons,List.map_nil,List.toList_toArray,this]
theorem zn0 (s:Int):AC Tryz.prog 120 [int s] (.im (str (zcj s))):=by
 refine xac [.tmp 2] Tryz.func120 fun hl=>?_
 simp -dsimp only [↓gp,gq,simprocAttr,gT]
 refine zaa (zcc 6 s) ?_
 have hin:zcI 6 s = decide (0 <= s/\s < 64):=by
  unfold zcI
  refine decide_eq_decide.2 ⟨fun h=>⟨h.2.2.1,by simpa using h.2.2.2⟩,fun h=>⟨om,om,h.1,by simpa using h.2⟩⟩
 rw [hin]
 simp (maxSteps:=9^7) -dsimp only [↓gp,gq,reduceCtorEq,reduceEqDiff,reduceLT,reduceLeDiff,reduceAdd,reduceMul,reduceSub,Nat.reduceBEq,Int.reduceToNat,Int.reduceLE,Int.reduceLT,Int.reduceNeg,reduceMod,gT]
 unfold zcj
 refine ⟨fun h=>?_,fun h=>?_⟩
 ·rw [if_neg (fun hc=>by rw [decide_eq_true hc] at h;cases h)]
 ·have h:0 <= s/\s < 64:=by simpa using h
  rw [if_pos h]
  obtain ⟨u,rfl⟩:∃ u:Nat,s = u:=⟨s.toNat,om⟩
  rw [Int.toNat_natCast]
  have hu:u < 64:=om
  refine ⟨fun h0=>?_,fun h0=>?_⟩
  ·have:u = 0:=by
    have:(u:Int) = 0:=by simpa using h0
    omega
   rw [this];rfl
  ·have hne:u ≠ 0:=fun e=>by rw [e] at h0;simp at h0
   have hse:zGm u = zGn (znY u 6):=if_neg hne
   rw [hse]
   refine ⟨by decide,zaa (zfH u hu) ?_⟩
   simp -dsimp only [↓gp,gq,simprocAttr,gT,zad]
   have hpl:=zlb u 6
   have hpm:∀ k,k < (znY u 6).length->(znY u 6).getD k 0 < 6:=fun k hk=>List.mem_range.1 (List.mem_filter.1 (zaj 0 hk)).1
   generalize znY u 6 = l at *
   have hz0:zGn (l.take 0) = ⟨#[]⟩:=rfl
   refine zag (fun (za:Nat × Nat) s=>match za with | (k,v)=>s.sl 3 = .own 11 v/\s.rw 11 = ⟨v,.sli 5 1 false (zfO (zGn (l.take k)))⟩/\s.sl 13 = .own 13 1/\s.rw 13 = ⟨1,.sli 3 1 false (iL (ofN l))⟩/\s.sl 14 = int l.length/\s.sl 15 = int k/\(k <= l.length)) (fun (k,v)=>l.length - k) ((0,1)) (by refine ⟨?_,?_,?_,?_,?_,?_,om⟩ <;> (first | (simp -dsimp only [gr,simprocAttr,hz0,zyv,List.replicate];first | done | rfl | (simp;done)) | assumption | rfl)) ?_
   intro (k,v) sa ⟨h3a,r11a,h13a,r13a,h14a,h15a,hIa⟩
   have hlen:(zfO (zGn (l.take k))).length <= 6:=by rw [zfc];show ((l.take k).map _).toArray.size <= 6;simp;omega
   by_cases hk:k < l.length
   ·have hge:(ofN l).getD k 0 = ((l.getD k 0:Nat):Int):=zay hk
    have hm:=hpm k hk
    have hw:=zac hk om
    have hw1:IntKind.i64.wrap (97 + ((l.getD k 0:Nat):Int)) = ((97 + l.getD k 0:Nat):Int):=by rw [zai om om];rfl
    have hw8:IntKind.u8.wrap ((97 + l.getD k 0:Nat):Int) = ((97 + l.getD k 0:Nat):Int):=by
     generalize l.getD k 0 = x at hm
     simp [IntKind.wrap,IntKind.bits,IntKind.signed]
     omega
    have e:zfO (zGn (l.take k)) ++ [PV.v (.int .u8 (97 + l.getD k 0:Nat))] = zfO (zGn (l.take (k + 1))):=by rw [zEr _ _ hm,zas 0 hk]
    simp -dsimp only [↓gp,gq,simprocAttr,gT,h3a,r11a,h13a,r13a,h14a,h15a,zad,hge,hw1,hw8,zDz,ziI,zjz]
    refine ⟨fun _=>⟨hk,hk,?_,om,zab ((k + 1,v + 1)) (by refine ⟨?_,?_,?_,?_,?_,?_,by dsimp only;omega⟩ <;> (first | (simp -dsimp only [gr,simprocAttr,h3a,r11a,h13a,r13a,h14a,h15a,hw,e];first | done | rfl | (simp;done)) | assumption | rfl)) (by first | omega | (simp only;omega) | (dsimp only;omega) | (show _ < _;simp;omega))⟩,fun h=>absurd hk h⟩
    intro p hp
    rw [List.mem_singleton.1 hp];rfl
   ·simp -dsimp only [↓gp,gq,simprocAttr,gT,h3a,r11a,h13a,r13a,h14a,h15a,zad,ziI,zjz]
    refine ⟨fun h=>absurd h hk,fun _=>?_⟩
    rw [List.take_of_length_le om]
theorem zgS (s:Int):(zcj s).size <= 6:=by
 unfold zcj zGm
 split
 ·split
  ·show 1 <= 6;omega
  ·exact zyu _ _
 ·show 0 <= 6;omega
theorem zgT {l:List ByteArray} {sep:ByteArray} (h:∀ i,i < l.length->(l.getD i ⟨#[]⟩).size <= 6) (hs:sep.size <= 1):∀ i,i <= l.length->(zcz l sep i).size <= 7 * i:=by
 intro i
 induction i with
 | zero=>intro _;exact Nat.le_refl _
 | succ i ih =>
   intro hi
   have h1:=ih om
   have h2:=h i om
   unfold zcz
   rw [ByteArray.size_append]
   split
   ·omega
   ·rw [ByteArray.size_append];omega
theorem zq3 (sep:List UInt8):∀ (xs:List (List UInt8)) (x:List UInt8),xs ≠ []->Go.Lib.join (xs ++ [x]) sep = Go.Lib.join xs sep ++ sep ++ x:=by
 intro xs x h
 cases xs with
 | nil=>exact absurd rfl h
 | cons y r =>
   rw [List.cons_append,Go.Lib.join_cons,Go.Lib.join_cons]
   simp [Go.Lib.joinTail]
theorem zdo (l:List ByteArray) (sep:ByteArray):∀ i,i <= l.length->zcz l sep i = zgz (l.take i) sep:=by
 intro i
 induction i with
 | zero=>intro _;rfl
 | succ i ih =>
   intro hi
   have hi:i < l.length:=om
   rw [zcz,ih om,zas ⟨#[]⟩ hi]
   unfold zgz
   rw [List.map_append,List.map_cons,List.map_nil]
   by_cases h0:i = 0
   ·subst h0
    rw [if_pos rfl]
    refine ByteArray.ext ?_
    simp [Go.Lib.join_nil,Go.Lib.join_one]
   ·rw [if_neg h0,zq3 _ _ _ (by intro e;have:=congrArg List.length e;rw [List.length_map,List.length_take,List.length_nil] at this;omega)]
    refine ByteArray.ext ?_
    simp
def zka (l:List Int):ByteArray:=zgz (l.map zcj) ⟨#[44]⟩
theorem zc3 (l:List Int) (hN:l.length <= 500):AC Tryz.prog 57 [zaz l] (.im (str (zka l))):=by
 refine xac [.tmp 2] Tryz.func57 fun hl=>?_
 refine xg0 ?_
 refine zag (fun (za:Nat × Nat) s=>match za with | (k,v)=>(s.sl 0 = zaz l/\s.sl 3 = .own 5 v/\s.rw 5 = ⟨v,.sli 9 1 false (sL ((l.take k).map zcj))⟩/\s.sl 4 = int k)/\(k <= l.length)) (fun (k,v)=>l.length - k) ((0,1)) ⟨xc0,om⟩ ?_
 intro (k,v) sa ⟨Ha,hIa⟩
 refine xg1 Ha ?_
 refine ⟨fun h=>⟨h,h,zaa (znZ _) ?_⟩,fun h=>?_⟩
 ·refine xg1 Ha ?_
  have e:(l.take (k + 1)).map zcj = (l.take k).map zcj ++ [zcj (l.getD k 0)]:=by rw [zas 0 h];simp
  refine ⟨by rw [List.length_map,List.length_take];omega,zab ((k + 1,v + 1)) ⟨(xc3 Ha (zac h (show l.length <= 9223372036854775807 by omega)) e),by dsimp only;omega⟩⟩
 ·have ht:l.take k = l:=List.take_of_length_le om
  rw [ht]
  have hjs:=zgT (l:=l.map zcj) (sep:=⟨#[44]⟩) (fun i hi=>by
   have hi:i < l.length:=by simpa using hi
   have:(l.map zcj).getD i ⟨#[]⟩ = zcj l[i]:=by simp [List.getD,hi]
   rw [this];exact zgS _) (Nat.le_refl 1)
  refine zaa (zhE (l.map zcj) ⟨#[44]⟩ (by rw [List.length_map];omega) (fun i hi=>?_)) ?_
  ·have:=hjs i hi
   rw [List.length_map] at hi
   have h1:(⟨#[44]⟩:ByteArray).size = 1:=rfl
   omega
  ·have e:=zdo (l.map zcj) ⟨#[44]⟩ (l.map zcj).length (Nat.le_refl _)
   rw [List.take_length] at e
   rw [e]
   refine xg1 Ha ?_
   rfl
end Go.Proofs.YtkledeboboplmaaGreatDoor
namespace Go.Proofs.YtkledeboboplmaaGreatDoor
open Go.Abs Go.Shelf
set_option linter.unusedSimpArgs false
set_option linter.unusedVariables false
def zH9:Go.Shelf.Ren where
 f:=fun x=>match x with | 156=>44 | 165=>102 | 166=>103 | 169=>104 | 240=>160 | 241=>161 | 276=>192 | 277=>193 | n=>n
 t:=fun x=>match x with | 31=>44 | 9=>9 | 3=>3 | 4=>4 | 0=>0 | 20=>20 | 72=>77 | 76=>81 | 70=>75 | 37=>31 | 75=>80 | 127=>118 | 164=>138 | 5=>5 | 80=>83 | n=>n
 g:=fun x=>x
theorem zJX:Lays.n156 Tryz.prog zH9 where
 mixed:=mixed
 f156:=(show Tryz.prog.funcs[44]? = some _ from Tryz.func44).trans (congrArg some kr)
 f165:=(show Tryz.prog.funcs[102]? = some _ from Tryz.func102).trans (congrArg some kr)
 f166:=(show Tryz.prog.funcs[103]? = some _ from Tryz.func103).trans (congrArg some kr)
 f169:=(show Tryz.prog.funcs[104]? = some _ from Tryz.func104).trans (congrArg some kr)
 f240:=(show Tryz.prog.funcs[160]? = some _ from Tryz.func160).trans (congrArg some kr)
 f241:=(show Tryz.prog.funcs[161]? = some _ from Tryz.func161).trans (congrArg some kr)
 f276:=(show Tryz.prog.funcs[192]? = some _ from Tryz.func192).trans (congrArg some kr)
 f277:=(show Tryz.prog.funcs[193]? = some _ from Tryz.func193).trans (congrArg some kr)
 t0:=Tryz.underlying0
 a0:=Tryz.isAgg0
 z0:=Tryz.sizeOf0
 v0:=Tryz.zeroValue0
 t3:=Tryz.underlying3
 a3:=Tryz.isAgg3
 z3:=Tryz.sizeOf3
 v3:=Tryz.zeroValue3
 t4:=Tryz.underlying4
 a4:=Tryz.isAgg4
 z4:=Tryz.sizeOf4
 v4:=Tryz.zeroValue4
 t9:=Tryz.underlying9
 a9:=Tryz.isAgg9
 z9:=Tryz.sizeOf9
 v9:=Tryz.zeroValue9
 t20:=Tryz.underlying20
 a20:=Tryz.isAgg20
 z20:=Tryz.sizeOf20
 v20:=Tryz.zeroValue20
 t31:=Tryz.underlying44
 a31:=Tryz.isAgg44
 z31:=Tryz.sizeOf44
 v31:=Tryz.zeroValue44
 t37:=Tryz.underlying31
 a37:=Tryz.isAgg31
 z37:=Tryz.sizeOf31
 v37:=Tryz.zeroValue31
 t70:=Tryz.underlying75
 a70:=Tryz.isAgg75
 z70:=Tryz.sizeOf75
 v70:=Tryz.zeroValue75
 t72:=Tryz.underlying77
 a72:=Tryz.isAgg77
 z72:=Tryz.sizeOf77
 v72:=Tryz.zeroValue77
 t75:=Tryz.underlying80
 a75:=Tryz.isAgg80
 z75:=Tryz.sizeOf80
 v75:=Tryz.zeroValue80
 t76:=Tryz.underlying81
 a76:=Tryz.isAgg81
 z76:=Tryz.sizeOf81
 v76:=Tryz.zeroValue81
 t127:=Tryz.underlying118
 a127:=Tryz.isAgg118
 z127:=Tryz.sizeOf118
 v127:=Tryz.zeroValue118
 t164:=Tryz.underlying138
 a164:=Tryz.isAgg138
 z164:=Tryz.sizeOf138
 v164:=Tryz.zeroValue138
theorem zGl:Builder.Extra Tryz.prog zH9 where
 sizeBuilder:=kr
 liesBuilder:=kr
 t5:=Tryz.underlying5
 a5:=Tryz.isAgg5
 z5:=Tryz.sizeOf5
 v5:=Tryz.zeroValue5
 infoByte:=kr
 cellsByte:=kr
 sizeByte:=kr
 neB5:=by decide
theorem zdn (l:List ByteArray) (sep:ByteArray) (hN:l.length <= 140737488355328) (hlen:(zgz l sep).size <= 140737488355328):AC Tryz.prog 44 [.sl false 1 (sL l),str sep] (.im (str (zgz l sep))) :=
 zJ0 zJX zGl ⟨_,Tryz.func44,kr,kr⟩ (fun h=>h) l sep hN hlen
theorem zc2 (l:List Int) (hN:l.length <= 500):AC Tryz.prog 59 [zaz l] (.im (str (zka l))):=by
 refine xac [.tmp 2] Tryz.func59 fun hl=>?_
 refine xg0 ?_
 refine ⟨om,om,?_⟩
 have hz:sL ((l.take 0).map zcj) = []:=rfl
 refine zag (fun (za:Nat × Nat) s=>match za with | (k,v)=>(s.sl 3 = .own 8 v/\s.rw 8 = ⟨v,.sli 9 1 false (sL ((l.take k).map zcj))⟩/\s.sl 9 = zaz l/\s.sl 10 = int l.length/\s.sl 11 = int k)/\(k <= l.length)) (fun (k,v)=>l.length - k) ((0,1)) ⟨(by and_intros <;> (first | (simp -dsimp only [gr,simprocAttr,hz,List.replicate];first | done | rfl | (simp;done)) | assumption | rfl)),om⟩ ?_
 intro (k,v) sa ⟨Ha,hIa⟩
 refine xg1 Ha ?_
 refine ⟨fun h=>⟨h,h,zaa (zn0 _) ?_⟩,fun h=>?_⟩
 ·refine xg1 Ha ?_
  have e:(l.take (k + 1)).map zcj = (l.take k).map zcj ++ [zcj (l.getD k 0)]:=by rw [zas 0 h];simp
  refine ⟨by rw [List.length_map,List.length_take];omega,zab ((k + 1,v + 1)) ⟨(xc3 Ha (zac h (show l.length <= 9223372036854775807 by omega)) e),by dsimp only;omega⟩⟩
 ·have ht:l.take k = l:=List.take_of_length_le om
  rw [ht]
  have hjs:=zgT (l:=l.map zcj) (sep:=⟨#[44]⟩) (fun i hi=>by
   have hi:i < l.length:=by simpa using hi
   have:(l.map zcj).getD i ⟨#[]⟩ = zcj l[i]:=by simp [List.getD,hi]
   rw [this];exact zgS _) (Nat.le_refl 1) (l.map zcj).length (Nat.le_refl _)
  rw [zdo _ _ _ (Nat.le_refl _),List.take_length,List.length_map] at hjs
  refine zaa (zdn (l.map zcj) ⟨#[44]⟩ (by rw [List.length_map];omega) om) ?_
  refine xg1 Ha ?_
  rfl
end Go.Proofs.YtkledeboboplmaaGreatDoor
namespace Go.Proofs.YtkledeboboplmaaGreatDoor
open Go.Abs
set_option linter.unusedSimpArgs false
set_option linter.unusedVariables false
def adL (ws:List ByteArray) (b:Bool) (w:ByteArray):List ByteArray:=if b = true then ws ++ [w] else ws
def adR (b:Bool) (ws:List ByteArray) (i:Nat):Row :=
 if i = 1000000 then ⟨1,.box 44 [if b = true then .v (.slice none 0 0) else .own 1000001 1]⟩ else if i = 1000001 then (if b = true then ⟨0,.dead⟩ else ⟨1,.sli 9 1 false (sL ws)⟩) else ⟨0,.dead⟩
theorem zGC (b:Bool) (ws:List ByteArray) {i:Nat} (h:i < 1000000):adR b ws i = ⟨0,.dead⟩:=by unfold adR;rw [if_neg om,if_neg om]
theorem zAa {b:Bool} {ws:List ByteArray} {i:Nat} (h:(adR b ws i).kind.nd = true):i = 1000000 \/ (i = 1000001/\b = false):=by
 by_cases h0:i = 1000000
 ·exact .inl h0
 by_cases h1:i = 1000001
 ·cases b
  ·exact .inr ⟨h1,rfl⟩
  ·rw [h1] at h;cases h
 ·unfold adR at h;rw [if_neg h0,if_neg h1] at h;cases h
def zAb (out:List ByteArray) (R1:Nat->Row) (p:PV):Prop:=p = .tup []/\∃ v,0 < v/\R1 1000000 = ⟨1,.box 44 [.own 1000001 v]⟩/\R1 1000001 = ⟨v,.sli 9 1 false (sL out)⟩
theorem zEQ {b:Bool} {ws:List ByteArray} (hb:b = true->ws = []) {s:St} (hr:∀ k,s.rw k = adR b ws k) :
 ∃ s',Wk s s'/\s'.sl = s.sl/\s'.rw 1000000 = ⟨1,.box 44 [.own 1000001 1]⟩/\s'.rw 1000001 = ⟨1,.sli 9 1 false (sL ws)⟩/\∀ k,k < 1000000->s'.rw k = ⟨0,.dead⟩:=by
 cases b with
 | false=>exact ⟨s,Wk.refl s,rfl,by rw [hr];rfl,by rw [hr];rfl,fun k hk=>by rw [hr,zGC _ _ hk]⟩
 | true =>
   have hl:=hb rfl
   subst hl
   have h0:s.rw 1000000 = ⟨1,.box 44 [.v (.slice none 0 0)]⟩:=by rw [hr];rfl
   have h1:s.rw 1000001 = ⟨0,.dead⟩:=by rw [hr];rfl
   have hw:=Wk.nilBox (o:=0) 1000001 9 h0 rfl (by decide)
   rw [h1] at hw
   refine ⟨_,hw,rfl,by rw [zaA];rfl,by rw [zap _ _ _ _ (by decide),zaA];rfl,fun k hk=>?_⟩
   rw [zap _ _ _ _ om,zap _ _ _ _ om,hr,zGC _ _ hk]
theorem zc6 (b:Bool) (ws:List ByteArray) (hb:b = true->ws = []) (hN:ws.length <= 100) (ap:Bool) (w:ByteArray):AG Tryz.prog 63 [bool ap,str w,.ref 1000000 1 0] (adR b ws) (zAb (adL ws ap w)):=by
 refine AG.goW (rs:=[]) zzS mixed Tryz.func63 rfl rfl rfl kr fun hl hrl z hz hr=>?_
 obtain ⟨s,hw,hsl,y0,y1,ylow⟩:=zEQ hb hr
 refine ⟨s,hw,?_⟩
 have z0:s.sl 0 = bool ap:=by rw [hsl,hz];rfl
 have z1:s.sl 1 = str w:=by rw [hsl,hz];rfl
 have z2:s.sl 2 = .ref 1000000 1 0:=by rw [hsl,hz];rfl
 clear hz hr hw hsl z
 have hsn:sL ws ++ [str w] = sL (ws ++ [w]):=by simp [sL]
 have hsl2:(sL ws).length = ws.length:=by simp [sL]
 refine xg7 z0 z1 z2 y0 y1 ylow hsl2 ?_
 unfold adL
 refine ⟨fun h=>⟨om,?_⟩,fun h=>?_⟩
 ·rw [if_pos h];exact ⟨rfl,2,by decide,by simp -dsimp only [gr,simprocAttr,y0],by simp -dsimp only [gr,simprocAttr,y1]⟩
 ·rw [if_neg (by rw [h];decide)];exact ⟨rfl,1,by decide,y0,y1⟩
theorem zNj [zae] {s:St} {K:St->Prop} {f:FuncId} {ap:Bool} {w:ByteArray} {ws out:List ByteArray} {b:Bool} {c:PV} {d k vk j vj:Nat} (hc:AG Tryz.prog f [bool ap,str w,.ref 1000000 1 0] (adR b ws) (zAb out)) (hk:s.rw k = ⟨vk,.box 44 [c]⟩)
 (hcs:(b = true/\c = .v (.slice none 0 0)) \/ (b = false/\c = .own j vj/\s.rw j = ⟨vj,.sli 9 1 false (sL ws)⟩)) (hjk:j ≠ k)
 (hK:∀ v',K (((s.row j ⟨v',.sli 9 1 false (sL out)⟩).row k ⟨vk,.box 44 [.own j v']⟩).put (some d) (.tup []))):askG Tryz.prog s f [bool ap,str w,.ref k vk 0] (some d) K:=by
 let rho:Nat->Option Nat:=fun a=>if a = 1000000 then some k else if a = 1000001 then (if b = true then none else some j) else none
 let rho1:Nat->Option Nat:=fun a=>if a = 1000000 then some k else if a = 1000001 then some j else none
 have s1:∀ {a x:Nat},rho1 a = some x->(a = 1000000/\x = k) \/ (a = 1000001/\x = j):=fun {a x} h=>by
  have h:(if a = 1000000 then some k else if a = 1000001 then some j else none) = some x:=h
  split at h
  ·cases h;exact .inl ⟨‹_›,rfl⟩
  ·split at h
   ·cases h;exact .inr ⟨‹_›,rfl⟩
   ·cases h
 have kp:∀ a,(adR b ws a).kind.nd = true->rho1 a = rho a:=fun a h=>by
  rcases zAa h with rfl | ⟨rfl,rfl⟩ <;> rfl
 have hG0:GvA rho (fun _=>False) (adR b ws) s.rw (if b = true then .v (.slice none 0 0) else .own 1000001 1) c:=by
  rcases hcs with ⟨rfl,rfl⟩ | ⟨rfl,rfl,hj⟩
  ·exact .v _
  ·exact .own rfl rfl (by rw [hj]) rfl
 have inj1:∀ a a' x,rho1 a = some x->rho1 a' = some x->a = a':=fun a a' x h h'=>by
  rcases s1 h with ⟨rfl,rfl⟩ | ⟨rfl,rfl⟩ <;> rcases s1 h' with ⟨rfl,e⟩ | ⟨rfl,e⟩
  ·rfl
  ·exact absurd e.symm hjk
  ·exact absurd e hjk
  ·rfl
 refine ⟨_,_,_,rho,fun _=>False,hc,.one (.v _) (.one (.v _) (.one (.ref rfl rfl (by rw [hk]) rfl) .nil)),⟨fun a ha=>?_,fun a a' x ha ha' h h'=>inj1 a a' x ((kp a ha).trans h) ((kp a' ha').trans h'),fun _ _ _ _ h=>h⟩,fun R1 p ⟨e0,v,hv,e1,e2⟩=>?_⟩
 ·rcases zAa ha with rfl | ⟨rfl,rfl⟩
  ·exact ⟨Nat.le_refl _,Nat.one_pos,k,rfl,by rw [hk];exact ⟨rfl,.one hG0 .nil⟩⟩
  ·rcases hcs with ⟨h,_⟩ | ⟨_,_,hj⟩
   ·cases h
   ·exact ⟨by decide,Nat.one_pos,j,rfl,by rw [hj];exact ⟨rfl,rfl,rfl,zqb _⟩⟩
 ·subst e0
  let nv:Nat->Nat:=fun a=>if a = 1000000 then vk else (s.rw j).ver + (if b = true then v else v - 1)
  refine ⟨rho1,nv,true,⟨kp,inj1,fun a x h hn hver=>?_,fun a x h hn=>?_,fun _ _ h=>h⟩,fun S hS=>?_⟩
  ·rcases s1 h with ⟨rfl,rfl⟩ | ⟨rfl,rfl⟩
   ·rw [hk];rfl
   ·rcases zAa hn with h | ⟨_,rfl⟩
    ·cases h
    ·rw [e2] at hver
     have:v = 1:=hver
     subst this
     rfl
  ·rcases s1 h with ⟨rfl,rfl⟩ | ⟨rfl,rfl⟩
   ·exact absurd (by rw [e1];rfl) (hn rfl)
   ·show (s.rw x).ver < (s.rw x).ver + (if b = true then v else v - 1)
    cases b with
    | true=>rw [if_pos rfl];omega
    | false =>
      have:=hn rfl
      rw [e2] at this
      have:v ≠ 1:=this
      rw [if_neg (by decide)];omega
  ·have e:S = ((s.row j ⟨nv 1000001,.sli 9 1 false (sL out)⟩).row k ⟨vk,.box 44 [.own j (nv 1000001)]⟩).put (some d) (.tup []):=by
    refine St.ext2 (fun i=>?_) fun a=>?_
    ·rw [hS.sl]
     by_cases e:i = d
     ·subst e;rw [zau,zau];rfl
     ·rw [zaG _ _ _ _ e,zaG _ _ _ _ e];rfl
    ·rw [zec]
     by_cases e:a = k
     ·subst e
      rw [zaA,hS.row 1000000 a rfl,e1]
      have:ztz rho1 R1 nv true (.own 1000001 v) = .own j (nv 1000001):=by
       rw [zek,e2]
       show (match some j,v == v with | some j,true=>PV.own j (nv 1000001) | _,_=>.junk) = _
       rw [beq_self_eq_true]
      show (⟨vk,.box 44 [ren1 rho1 R1 nv true (.own 1000001 v)]⟩:Row) = _
      rw [show ren1 rho1 R1 nv true (.own 1000001 v) = ztz rho1 R1 nv true (.own 1000001 v) from rfl,this]
     ·rw [zap _ _ _ _ e]
      by_cases e':a = j
      ·subst e';rw [zaA,hS.row 1000001 a rfl,e2];rfl
      ·rw [zap _ _ _ _ e']
       refine hS.off a fun b hb=>?_
       rcases s1 hb with ⟨_,h⟩ | ⟨_,h⟩
       ·exact e h
       ·exact e' h
   rw [e];exact hK _
theorem zeZ [zae] {s:St} {K:St->Prop} {f:FuncId} {ap:Bool} {w:ByteArray} {ws out:List ByteArray} (b:Bool) {c:PV} {d k vk:Nat} (j vj:Nat) {lents:List PV} {Ka:RV->Prop} {us:Dm s} {u:Dm K} (hc:AG Tryz.prog f [bool ap,str w,.ref 1000000 1 0] (adR b ws) (zAb out)) (hk:s.rw k = ⟨vk,.box 44 [c]⟩)
 (hcs:(b = true/\c = .v (.slice none 0 0)) \/ (b = false/\c = .own j vj/\s.rw j = ⟨vj,.sli 9 1 false (sL ws)⟩)) (hjk:j ≠ k)
 (hK:∀ v',K (((s.row j ⟨v',.sli 9 1 false (sL out)⟩).row k ⟨vk,.box 44 [.own j v']⟩).put (some d) (.tup []))):zf0 Tryz.prog f lents Ka (znD Tryz.prog f lents [bool ap,str w,.ref k vk 0] (some d) (kk s us) (kk K u)):=.inr (.inr (.inr (.inr (zNj hc hk hcs hjk hK))))
def lsR (ws:List ByteArray) (i:Nat):Row:=if i = 1000000 then ⟨1,.sli 9 1 false (sL ws)⟩ else ⟨0,.dead⟩
theorem zAc {ws:List ByteArray} {i:Nat} (h:(lsR ws i).kind.nd = true):i = 1000000:=Classical.byContradiction fun e=>by unfold lsR at h;rw [if_neg e] at h;cases h
def zGD (out:List ByteArray) (R1:Nat->Row) (p:PV):Prop:=∃ v,0 < v/\p = .own 1000000 v/\R1 1000000 = ⟨v,.sli 9 1 false (sL out)⟩
theorem zbR (ws:List ByteArray) (hN:ws.length <= 100) (ap:Bool) (w:ByteArray):AG Tryz.prog 71 [.own 1000000 1,bool ap,str w] (lsR ws) (zGD (adL ws ap w)):=by
 refine xag [.tmp 6] Tryz.func71 fun hl hrl z hz hr=>?_
 have z0:z.sl 0 = .own 1000000 1:=by rw [hz];rfl
 have z1:z.sl 1 = bool ap:=by rw [hz];rfl
 have z2:z.sl 2 = str w:=by rw [hz];rfl
 have y0:z.rw 1000000 = ⟨1,.sli 9 1 false (sL ws)⟩:=by rw [hr];rfl
 have yl:∀ j,j < 1000000->z.rw j = ⟨0,.dead⟩:=fun j hj=>by rw [hr];unfold lsR;rw [if_neg om]
 clear hz hr
 have hsn:sL ws ++ [str w] = sL (ws ++ [w]):=by simp [sL]
 have hsl2:(sL ws).length = ws.length:=by simp [sL]
 refine xg6 z0 z1 z2 y0 yl hsl2 ?_
 unfold adL
 refine ⟨fun h=>⟨om,?_⟩,fun h=>?_⟩
 ·rw [if_pos h];exact ⟨2,by decide,rfl,by simp -dsimp only [gr,simprocAttr,y0]⟩
 ·rw [if_neg (by rw [h];decide)];exact ⟨1,by decide,rfl,y0⟩
theorem ze0 [zae] {s:St} {K:St->Prop} {f:FuncId} {ap:Bool} {w:ByteArray} {ws out:List ByteArray} {d j vj:Nat} {lents:List PV} {Ka:RV->Prop} {us:Dm s} {u:Dm K} (hc:AG Tryz.prog f [.own 1000000 1,bool ap,str w] (lsR ws) (zGD out)) (hj:s.rw j = ⟨vj,.sli 9 1 false (sL ws)⟩)
 (hK:∀ v',K ((s.row j ⟨v',.sli 9 1 false (sL out)⟩).put (some d) (.own j v'))):zf0 Tryz.prog f lents Ka (znD Tryz.prog f lents [.own j vj,bool ap,str w] (some d) (kk s us) (kk K u)):=by
 refine .inr (.inr (.inr (.inr (show askG Tryz.prog s f [.own j vj,bool ap,str w] (some d) K from ?_))))
 let rho:Nat->Option Nat:=fun a=>if a = 1000000 then some j else none
 have s1:∀ {a x:Nat},rho a = some x->a = 1000000/\x = j:=fun {a x} h=>by
  have h:(if a = 1000000 then some j else none) = some x:=h
  split at h
  ·cases h;exact ⟨‹_›,rfl⟩
  ·cases h
 refine ⟨_,_,_,rho,fun _=>False,hc,.one (.own rfl rfl (by rw [hj]) rfl) (.one (.v _) (.one (.v _) .nil)),⟨fun a ha=>?_,fun a a' x ha ha' _ _=>(zAc ha).trans (zAc ha').symm,fun _ _ _ _ h=>h⟩,fun R1 p ⟨v,hv,e0,e1⟩=>?_⟩
 ·have:=zAc ha
  subst this
  exact ⟨Nat.le_refl _,Nat.one_pos,j,rfl,by rw [hj];exact ⟨rfl,rfl,rfl,zqb _⟩⟩
 ·subst e0
  refine ⟨rho,fun _=>vj + (v - 1),true,⟨fun _ _=>rfl,fun a a' x h h'=>(s1 h).1.trans (s1 h').1.symm,fun a x h _ hver=>?_,fun a x h hn=>?_,fun _ _ h=>h⟩,fun S hS=>?_⟩
  ·obtain ⟨rfl,rfl⟩:=s1 h
   rw [e1] at hver
   have:v = 1:=hver
   subst this
   rw [hj];rfl
  ·obtain ⟨rfl,rfl⟩:=s1 h
   have:=hn rfl
   rw [e1] at this
   have:v ≠ 1:=this
   rw [hj]
   show vj < vj + (v - 1)
   omega
  ·have e:S = (s.row j ⟨vj + (v - 1),.sli 9 1 false (sL out)⟩).put (some d) (.own j (vj + (v - 1))):=by
    refine St.ext2 (fun i=>?_) fun a=>?_
    ·rw [hS.sl]
     have hr2:zC1 rho R1 (fun _=>vj + (v - 1)) true (.own 1000000 v) = .own j (vj + (v - 1)):=by
      show ztz rho R1 (fun _=>vj + (v - 1)) true (.own 1000000 v) = _
      rw [zek,e1]
      show (match some j,v == v with | some j,true=>PV.own j (vj + (v - 1)) | _,_=>.junk) = _
      rw [beq_self_eq_true]
     rw [hr2]
     by_cases e:i = d
     ·subst e;rw [zau,zau]
     ·rw [zaG _ _ _ _ e,zaG _ _ _ _ e];rfl
    ·rw [zec]
     by_cases e:a = j
     ·subst e;rw [zaA,hS.row 1000000 a rfl,e1];rfl
     ·rw [zap _ _ _ _ e]
      exact hS.off a fun b hb=>e (s1 hb).2
   rw [e];exact hK _
noncomputable def zEy (n:Int) (xs:List Int):List ByteArray :=
 adL (adL (adL (adL (adL (adL (adL [] (puB n xs) ⟨#[112,117,114,101]⟩) (zqX n xs).isSome ⟨#[115,104,101,108,108,97,98,108,101]⟩) (zEV n xs) ⟨#[100,101,99,111,109,112,111,115,97,98,108,101]⟩) (cmO n xs 2) ⟨#[102,117,108,108]⟩) (zEZ n xs) ⟨#[102,108,97,103]⟩) (znr n xs) ⟨#[99,108,111,115,101,100]⟩) (zEW n xs) ⟨#[98,97,108,97,110,99,101,100]⟩
noncomputable def zEP (n:Int) (xs:List Int):ByteArray:=if zaC n xs = true then (if (zEy n xs).length = 0 then ⟨#[45]⟩ else zgz (zEy n xs) ⟨#[32]⟩) else ⟨#[]⟩
def adK (k:Nat) (ws:List ByteArray):Prop:=ws.length <= k/\∀ w ∈ ws,w.size <= 12
theorem zuh:adK 0 []:=⟨Nat.le_refl _,fun _ h=>by cases h⟩
theorem zbB {k:Nat} {ws:List ByteArray} (h:adK k ws) (b:Bool) {w:ByteArray} (hw:w.size <= 12):adK (k + 1) (adL ws b w):=by
 unfold adL
 cases b
 ·exact ⟨Nat.le_succ_of_le h.1,h.2⟩
 ·refine ⟨by rw [if_pos rfl,List.length_append,List.length_singleton];have:=h.1;omega,fun x hx=>?_⟩
  rw [if_pos rfl] at hx
  rcases List.mem_append.1 hx with hx | hx
  ·exact h.2 x hx
  ·rw [List.mem_singleton.1 hx];exact hw
theorem zui {m:Nat} {l:List ByteArray} {sep:ByteArray} (h:∀ i,i < l.length->(l.getD i ⟨#[]⟩).size <= m) (hs:sep.size <= 1):∀ i,i <= l.length->(zcz l sep i).size <= (m + 1) * i:=by
 intro i
 induction i with
 | zero=>intro _;exact Nat.le_refl _
 | succ i ih =>
   intro hi
   have h1:=ih om
   have h2:=h i om
   have e:(m + 1) * (i + 1) = (m + 1) * i + (m + 1):=Nat.mul_succ _ _
   unfold zcz
   rw [ByteArray.size_append]
   split
   ·omega
   ·rw [ByteArray.size_append];omega
theorem zGB (n:Int) (xs:List Int):adK 7 (zEy n xs):=zbB (zbB (zbB (zbB (zbB (zbB (zbB zuh _ (by decide)) _ (by decide)) _ (by decide)) _ (by decide)) _ (by decide)) _ (by decide)) _ (by decide)
theorem zpM (n:Int) (xs:List Int):(∀ i,i <= (zEy n xs).length->(zcz (zEy n xs) ⟨#[32]⟩ i).size <= 13 * i)/\zcz (zEy n xs) ⟨#[32]⟩ (zEy n xs).length = zgz (zEy n xs) ⟨#[32]⟩ :=
 ⟨zui (fun i hi=>(zGB n xs).2 _ (zaj ⟨#[]⟩ hi)) (Nat.le_refl 1),by rw [zdo _ _ _ (Nat.le_refl _),List.take_length]⟩
theorem zfw (n:Int) (xs:List Int):AC Tryz.prog 22 [.ag [int n,zaz xs]] (.im (str (zEP n xs))):=by
 refine xac [.tmp 2] Tryz.func22 fun hl=>?_
 refine xg0 ?_
 refine zaa (zao n xs) ?_
 refine xg0 ?_
 unfold zEP
 refine ⟨fun hc=>?_,fun hc=>?_⟩
 ·rw [if_neg (by intro h;rw [h] at hc;cases hc)]
 have hc:zaC n xs = true:=by simpa using hc
 rw [if_pos hc]
 have hxl:=zeo hc
 refine zaa (zfm n xs) ?_
 refine xg0 ?_
 refine zeZ true 90 0 (zc6 true [] (fun _=>rfl) (by decide) (puB n xs) ⟨#[112,117,114,101]⟩) xr0 (.inl ⟨rfl,rfl⟩) (by decide) fun v1=>?_
 obtain ⟨W1,hW1⟩:∃ W,W = adL [] (puB n xs) ⟨#[112,117,114,101]⟩:=⟨_,rfl⟩
 rw [<- hW1]
 have hk1:adK 1 W1:=hW1 ▸ zbB zuh _ (by decide)
 refine xg0 ?_
 refine zaa (zhU n xs) ?_
 refine xg0 ?_
 refine zeZ false 90 v1 (zc6 false W1 (fun h=>by cases h) (by have:=hk1.1;omega) ((zqX n xs).isSome) ⟨#[115,104,101,108,108,97,98,108,101]⟩) xr0 (.inr ⟨rfl,rfl,by simp -dsimp only [gr,simprocAttr]⟩) (by decide) fun v2=>?_
 obtain ⟨W2,hW2⟩:∃ W,W = adL W1 ((zqX n xs).isSome) ⟨#[115,104,101,108,108,97,98,108,101]⟩:=⟨_,rfl⟩
 rw [<- hW2]
 have hk2:adK 2 W2:=hW2 ▸ zbB hk1 _ (by decide)
 refine xg0 ?_
 refine zaa (zfU n xs) ?_
 refine xg0 ?_
 refine zeZ false 90 v2 (zc6 false W2 (fun h=>by cases h) (by have:=hk2.1;omega) (zEV n xs) ⟨#[100,101,99,111,109,112,111,115,97,98,108,101]⟩) xr0 (.inr ⟨rfl,rfl,by simp -dsimp only [gr,simprocAttr]⟩) (by decide) fun v3=>?_
 obtain ⟨W3,hW3⟩:∃ W,W = adL W2 (zEV n xs) ⟨#[100,101,99,111,109,112,111,115,97,98,108,101]⟩:=⟨_,rfl⟩
 rw [<- hW3]
 have hk3:adK 3 W3:=hW3 ▸ zbB hk2 _ (by decide)
 refine xg0 ?_
 refine zaa (zfP n xs 2) ?_
 refine xg0 ?_
 refine zeZ false 90 v3 (zc6 false W3 (fun h=>by cases h) (by have:=hk3.1;omega) (cmO n xs 2) ⟨#[102,117,108,108]⟩) xr0 (.inr ⟨rfl,rfl,by simp -dsimp only [gr,simprocAttr]⟩) (by decide) fun v4=>?_
 obtain ⟨W4,hW4⟩:∃ W,W = adL W3 (cmO n xs 2) ⟨#[102,117,108,108]⟩:=⟨_,rfl⟩
 rw [<- hW4]
 have hk4:adK 4 W4:=hW4 ▸ zbB hk3 _ (by decide)
 refine xg0 ?_
 refine zaa (zpP n xs) ?_
 refine xg0 ?_
 refine zeZ false 90 v4 (zc6 false W4 (fun h=>by cases h) (by have:=hk4.1;omega) (zEZ n xs) ⟨#[102,108,97,103]⟩) xr0 (.inr ⟨rfl,rfl,by simp -dsimp only [gr,simprocAttr]⟩) (by decide) fun v5=>?_
 obtain ⟨W5,hW5⟩:∃ W,W = adL W4 (zEZ n xs) ⟨#[102,108,97,103]⟩:=⟨_,rfl⟩
 rw [<- hW5]
 have hk5:adK 5 W5:=hW5 ▸ zbB hk4 _ (by decide)
 refine xg0 ?_
 refine zaa (zd7 n xs om) ?_
 refine xg0 ?_
 refine zeZ false 90 v5 (zc6 false W5 (fun h=>by cases h) (by have:=hk5.1;omega) (znr n xs) ⟨#[99,108,111,115,101,100]⟩) xr0 (.inr ⟨rfl,rfl,by simp -dsimp only [gr,simprocAttr]⟩) (by decide) fun v6=>?_
 obtain ⟨W6,hW6⟩:∃ W,W = adL W5 (znr n xs) ⟨#[99,108,111,115,101,100]⟩:=⟨_,rfl⟩
 rw [<- hW6]
 have hk6:adK 6 W6:=hW6 ▸ zbB hk5 _ (by decide)
 refine xg0 ?_
 refine zaa (zi1 n xs) ?_
 refine xg0 ?_
 refine zeZ false 90 v6 (zc6 false W6 (fun h=>by cases h) (by have:=hk6.1;omega) (zEW n xs) ⟨#[98,97,108,97,110,99,101,100]⟩) xr0 (.inr ⟨rfl,rfl,by simp -dsimp only [gr,simprocAttr]⟩) (by decide) fun v7=>?_
 obtain ⟨W7,hW7⟩:∃ W,W = adL W6 (zEW n xs) ⟨#[98,97,108,97,110,99,101,100]⟩:=⟨_,rfl⟩
 rw [<- hW7]
 have hk7:adK 7 W7:=hW7 ▸ zbB hk6 _ (by decide)
 refine xg0 ?_
 have hW:W7 = zEy n xs:=by rw [hW7,hW6,hW5,hW4,hW3,hW2,hW1];rfl
 obtain ⟨j1,j2⟩:=zpM n xs
 rw [<- hW] at j1 j2 ⊢
 have hl7:=hk7.1
 refine ⟨fun h=>?_,fun h=>?_⟩
 ·rw [if_pos (by have:=beq_iff_eq.1 h;omega)]
 ·rw [if_neg (by intro e;rw [e] at h;cases h)]
  have j3:=j1 W7.length (Nat.le_refl _)
  rw [j2] at j3
  refine zaa (zdn W7 ⟨#[32]⟩ om om) ?_
  exact xd0
theorem zfx (n:Int) (xs:List Int):AC Tryz.prog 23 [.ag [int n,zaz xs]] (.im (str (zEP n xs))):=by
 refine xac [.tmp 2] Tryz.func23 fun hl=>?_
 refine xg0 ?_
 refine zaa (zat n xs) ?_
 refine xg0 ?_
 unfold zEP
 refine ⟨fun hc=>?_,fun hc=>?_⟩
 ·rw [if_neg (by intro h;rw [h] at hc;cases hc)]
 have hc:zaC n xs = true:=by simpa using hc
 rw [if_pos hc]
 have hxl:=zeo hc
 refine zaa (zfl n xs) ?_
 refine xg0 ?_
 refine ze0 (zbR [] (by decide) (puB n xs) ⟨#[112,117,114,101]⟩) xs0 fun v1=>?_
 obtain ⟨W1,hW1⟩:∃ W,W = adL [] (puB n xs) ⟨#[112,117,114,101]⟩:=⟨_,rfl⟩
 rw [<- hW1]
 have hk1:adK 1 W1:=hW1 ▸ zbB zuh _ (by decide)
 refine xg0 ?_
 refine zaa (ziL n xs) ?_
 refine xg0 ?_
 refine ze0 (zbR W1 (by have:=hk1.1;omega) ((zqX n xs).isSome) ⟨#[115,104,101,108,108,97,98,108,101]⟩) xs0 fun v2=>?_
 obtain ⟨W2,hW2⟩:∃ W,W = adL W1 ((zqX n xs).isSome) ⟨#[115,104,101,108,108,97,98,108,101]⟩:=⟨_,rfl⟩
 rw [<- hW2]
 have hk2:adK 2 W2:=hW2 ▸ zbB hk1 _ (by decide)
 refine xg0 ?_
 refine zaa (zfW n xs) ?_
 refine xg0 ?_
 refine ze0 (zbR W2 (by have:=hk2.1;omega) (zEV n xs) ⟨#[100,101,99,111,109,112,111,115,97,98,108,101]⟩) xs0 fun v3=>?_
 obtain ⟨W3,hW3⟩:∃ W,W = adL W2 (zEV n xs) ⟨#[100,101,99,111,109,112,111,115,97,98,108,101]⟩:=⟨_,rfl⟩
 rw [<- hW3]
 have hk3:adK 3 W3:=hW3 ▸ zbB hk2 _ (by decide)
 refine xg0 ?_
 refine zaa (zfQ n xs 2) ?_
 refine xg0 ?_
 refine ze0 (zbR W3 (by have:=hk3.1;omega) (cmO n xs 2) ⟨#[102,117,108,108]⟩) xs0 fun v4=>?_
 obtain ⟨W4,hW4⟩:∃ W,W = adL W3 (cmO n xs 2) ⟨#[102,117,108,108]⟩:=⟨_,rfl⟩
 rw [<- hW4]
 have hk4:adK 4 W4:=hW4 ▸ zbB hk3 _ (by decide)
 refine xg0 ?_
 refine zaa (zpQ n xs) ?_
 refine xg0 ?_
 refine ze0 (zbR W4 (by have:=hk4.1;omega) (zEZ n xs) ⟨#[102,108,97,103]⟩) xs0 fun v5=>?_
 obtain ⟨W5,hW5⟩:∃ W,W = adL W4 (zEZ n xs) ⟨#[102,108,97,103]⟩:=⟨_,rfl⟩
 rw [<- hW5]
 have hk5:adK 5 W5:=hW5 ▸ zbB hk4 _ (by decide)
 refine xg0 ?_
 refine zaa (zd8 n xs om) ?_
 refine xg0 ?_
 refine ze0 (zbR W5 (by have:=hk5.1;omega) (znr n xs) ⟨#[99,108,111,115,101,100]⟩) xs0 fun v6=>?_
 obtain ⟨W6,hW6⟩:∃ W,W = adL W5 (znr n xs) ⟨#[99,108,111,115,101,100]⟩:=⟨_,rfl⟩
 rw [<- hW6]
 have hk6:adK 6 W6:=hW6 ▸ zbB hk5 _ (by decide)
 refine xg0 ?_
 refine zaa (zi2 n xs) ?_
 refine xg0 ?_
 refine ze0 (zbR W6 (by have:=hk6.1;omega) (zEW n xs) ⟨#[98,97,108,97,110,99,101,100]⟩) xs0 fun v7=>?_
 obtain ⟨W7,hW7⟩:∃ W,W = adL W6 (zEW n xs) ⟨#[98,97,108,97,110,99,101,100]⟩:=⟨_,rfl⟩
 rw [<- hW7]
 have hk7:adK 7 W7:=hW7 ▸ zbB hk6 _ (by decide)
 refine xg0 ?_
 have hW:W7 = zEy n xs:=by rw [hW7,hW6,hW5,hW4,hW3,hW2,hW1];rfl
 obtain ⟨j1,j2⟩:=zpM n xs
 rw [<- hW] at j1 j2 ⊢
 have hl7:=hk7.1
 refine ⟨fun h=>?_,fun h=>?_⟩
 ·rw [if_pos (by have:=beq_iff_eq.1 h;omega)]
 ·rw [if_neg (by intro e;rw [e] at h;cases h)]
  refine zaa (zhE W7 ⟨#[32]⟩ om (fun i hi=>by
   have:=j1 i hi
   have e:(ByteArray.mk #[32]).size = 1:=rfl
   omega)) ?_
  rw [j2]
  exact xd0
theorem zeq (f:Nat->Bool):AC Tryz.prog 95 [u64 (zax f 64:Nat)] (.fr 3 1 (iL (zfD f))):=by
 refine xac [.tmp 2] Tryz.func95 fun hl=>?_
 have hd:=zbp f
 refine xg0 ?_
 refine zaa (ziz f) ?_
 have hsl:=zfh f
 have hfl:=zb1 f
 refine xg1 hsl ?_
 refine zag (fun (za:Nat × Nat) s=>match za with | (k,v)=>(s.sl 3 = .own 3 v/\s.rw 3 = ⟨v,.sli 3 1 false (iL ((zfD f).take k))⟩/\s.sl 7 = .own 7 1/\s.rw 7 = ⟨1,.sli 22 1 false (iLL (zeQ f))⟩/\s.sl 8 = int (zbd f)/\s.sl 9 = int k)/\(k <= zbd f)) (fun (k,v)=>zbd f - k) ((0,1)) ⟨(xc1 hsl),sp⟩ ?_
 intro (k,v) sa ⟨⟨h3a,r3a,h7a,r7a,h8a,h9a⟩,hIa⟩
 refine xg7 h3a r3a h7a r7a h8a h9a hsl ?_
 refine ⟨fun h=>⟨h,h,?_⟩,fun h=>?_⟩
 ·have hg:=zd1 f h
  have hol:=zbG f k (Nat.le_refl 64)
  have e:(zfD f).take (k + 1) = (zfD f).take k ++ [((zaR f k 64).length:Int)]:=by
   rw [zas 0 om,zeT f h]
  have hl2:((zfD f).take k).length <= 7:=by simp;omega
  simp -dsimp only [↓gp,gq,simprocAttr,gT,h3a,r3a,h7a,r7a,h8a,h9a,hsl,hg,zad]
  refine ⟨om,?_⟩
  exact zab ((k + 1,v + 1)) ⟨(by and_intros <;> (first | (simp -dsimp only [gr,simprocAttr,h3a,r3a,h7a,r7a,h8a,h9a,hg,zad,e,zac h om];first | done | rfl | (simp;done)) | assumption | rfl)),by dsimp only;omega⟩
 ·have:k = (zfD f).length:=om
  rw [this,List.take_length] at r3a
  rw [this,List.take_length]
noncomputable def fcR (n:Int) (xs:List Int):List Int:=if zaC n xs = true then zfD (zah xs) else []
theorem zeX (n:Int) (xs:List Int):AC Tryz.prog 38 [.ag [int n,zaz xs]] (.fr 3 1 (iL (fcR n xs))):=by
 refine xac [.tmp 2] Tryz.func38 fun hl=>?_
 refine xg0 ?_
 refine zaa (zao n xs) ?_
 refine xg0 ?_
 refine ⟨fun hh=>?_,fun hh=>?_⟩
 ·have hh:zaC n xs = false:=by simpa using hh
  have:fcR n xs = []:=by unfold fcR;rw [if_neg (by rw [hh];decide)]
  rw [this];rfl
 ·have hh:zaC n xs = true:=by simpa using hh
  have:fcR n xs = zfD (zah xs):=if_pos hh
  rw [this]
  refine zaa (zaT n xs (zcb hh)) ?_
  refine xg0 ?_
  refine zaa (zeq _) ?_
  exact xd0
def sg2 (k:Nat):Int:=2 * ((k % 2:Nat):Int) - 1
def zyz (L:List Nat) (j:Nat):Int:=((L.take j).map fun s=>sg2 (zar s)).sum
def zhJ (l:List Int):Nat->Int | 0=>0 | k + 1=>zhJ l k + sg2 k * l.getD k 0
theorem zq9 (k:Nat):-1 <= sg2 k/\sg2 k <= 1/\(k % 2 = 1->sg2 k = 1)/\(k % 2 = 0->sg2 k = -1):=by unfold sg2;omega
theorem zra {L:List Nat} {j:Nat} (h:j < L.length):zyz L (j + 1) = zyz L j + sg2 (zar (L.getD j 0)):=by
 unfold zyz;rw [zas 0 h];simp
theorem zz7 (L:List Nat):∀ j,j <= L.length->-(j:Int) <= zyz L j/\zyz L j <= j:=by
 intro j
 induction j with
 | zero=>intro _;simp [zyz]
 | succ j ih =>
   intro h
   have h1:=ih om
   have h2:=zq9 (zar (L.getD j 0))
   rw [zra om]
   omega
theorem zz8 (L:List Nat) (s:Nat):∀ d,zhJ (zk1 (L ++ [s]) d) d = zhJ (zk1 L d) d + if zar s < d then sg2 (zar s) else 0:=by
 have key:∀ n d,d <= n->zhJ (zk1 (L ++ [s]) n) d = zhJ (zk1 L n) d + if zar s < d then sg2 (zar s) else 0:=by
  intro n d
  induction d with
  | zero=>intro _;simp [zhJ]
  | succ d ih =>
    intro h
    rw [zhJ,zhJ,ih om,zgq _ om,zgq _ om,ztN]
    by_cases h1:zar s = d
    ·rw [if_pos h1,if_pos (show zar s < d + 1 by omega),if_neg (show ¬ zar s < d by omega),h1,show (((ztM L d + 1:Nat):Int)) = (ztM L d:Int) + 1 by omega,Int.mul_add]
     omega
    ·rw [if_neg h1]
     by_cases h2:zar s < d
     ·rw [if_pos h2,if_pos (show zar s < d + 1 by omega),Nat.add_zero];omega
     ·rw [if_neg h2,if_neg (show ¬ zar s < d + 1 by omega),Nat.add_zero];omega
 exact fun d=>key d d (Nat.le_refl _)
theorem zGz {d:Nat}:∀ (R L:List Nat),(∀ s ∈ L ++ R,zar s < d)->zhJ (zk1 (L ++ R) d) d = zhJ (zk1 L d) d + (R.map fun s=>sg2 (zar s)).sum
 | [],L,_=>sp
 | x :: R,L,h=>by
   have e:L ++ x :: R = (L ++ [x]) ++ R:=sp
   rw [e] at h ⊢
   rw [zGz R (L ++ [x]) h,zz8,if_pos (h x sp),List.map_cons,List.sum_cons]
   omega
theorem zEO (d:Nat):∀ n,n <= d->zhJ (zk1 [] d) n = 0:=by
 intro n
 induction n with
 | zero=>intro _;rfl
 | succ n ih =>
   intro h
   rw [zhJ,ih om,zgq _ om]
   simp [ztM]
theorem zpL {n:Int} {xs:List Int} (h:zaC n xs = true):za8 n xs = zah xs:=by funext s;unfold za8;rw [h,Bool.true_and]
theorem zGA (f:Nat->Bool):zhJ (zfD f) (zbd f) = zyz (za4 f) (za4 f).length:=by
 have hd:∀ s ∈ [] ++ za4 f,zar s < zbd f:=fun s hs=>by
  obtain ⟨h1,h2⟩:=zaO.1 (by simpa using hs)
  exact zfj 64 s h1 h2
 have:=zGz (d:=zbd f) (za4 f) [] hd
 rw [List.nil_append,zEO _ _ (Nat.le_refl _),Int.zero_add] at this
 unfold zfD zyz
 rw [this,List.take_length]
theorem zg2 (n:Int) (xs:List Int) (h:zaC n xs = true):AC Tryz.prog 40 [.ag [int n,zaz xs]] (.im (int (zhJ (zfD (zah xs)) (zbd (zah xs))))):=by
 refine xac [.tmp 2] Tryz.func40 fun hl=>?_
 refine xg0 ?_
 refine zaa (zao n xs) ?_
 refine xg1 h ?_
 refine zaa (zaT n xs (zcb h)) ?_
 refine xg0 ?_
 refine zaa (zeq _) ?_
 have hfl:=zb1 (zah xs)
 have hd7:=zbp (zah xs)
 have hFq:∀ i,i < (zfD (zah xs)).length->0 <= (zfD (zah xs)).getD i 0/\(zfD (zah xs)).getD i 0 <= 64:=fun i hi=>by
  rw [zeT _ om]
  exact zzA xs i
 have hE:∀ k,k <= (zfD (zah xs)).length->-(64 * (k:Int)) <= zhJ (zfD (zah xs)) k/\zhJ (zfD (zah xs)) k <= 64 * (k:Int):=by
  intro k
  induction k with
  | zero=>intro _;exact ⟨Int.le_refl _,Int.le_refl _⟩
  | succ k ih =>
    intro hk
    have h1:=ih om
    have h2:=hFq k om
    rw [zhJ]
    rcases Nat.mod_two_eq_zero_or_one k with h3 | h3
    ·rw [(zq9 k).2.2.2 h3];omega
    ·rw [(zq9 k).2.2.1 h3];omega
 rw [<- hfl]
 generalize zfD (zah xs) = F at *
 refine xg0 ?_
 refine zag (fun (k:Nat) s=>(s.sl 1 = .ref 1 1 0/\s.rw 1 = ⟨1,.box 27 [int n,zaz xs]⟩/\s.sl 3 = int (zhJ F k)/\s.sl 11 = .own 11 1/\s.rw 11 = ⟨1,.sli 3 1 false (iL F)⟩/\s.sl 12 = int F.length/\s.sl 13 = int k)/\(k <= F.length)) (fun k=>F.length - k) (0) ⟨xc0,Nat.zero_le _⟩ ?_
 intro k sa ⟨Ha,hIa⟩
 have hm:(k:Int).tmod 2 = ((k % 2:Nat):Int):=by rw [zcY om];omega
 refine xg2 Ha hm ?_
 refine ⟨fun h1=>⟨h1,h1,fun h2=>?_,fun h2=>?_⟩,fun h1=>?_⟩
 ·have e1:=hE k om
  have e2:=hFq k h1
  have e3:=(zq9 k).2.2.1 (by have:=beq_iff_eq.1 h2;omega)
  have e:zhJ F (k + 1) = zhJ F k + F.getD k 0:=by rw [zhJ,e3];omega
  have hw:IntKind.i64.wrap (zhJ F k + F.getD k 0) = zhJ F (k + 1):=by rw [e];exact zai om om
  exact zab (k + 1) ⟨(xc3 Ha (zac h1 om) hw),om⟩
 ·have e1:=hE k om
  have e2:=hFq k h1
  have e3:=(zq9 k).2.2.2 (by have:=beq_eq_false_iff_ne.1 h2;omega)
  have e:zhJ F (k + 1) = zhJ F k - F.getD k 0:=by rw [zhJ,e3];omega
  have hw:IntKind.i64.wrap (zhJ F k - F.getD k 0) = zhJ F (k + 1):=by rw [e];exact zai om om
  exact zab (k + 1) ⟨(xc3 Ha (zac h1 om) hw),om⟩
 ·rw [show k = F.length by omega]
theorem zg3 (n:Int) (xs:List Int) (h:zaC n xs = true):AC Tryz.prog 30 [.ag [int n,zaz xs]] (.im (int (zhJ (zfD (zah xs)) (zbd (zah xs))))):=by
 refine xac [.tmp 2] Tryz.func30 fun hl=>?_
 refine xg0 ?_
 refine zaa (zb6 n xs) ?_
 rw [zpL h,zGA]
 have hol:=zad (za4 (zah xs))
 have holen:=zca (zah xs)
 have hmem:=fun i (hi:i < (za4 (zah xs)).length)=>(zaO.1 (zaj 0 hi)).1
 generalize za4 (zah xs) = L at *
 refine xg0 ?_
 refine zag (fun (k:Nat) s=>(s.sl 1 = .ref 1 1 0/\s.rw 1 = ⟨1,.box 27 [int n,zaz xs]⟩/\s.sl 3 = int (zyz L k)/\s.sl 4 = .own 7 1/\s.rw 7 = ⟨1,.sli 3 1 false (iL (ofN L))⟩/\s.sl 5 = int k)/\(k <= L.length)) (fun k=>L.length - k) (0) ⟨xc0,Nat.zero_le _⟩ ?_
 intro k sa ⟨Ha,hIa⟩
 refine xg2 Ha hol ?_
 refine ⟨fun h1=>⟨h1,h1,?_⟩,fun h1=>?_⟩
 ·have h64:=hmem k h1
  rw [zay h1]
  refine zaa (zaM _ om) ?_
  have e1:=zz7 L k om
  have hm:(zar (L.getD k 0):Int).tmod 2 = ((zar (L.getD k 0) % 2:Nat):Int):=by rw [zcY om];omega
  have hlt:zar (L.getD k 0) % 2 < 2:=Nat.mod_lt _ (by decide)
  have w1:IntKind.i64.wrap (2 * ((zar (L.getD k 0) % 2:Nat):Int)) = 2 * ((zar (L.getD k 0) % 2:Nat):Int):=zai om om
  have w2:IntKind.i64.wrap (zyz L k + 2 * ((zar (L.getD k 0) % 2:Nat):Int)) = zyz L k + 2 * ((zar (L.getD k 0) % 2:Nat):Int):=zai om om
  have w3:IntKind.i64.wrap (zyz L k + 2 * ((zar (L.getD k 0) % 2:Nat):Int) - 1) = zyz L (k + 1):=by
   rw [zra h1];unfold sg2;rw [zai om om];omega
  refine xg5 Ha hm w1 w2 w3 ?_
  exact zab (k + 1) ⟨(xc2 Ha (zac h1 om)),om⟩
 ·rw [show k = L.length by omega]
noncomputable def hV (xs:List Int):List Int:=(List.range (zbd (zah xs))).map fun k=>lnA (lnC xs) (zbd (zah xs) - 1) (k + 1) k
theorem zld (xs:List Int):(hV xs).length = zbd (zah xs):=by simp [hV]
theorem zz9 {xs:List Int} {k:Nat} (h:k < zbd (zah xs)):(hV xs).take (k + 1) = (hV xs).take k ++ [lnA (lnC xs) (zbd (zah xs) - 1) (k + 1) k]:=by
 rw [zas 0 (by rw [zld];exact h)]
 congr 2
 unfold hV
 rw [List.getD_eq_getElem?_getD,List.getElem?_map,List.getElem?_range h];rfl
theorem zPj (xs:List Int):∀ x ∈ hV xs,-8960 <= x/\x <= 8960:=fun x hx=>by
 unfold hV at hx
 obtain ⟨k,hk,rfl⟩:=List.mem_map.1 hx
 have hk:=List.mem_range.1 hk
 have hd:=zbp (zah xs)
 have:=ziO (zzA xs) (n:=zbd (zah xs) - 1) (t:=k) om om (k + 1)
 omega
theorem zkd (xs:List Int):AC Tryz.prog 96 [zaz (zfD (zah xs))] (.fr 3 1 (iL (hV xs))):=by
 refine xac [.tmp 2] Tryz.func96 fun hl=>?_
 have hfl:=zb1 (zah xs)
 have hd7:=zbp (zah xs)
 have hFq:∀ i,i < zbd (zah xs)->(zfD (zah xs)).getD i 0 = lnC xs i:=fun i hi=>by rw [zeT _ hi];rfl
 have hvl:=zld xs
 have htk:=fun k=>zz9 (xs:=xs) (k:=k)
 generalize zfD (zah xs) = F at *
 generalize hD:zbd (zah xs) = D at *
 generalize hV xs = V at *
 have hw0:IntKind.i64.wrap ((F.length:Int) - 1) = (D:Int) - 1:=by rw [zai om om];omega
 refine xg1 hw0 ?_
 refine zag (fun (za:Nat × Nat) s=>match za with | (k,v)=>(s.sl 0 = zaz F/\s.sl 3 = int ((D:Int) - 1)/\s.sl 4 = .own 4 v/\s.rw 4 = ⟨v,.sli 3 1 false (iL (V.take k))⟩/\s.sl 5 = int k)/\(k <= D)) (fun (k,v)=>D - k) ((0,1)) ⟨xc0,Nat.zero_le _⟩ ?_
 intro (k,v) sa ⟨Ha,hIa⟩
 refine xg1 Ha ?_
 refine ⟨fun h=>?_,fun h=>?_⟩
 ·refine zag (fun (i:Nat) s=>(s.sl 0 = zaz F/\s.sl 3 = int ((D:Int) - 1)/\s.sl 4 = .own 4 v/\s.rw 4 = ⟨v,.sli 3 1 false (iL (V.take k))⟩/\s.sl 5 = int k/\s.sl 6 = int (lnA (lnC xs) (D - 1) i k)/\s.sl 7 = int i)/\(i <= k + 1)) (fun i=>k + 1 - i) (0) ⟨(xc1 Ha),Nat.zero_le _⟩ ?_
  intro i sb ⟨Hb,hIb⟩
  refine xg1 Hb ?_
  refine ⟨fun h2=>?_,fun h2=>?_⟩
  ·have hch:zc1 ((D:Int) - 1 - i) ((k:Int) - i) = (bin (D - 1 - i) (k - i):Nat):=by unfold zc1;rw [if_pos ⟨om,om,om⟩,show ((D:Int) - 1 - i).toNat = D - 1 - i by omega,show ((k:Int) - i).toNat = k - i by omega]
   have hbl:=zqP (n:=D - 1 - i) (k:=k - i) om om
   have hcb:=zzA xs i
   obtain ⟨t1,t2,t3,t4⟩:=zvs hcb (b:=(bin (D - 1 - i) (k - i):Nat)) ⟨om,om⟩ (k - i)
   have hsm:=ziO (zzA xs) (n:=D - 1) (t:=k) om om i
   have hA:lnA (lnC xs) (D - 1) (i + 1) k = lnA (lnC xs) (D - 1) i k + sgI (k - i) (lnC xs i * (bin (D - 1 - i) (k - i):Nat)):=by
    rw [zqO,if_pos h2]
   have w1:IntKind.i64.wrap ((D:Int) - 1 - i) = (D:Int) - 1 - i:=zai om om
   have w2:IntKind.i64.wrap ((k:Int) - i) = (k:Int) - i:=zai om om
   have hm:((k:Int) - i).tmod 2 = (((k - i) % 2:Nat):Int):=by rw [show (k:Int) - i = ((k - i:Nat):Int) by omega,zcY om];omega
   have hFi:=hFq i om
   generalize hB:((bin (D - 1 - i) (k - i):Nat):Int) = B at *
   generalize hC:lnC xs i = C at *
   have v3:IntKind.i64.wrap (C * B) = C * B:=zai om om
   have v4:IntKind.i64.wrap (0 - C * B) = -(C * B):=by rw [zai om om];omega
   refine ⟨kr,om,om,zaa (zqR _ _ om) ?_⟩
   refine xg8 Hb w1 w2 hch hFi hm v3 v4 ?_
   refine ⟨fun h3=>?_,fun h3=>?_⟩
   ·have e:sgI (k - i) (C * B) = -(C * B):=if_neg (by have:=beq_iff_eq.1 h3;omega)
    have hw:IntKind.i64.wrap (lnA (lnC xs) (D - 1) i k + -(C * B)) = lnA (lnC xs) (D - 1) (i + 1) k:=by rw [hA,e];rw [e] at t3 t4;exact zai om om
    exact zab (i + 1) ⟨(xc4 Hb v4 hw (zac (show i < 7 by omega) om)),om⟩
   ·have e:sgI (k - i) (C * B) = C * B:=if_pos (by have:=beq_eq_false_iff_ne.1 h3;omega)
    have hw:IntKind.i64.wrap (lnA (lnC xs) (D - 1) i k + C * B) = lnA (lnC xs) (D - 1) (i + 1) k:=by rw [hA,e];rw [e] at t3 t4;exact zai om om
    exact zab (i + 1) ⟨(xc3 Hb hw (zac (show i < 7 by omega) om)),om⟩
  ·have hi:i = k + 1:=om
   subst hi
   have e:=htk k om
   have hl2:(V.take k).length <= 7:=by simp;omega
   exact ⟨om,zab ((k + 1,v + 1)) ⟨(xc4 Ha Hb e (zac (show k < 7 by omega) om)),by dsimp only;omega⟩⟩
 ·have hk:k = D:=om
  rw [hk,<- hvl,List.take_length]
theorem zle (n:Int) (xs:List Int) (h:zaC n xs = true):AC Tryz.prog 39 [.ag [int n,zaz xs]] (.fr 3 1 (iL (hV xs))):=by
 refine xac [.tmp 2] Tryz.func39 fun hl=>?_
 refine xg0 ?_
 refine zaa (zeX n xs) ?_
 rw [show fcR n xs = zfD (zah xs) from if_pos h]
 refine xg0 ?_
 refine zaa (zkd xs) ?_
 exact xd0
theorem zfT (n:Int) (xs:List Int) (h:zaC n xs = true):AC Tryz.prog 29 [.ag [int n,zaz xs]] (.fr 3 1 (iL (hV xs))):=by
 refine xac [.tmp 2] Tryz.func29 fun hl=>?_
 have hfl:=zb1 (zah xs)
 have hd7:=zbp (zah xs)
 have hFq:∀ i,i < zbd (zah xs)->(zfD (zah xs)).getD i 0 = lnC xs i:=fun i hi=>by rw [zeT _ hi];rfl
 have hvl:=zld xs
 have htk:=fun k=>zz9 (xs:=xs) (k:=k)
 have hFC:=zco n xs
 rw [zpL h] at hFC
 generalize zfD (zah xs) = F at *
 generalize hD:zbd (zah xs) = D at *
 generalize hV xs = V at *
 have hw0:IntKind.i64.wrap ((F.length:Int) - 1) = (D:Int) - 1:=by rw [zai om om];omega
 refine xg1 hw0 ?_
 refine zaa hFC ?_
 refine xg1 hw0 ?_
 refine zag (fun (za:Nat × Nat) s=>match za with | (k,v)=>(s.sl 1 = .ref 1 1 0/\s.rw 1 = ⟨1,.box 27 [int n,zaz xs]⟩/\s.sl 3 = .own 9 v/\s.rw 9 = ⟨v,.sli 3 1 false (iL (V.take k))⟩/\s.sl 4 = .own 11 1/\s.rw 11 = ⟨1,.sli 3 1 false (iL F)⟩/\s.sl 5 = int ((D:Int) - 1)/\s.sl 6 = int k)/\(k <= D)) (fun (k,v)=>D - k) ((0,1)) ⟨xc0,Nat.zero_le _⟩ ?_
 intro (k,v) sa ⟨Ha,hIa⟩
 refine xg1 Ha ?_
 refine ⟨fun h=>?_,fun h=>?_⟩
 ·refine zag (fun (i:Nat) s=>(s.sl 1 = .ref 1 1 0/\s.rw 1 = ⟨1,.box 27 [int n,zaz xs]⟩/\s.sl 3 = .own 9 v/\s.rw 9 = ⟨v,.sli 3 1 false (iL (V.take k))⟩/\s.sl 4 = .own 11 1/\s.rw 11 = ⟨1,.sli 3 1 false (iL F)⟩/\s.sl 5 = int ((D:Int) - 1)/\s.sl 6 = int k/\s.sl 7 = int (lnA (lnC xs) (D - 1) i k)/\s.sl 8 = int i)/\(i <= k + 1)) (fun i=>k + 1 - i) (0) ⟨(xc1 Ha),Nat.zero_le _⟩ ?_
  intro i sb ⟨Hb,hIb⟩
  refine xg1 Hb ?_
  refine ⟨fun h2=>?_,fun h2=>?_⟩
  ·have hch:zc1 ((D:Int) - 1 - i) ((k:Int) - i) = (bin (D - 1 - i) (k - i):Nat):=by unfold zc1;rw [if_pos ⟨om,om,om⟩,show ((D:Int) - 1 - i).toNat = D - 1 - i by omega,show ((k:Int) - i).toNat = k - i by omega]
   have hbl:=zqP (n:=D - 1 - i) (k:=k - i) om om
   have hcb:=zzA xs i
   obtain ⟨t1,t2,t3,t4⟩:=zvs hcb (b:=(bin (D - 1 - i) (k - i):Nat)) ⟨om,om⟩ (k - i)
   have hsm:=ziO (zzA xs) (n:=D - 1) (t:=k) om om i
   have hA:lnA (lnC xs) (D - 1) (i + 1) k = lnA (lnC xs) (D - 1) i k + sgI (k - i) (lnC xs i * (bin (D - 1 - i) (k - i):Nat)):=by
    rw [zqO,if_pos h2]
   have w1:IntKind.i64.wrap ((D:Int) - 1 - i) = (D:Int) - 1 - i:=zai om om
   have w2:IntKind.i64.wrap ((k:Int) - i) = (k:Int) - i:=zai om om
   have hm:((k:Int) - i).tmod 2 = (((k - i) % 2:Nat):Int):=by rw [show (k:Int) - i = ((k - i:Nat):Int) by omega,zcY om];omega
   have hFi:=hFq i om
   have hlt:(k - i) % 2 < 2:=Nat.mod_lt _ (by decide)
   have v1:IntKind.i64.wrap (2 * (((k - i) % 2:Nat):Int)) = 2 * (((k - i) % 2:Nat):Int):=zai om om
   have v2:IntKind.i64.wrap (1 - 2 * (((k - i) % 2:Nat):Int)) = 1 - 2 * (((k - i) % 2:Nat):Int):=zai om om
   generalize hB:((bin (D - 1 - i) (k - i):Nat):Int) = B at *
   generalize hC:lnC xs i = C at *
   have hs:(1 - 2 * (((k - i) % 2:Nat):Int)) * C * B = sgI (k - i) (C * B):=by
    unfold sgI
    rcases Nat.mod_two_eq_zero_or_one (k - i) with h | h
    ·rw [h,if_pos rfl];simp
    ·rw [h,if_neg (by decide)];simp [Int.neg_mul]
   have v0:IntKind.i64.wrap ((1 - 2 * (((k - i) % 2:Nat):Int)) * C) = (1 - 2 * (((k - i) % 2:Nat):Int)) * C:=by
    rcases Nat.mod_two_eq_zero_or_one (k - i) with h | h <;> rw [h] <;> exact zai (by simp;omega) (by simp;omega)
   have v4:IntKind.i64.wrap (sgI (k - i) (C * B)) = sgI (k - i) (C * B):=zai om om
   have v5:IntKind.i64.wrap (lnA (lnC xs) (D - 1) i k + sgI (k - i) (C * B)) = lnA (lnC xs) (D - 1) (i + 1) k:=by rw [hA];exact zai om om
   refine ⟨kr,om,om,zaa (zqQ _ _ om) ?_⟩
   simp -dsimp only [↓gp,gq,simprocAttr,gT,Hb,w1,w2,hch,hFi,hm,v0,v1,v2,hs,v4,v5]
   exact zab (i + 1) ⟨(xc3 Hb v5 (zac (show i < 7 by omega) om)),om⟩
  ·have hi:i = k + 1:=om
   subst hi
   have e:=htk k om
   have hl2:(V.take k).length <= 7:=by simp;omega
   exact ⟨om,zab ((k + 1,v + 1)) ⟨(xc4 Ha Hb e (zac (show k < 7 by omega) om)),by dsimp only;omega⟩⟩
 ·have hk:k = D:=om
  rw [hk,<- hvl,List.take_length]
def stC (r f:Int):Bool:=decide ((zar (r.toNat &&& f.toNat):Int) = (zar r.toNat:Int) - 1)
noncomputable def chJ (xs:List Int) (r:Int) (L:List Int):Nat->List Int
 | 0=>L
 | j + 1=>if (!decide (xs.getD j 0 ∈ chJ xs r L j) && stC r (xs.getD j 0)) = true then chJ xs r L j ++ [xs.getD j 0] else chJ xs r L j
noncomputable def chO (xs:List Int):Nat->Nat->List Int->List Int
 | 0,_,L=>L
 | n + 1,k,L=>if k < L.length then chO xs n (k + 1) (chJ xs (L.getD k 0) L xs.length) else L
noncomputable def chB (n:Int) (xs:List Int):Bool:=puB n xs && decide (0 < xs.length) && decide ((chO xs (xs.length + 1) 0 [xs.getD 0 0]).length = xs.length)
def zEL (xs L:List Int):Prop:=L.Nodup/\∀ x ∈ L,x ∈ xs
theorem zGw:∀ (L xs:List Int),L.Nodup->(∀ x ∈ L,x ∈ xs)->L.length <= xs.length
 | [],_,_,_=>Nat.zero_le _
 | x :: L,xs,hn,hs=>by
   have hx:=hs x sp
   obtain ⟨h1,h2⟩:=List.nodup_cons.1 hn
   have ih:=zGw L (xs.erase x) h2 fun y hy=>(List.mem_erase_of_ne fun e=>h1 (by rw [<- e];exact hy)).2 (hs y (by simp [hy]))
   rw [List.length_erase_of_mem hx] at ih
   have:=List.length_pos_of_mem hx
   rw [List.length_cons];omega
theorem zkz {xs L:List Int} (h:zEL xs L):L.length <= xs.length:=zGw L xs h.1 h.2
theorem zEM {xs L:List Int} (h:zEL xs L) {x:Int} (hx:x ∈ xs) (hn:¬ x ∈ L):zEL xs (L ++ [x]) :=
 ⟨List.nodup_append.2 ⟨h.1,sp,fun a ha b hb e=>by rw [List.mem_singleton.1 hb] at e;exact hn (e ▸ ha)⟩,fun y hy=>by
  rcases List.mem_append.1 hy with hy | hy
  ·exact h.2 y hy
  ·rw [List.mem_singleton.1 hy];exact hx⟩
theorem zGx {xs L:List Int} {r:Int} (h:zEL xs L):∀ j,j <= xs.length->zEL xs (chJ xs r L j)/\L.length <= (chJ xs r L j).length/\∀ k,k < L.length->(chJ xs r L j).getD k 0 = L.getD k 0:=by
 intro j
 induction j with
 | zero=>exact fun _=>⟨h,Nat.le_refl _,fun _ _=>rfl⟩
 | succ j ih =>
   intro hj
   obtain ⟨a,b,c⟩:=ih om
   rw [chJ]
   split
   ·rename_i hc
    rw [Bool.and_eq_true,Bool.not_eq_true',decide_eq_false_iff_not] at hc
    refine ⟨zEM a (zaj 0 om) hc.1,by rw [List.length_append];omega,fun k hk=>?_⟩
    rw [<- c k hk,List.getD_eq_getElem?_getD,List.getElem?_append_left om,<- List.getD_eq_getElem?_getD]
   ·exact ⟨a,b,c⟩
theorem zEN {r f:Int} (hr:0 <= r/\r < 64) (hf:0 <= f/\f < 64) (h:zar f.toNat = zar r.toNat):(zkg (zb8 .i64 f r) == 1) = stC r f:=by
 have e:zb8 .i64 f r = ((f.toNat ^^^ (f.toNat &&& r.toNat):Nat):Int):=by
  rw [<- zbj om om];congr 1 <;> omega
 have h1:f.toNat &&& r.toNat < 64:=Nat.lt_of_le_of_lt Nat.and_le_left om
 have h2:f.toNat ^^^ (f.toNat &&& r.toNat) < 64:=Nat.xor_lt_two_pow (n:=6) om h1
 have h3:=zJq f.toNat om (f.toNat &&& r.toNat) h1 (by rw [<- Nat.and_assoc,Nat.and_self])
 rw [e,zdk h2]
 unfold stC
 rw [Nat.and_comm r.toNat,Bool.eq_iff_iff,beq_iff_eq,decide_eq_true_iff]
 omega
theorem zvH {L:List Int} {f:Int} (hf:0 <= f/\f < 64):zax (inF (L ++ [f])) 64 = zax (inF L) 64 ||| 2 ^ f.toNat:=by
 rw [zpx _ om]
 refine zcQ fun s _=>?_
 rw [ztW,ztW,Bool.eq_iff_iff,Bool.or_eq_true,decide_eq_true_iff,decide_eq_true_iff,beq_iff_eq,List.mem_append,List.mem_singleton]
 exact or_congr Iff.rfl ⟨fun h=>om,fun h=>om⟩
theorem zGy {n:Int} {xs:List Int} (h:puB n xs = true):zaC n xs = true/\∀ x ∈ xs,∀ y ∈ xs,zar x.toNat = zar y.toNat:=by
 unfold puB at h
 rw [Bool.and_eq_true,List.all_eq_true] at h
 exact ⟨h.1,fun x hx y hy=>(of_decide_eq_true (h.2 x hx)).trans (of_decide_eq_true (h.2 y hy)).symm⟩
theorem zz6 (xs:List Int) {n k:Nat} {L:List Int} (h:L.length <= k):chO xs n k L = L:=by
 cases n with
 | zero=>rfl
 | succ n=>rw [chO,if_neg om]
theorem zfu (n:Int) (xs:List Int):AC Tryz.prog 156 [.ag [int n,zaz xs]] (.im (bool (chB n xs))):=by
 refine xac [.tmp 2] Tryz.func156 fun hl=>?_
 refine xg0 ?_
 refine zaa (zfm n xs) ?_
 refine xg0 ?_
 have hno:puB n xs = false->chB n xs = false:=fun h=>by unfold chB;rw [h];rfl
 refine ⟨fun hp=>⟨fun h0=>?_,fun h0=>?_⟩,fun hp=>by rw [hno (by simpa using hp)]⟩
 ·unfold chB;rw [decide_eq_false (show ¬ 0 < xs.length by have:=beq_iff_eq.1 h0;omega),Bool.and_false];rfl
 have hp:puB n xs = true:=by simpa using hp
 have hpos:0 < xs.length:=Nat.pos_of_ne_zero fun e=>by rw [e] at h0;cases h0
 obtain ⟨hcx,hpp⟩:=zGy hp
 have hok:=zcb hcx
 have hxl:=zeo hcx
 have hx0:=hok _ (zaj 0 hpos)
 have hB:chB n xs = decide ((chO xs (xs.length + 1) 0 [xs.getD 0 0]).length = xs.length):=by
  unfold chB;rw [hp,decide_eq_true hpos,Bool.true_and,Bool.true_and]
 have hun:IntKind.u64.wrap (xs.getD 0 0) = xs.getD 0 0:=by
  rw [show xs.getD 0 0 = (((xs.getD 0 0).toNat:Nat):Int) by omega];exact zaI om
 have hsh:zg1 .u64 1 (xs.getD 0 0) = ((zax (inF [xs.getD 0 0]) 64:Nat):Int):=by
  rw [show zg1 .u64 1 (xs.getD 0 0) = zg1 .u64 1 (((xs.getD 0 0).toNat:Nat):Int) by congr 1;omega,zpq om]
  have:=zvH (L:=[]) hx0
  rw [List.nil_append] at this
  rw [this,show zax (inF []) 64 = 0 from (zcQ (w':=fun _=>false) (fun s _=>by rw [ztW];simp)).trans zm2,Nat.zero_or]
 have hs0:zEL xs [xs.getD 0 0]:=⟨sp,fun x hx=>by rw [List.mem_singleton.1 hx];exact zaj 0 hpos⟩
 have hiL:iL [xs.getD 0 0] = [int (xs.getD 0 0)]:=rfl
 refine xg2 hun hsh ?_
 refine ⟨om,hpos,om,hpos,om,?_⟩
 refine zag (fun (za:Nat × Nat × List Int) s=>match za with | (k,v,L)=>(s.sl 1 = .ref 1 1 0/\s.rw 1 = ⟨1,.box 27 [int n,zaz xs]⟩/\s.sl 3 = .own 21 v/\s.rw 21 = ⟨v,.sli 3 1 false (iL L)⟩/\s.sl 4 = u64 (zax (inF L) 64:Nat)/\s.sl 5 = int k)/\(k <= L.length/\zEL xs L/\chO xs (xs.length + 1 - k) k L = chO xs (xs.length + 1) 0 [xs.getD 0 0])) (fun (k,v,L)=>xs.length + 1 - k) ((0,1,[xs.getD 0 0])) ⟨(xc3 hun hsh hiL),⟨Nat.zero_le _,hs0,rfl⟩⟩ ?_
 intro (k,v,L) sa ⟨Ha,hIa⟩
 obtain ⟨hk,hsub,hch⟩:=hIa
 have hLl:=zkz hsub
 refine xg1 Ha ?_
 refine ⟨fun h1=>?_,fun h1=>?_⟩
 ·have hr:=hok _ (hsub.2 _ (zaj 0 h1))
  rw [show xs.length + 1 - k = (xs.length + 1 - (k + 1)) + 1 by omega,chO,if_pos h1] at hch
  have hJ:=fun j (hj:j <= xs.length)=>zGx (r:=L.getD k 0) hsub j hj
  have hJs:∀ j,chJ xs (L.getD k 0) L (j + 1) = if (!decide (xs.getD j 0 ∈ chJ xs (L.getD k 0) L j) && stC (L.getD k 0) (xs.getD j 0)) = true then chJ xs (L.getD k 0) L j ++ [xs.getD j 0] else chJ xs (L.getD k 0) L j:=fun j=>rfl
  have hJ0:chJ xs (L.getD k 0) L 0 = L:=rfl
  have hrm:=hsub.2 _ (zaj 0 h1)
  generalize hrr:L.getD k 0 = r at *
  refine zag (fun (zb:Nat × Nat) s=>match zb with | (j,u)=>(s.sl 1 = .ref 1 1 0/\s.rw 1 = ⟨1,.box 27 [int n,zaz xs]⟩/\s.sl 3 = .own 21 u/\s.rw 21 = ⟨u,.sli 3 1 false (iL (chJ xs r L j))⟩/\s.sl 4 = u64 (zax (inF (chJ xs r L j)) 64:Nat)/\s.sl 5 = int k/\s.sl 35 = zaz xs/\s.sl 36 = int xs.length/\s.sl 37 = int j)/\(j <= xs.length)) (fun (j,u)=>xs.length - j) ((0,v)) ⟨(xc2 Ha hJ0),Nat.zero_le _⟩ ?_
  intro (j,u) sb ⟨Hb,hIb⟩
  obtain ⟨j1,j2,j3⟩:=hJ j hIb
  have hj3:=j3 k h1
  rw [hrr] at hj3
  have hml:=zkz j1
  have hJj:=hJs j
  generalize hM:chJ xs r L j = M at *
  refine xg1 Hb ?_
  refine ⟨fun h2=>?_,fun h2=>?_⟩
  ·have hxj:=hok _ (zaj 0 h2)
   have hxm:=zaj 0 h2
   have hlt:=zbn (inF M) 64
   have hc:=zbo (zax (inF M) 64) (xs.getD j 0).toNat om om
   rw [zba _ om,ztW,show (((xs.getD j 0).toNat:Nat):Int) = xs.getD j 0 by omega] at hc
   have hst:=zEN hr hxj (hpp _ hxm _ hrm)
   have hxn:xs.getD j 0 = (((xs.getD j 0).toNat:Nat):Int):=om
   have hu2:IntKind.u64.wrap (xs.getD j 0) = xs.getD j 0:=by rw [hxn];exact zaI om
   have h2s:(2:Nat) ^ (xs.getD j 0).toNat < 18446744073709551616:=by
    have:(2:Nat) ^ (xs.getD j 0).toNat < 2 ^ 64:=Nat.pow_lt_pow_right om om
    omega
   have hor:ior .u64 (zax (inF M) 64:Nat) (zg1 .u64 1 (xs.getD j 0)) = ((zax (inF (M ++ [xs.getD j 0])) 64:Nat):Int):=by
    rw [show zg1 .u64 1 (xs.getD j 0) = zg1 .u64 1 (((xs.getD j 0).toNat:Nat):Int) by congr 1,zpq om,zDk om h2s,zvH hxj]
   have hiM:iL M ++ [int (xs.getD j 0)] = iL (M ++ [xs.getD j 0]):=by simp [iL]
   generalize hx:xs.getD j 0 = x at *
   refine ⟨h2,h2,zaa hc ?_⟩
   refine xg1 Hb ?_
   refine ⟨fun h3=>⟨om,om,zaa (zaE _) ?_⟩,fun h3=>?_⟩
   ·have h3:decide (x ∈ M) = false:=by simpa using h3
    rw [hj3]
    refine xg4 Hb hst hu2 hor ?_
    rw [h3,Bool.not_false,Bool.true_and] at hJj
    refine ⟨fun h4=>?_,fun h4=>?_⟩
    ·rw [if_pos h4] at hJj
     exact ⟨hxj.1,om,zab ((j + 1,u + 1)) ⟨(xc7 Hb Hb hu2 hor hJj hiM (zac h2 om)),by dsimp only;omega⟩⟩
    ·rw [if_neg (by rw [h4];decide)] at hJj
     exact zab ((j + 1,u)) ⟨(xc4 Hb Hb hJj (zac h2 om)),by dsimp only;omega⟩
   ·have h3:decide (x ∈ M) = true:=by simpa using h3
    rw [h3,Bool.not_true,Bool.false_and,if_neg (by decide)] at hJj
    exact zab ((j + 1,u)) ⟨(xc4 Hb Hb hJj (zac h2 om)),by dsimp only;omega⟩
  ·have hj:j = xs.length:=om
   have hch:chO xs (xs.length + 1 - (k + 1)) (k + 1) M = chO xs (xs.length + 1) 0 [xs.getD 0 0]:=by rw [<- hM,hj];exact hch
   exact zab ((k + 1,u,M)) ⟨(xc3 Ha Hb (zac (show k < 64 by omega) om)),⟨by dsimp only;omega,j1,hch⟩⟩
 ·rw [zz6 xs om] at hch
  rw [hB,<- hch,Bool.eq_iff_iff,decide_eq_true_iff,beq_iff_eq]
  omega
theorem zfv (n:Int) (xs:List Int):AC Tryz.prog 144 [.ag [int n,zaz xs]] (.im (bool (chB n xs))):=by
 refine xac [.tmp 2] Tryz.func144 fun hl=>?_
 refine xg0 ?_
 refine zaa (zfl n xs) ?_
 refine xg0 ?_
 have hno:puB n xs = false->chB n xs = false:=fun h=>by unfold chB;rw [h];rfl
 refine ⟨fun hp=>⟨fun h0=>?_,fun h0=>?_⟩,fun hp=>by rw [hno (by simpa using hp)]⟩
 ·unfold chB;rw [decide_eq_false (show ¬ 0 < xs.length by have:=beq_iff_eq.1 h0;omega),Bool.and_false];rfl
 have hp:puB n xs = true:=by simpa using hp
 have hpos:0 < xs.length:=Nat.pos_of_ne_zero fun e=>by rw [e] at h0;cases h0
 obtain ⟨hcx,hpp⟩:=zGy hp
 have hok:=zcb hcx
 have hxl:=zeo hcx
 have hx0:=hok _ (zaj 0 hpos)
 have hB:chB n xs = decide ((chO xs (xs.length + 1) 0 [xs.getD 0 0]).length = xs.length):=by
  unfold chB;rw [hp,decide_eq_true hpos,Bool.true_and,Bool.true_and]
 have hs0:zEL xs [xs.getD 0 0]:=⟨sp,fun x hx=>by rw [List.mem_singleton.1 hx];exact zaj 0 hpos⟩
 have hiL:iL [xs.getD 0 0] = [int (xs.getD 0 0)]:=rfl
 refine ⟨om,hpos,?_⟩
 refine zag (fun (za:Nat × Nat × List Int) s=>match za with | (k,v,L)=>(s.sl 1 = .ref 1 1 0/\s.rw 1 = ⟨1,.box 27 [int n,zaz xs]⟩/\s.sl 3 = .own 19 v/\s.rw 19 = ⟨v,.sli 3 1 false (iL L)⟩/\s.sl 4 = int k)/\(k <= L.length/\zEL xs L/\chO xs (xs.length + 1 - k) k L = chO xs (xs.length + 1) 0 [xs.getD 0 0])) (fun (k,v,L)=>xs.length + 1 - k) ((0,1,[xs.getD 0 0])) ⟨(xc1 hiL),⟨Nat.zero_le _,hs0,rfl⟩⟩ ?_
 intro (k,v,L) sa ⟨Ha,hIa⟩
 obtain ⟨hk,hsub,hch⟩:=hIa
 have hLl:=zkz hsub
 refine xg1 Ha ?_
 refine ⟨fun h1=>?_,fun h1=>?_⟩
 ·have hr:=hok _ (hsub.2 _ (zaj 0 h1))
  rw [show xs.length + 1 - k = (xs.length + 1 - (k + 1)) + 1 by omega,chO,if_pos h1] at hch
  have hJ:=fun j (hj:j <= xs.length)=>zGx (r:=L.getD k 0) hsub j hj
  have hJs:∀ j,chJ xs (L.getD k 0) L (j + 1) = if (!decide (xs.getD j 0 ∈ chJ xs (L.getD k 0) L j) && stC (L.getD k 0) (xs.getD j 0)) = true then chJ xs (L.getD k 0) L j ++ [xs.getD j 0] else chJ xs (L.getD k 0) L j:=fun j=>rfl
  have hJ0:chJ xs (L.getD k 0) L 0 = L:=rfl
  have hrm:=hsub.2 _ (zaj 0 h1)
  generalize hrr:L.getD k 0 = r at *
  refine zag (fun (zb:Nat × Nat) s=>match zb with | (j,u)=>(s.sl 1 = .ref 1 1 0/\s.rw 1 = ⟨1,.box 27 [int n,zaz xs]⟩/\s.sl 3 = .own 19 u/\s.rw 19 = ⟨u,.sli 3 1 false (iL (chJ xs r L j))⟩/\s.sl 4 = int k/\s.sl 5 = int j)/\(j <= xs.length)) (fun (j,u)=>xs.length - j) ((0,v)) ⟨(xc2 Ha hJ0),Nat.zero_le _⟩ ?_
  intro (j,u) sb ⟨Hb,hIb⟩
  obtain ⟨j1,j2,j3⟩:=hJ j hIb
  have hj3:=j3 k h1
  rw [hrr] at hj3
  have hml:=zkz j1
  have hJj:=hJs j
  generalize hM:chJ xs r L j = M at *
  refine xg1 Hb ?_
  refine ⟨fun h2=>?_,fun h2=>?_⟩
  ·have hxj:=hok _ (zaj 0 h2)
   have hiM:iL M ++ [int (xs.getD j 0)] = iL (M ++ [xs.getD j 0]):=by simp [iL]
   generalize hx:xs.getD j 0 = x at *
   have han:zdQ .i64 r x = ((r.toNat &&& x.toNat:Nat):Int):=by
    rw [<- za1 om om];congr 1 <;> omega
   have hal:r.toNat &&& x.toNat < 64:=Nat.lt_of_le_of_lt Nat.and_le_left om
   have hpl:=zcg (s:=r.toNat) om
   have hw1:IntKind.i64.wrap ((zar r.toNat:Int) - 1) = (zar r.toNat:Int) - 1:=zai om om
   have hst:(((zar (r.toNat &&& x.toNat):Nat):Int) == (zar r.toNat:Int) - 1) = stC r x:=by
    unfold stC;rw [Bool.eq_iff_iff,beq_iff_eq,decide_eq_true_iff]
   refine ⟨kr,h2,h2,zaa (zel _ _) ?_⟩
   refine xg4 Hb hj3 hx han ?_
   refine ⟨fun h3=>⟨om,om,h2,h2,zaa (zaM _ om) ?_⟩,fun h3=>?_⟩
   ·have h3:decide (x ∈ M) = false:=by simpa using h3
    refine xg4 Hb hj3 hx han ?_
    refine ⟨om,om,zaa (zct hr.1 om) ?_⟩
    refine xg6 Hb hj3 hx han hw1 hst ?_
    rw [h3,Bool.not_false,Bool.true_and] at hJj
    refine ⟨fun h4=>?_,fun h4=>?_⟩
    ·rw [if_pos h4] at hJj
     exact ⟨h2,h2,om,zab ((j + 1,u + 1)) ⟨(xc6 Hb Hb hx hJj hiM (zac h2 om)),by dsimp only;omega⟩⟩
    ·rw [if_neg (by rw [h4];decide)] at hJj
     exact zab ((j + 1,u)) ⟨(xc4 Hb Hb hJj (zac h2 om)),by dsimp only;omega⟩
   ·have h3:decide (x ∈ M) = true:=by simpa using h3
    rw [h3,Bool.not_true,Bool.false_and,if_neg (by decide)] at hJj
    exact zab ((j + 1,u)) ⟨(xc4 Hb Hb hJj (zac h2 om)),by dsimp only;omega⟩
  ·have hj:j = xs.length:=om
   have hch:chO xs (xs.length + 1 - (k + 1)) (k + 1) M = chO xs (xs.length + 1) 0 [xs.getD 0 0]:=by rw [<- hM,hj];exact hch
   exact zab ((k + 1,u,M)) ⟨(xc3 Ha Hb (zac (show k < 64 by omega) om)),⟨by dsimp only;omega,j1,hch⟩⟩
 ·rw [zz6 xs om] at hch
  rw [hB,<- hch,Bool.eq_iff_iff,decide_eq_true_iff,beq_iff_eq]
  omega
def usO:List Int->Nat->Nat
 | xs,0=>0
 | xs,k + 1=>usO xs k ||| (xs.getD k 0).toNat
theorem zIf (xs:List Int) (i:Nat):∀ k,k <= xs.length->(usO xs k).testBit i = (xs.take k).any fun x=>x.toNat.testBit i:=by
 intro k
 induction k with
 | zero=>intro _;simp [usO]
 | succ k ih =>
   intro h
   rw [usO,Nat.testBit_or,ih om,zas 0 om,List.any_append];simp
theorem zGv {xs:List Int} (h:okS xs):∀ k,k <= xs.length->usO xs k < 64:=by
 intro k
 induction k with
 | zero=>intro _;simp [usO]
 | succ k ih =>
   intro hk
   have:=h _ (zaj 0 (show k < xs.length by omega))
   exact Nat.or_lt_two_pow (n:=6) (ih om) om
theorem zIg (x p:Nat):(x &&& 2 ^ p == 2 ^ p) = x.testBit p:=by
 rw [Bool.eq_iff_iff,beq_iff_eq]
 refine ⟨fun h=>?_,fun h=>Nat.eq_of_testBit_eq fun i=>?_⟩
 ·have e:(x &&& 2 ^ p).testBit p = true:=by rw [h,Nat.testBit_two_pow_self]
  rw [Nat.testBit_and,Bool.and_eq_true] at e
  exact e.1
 ·rw [Nat.testBit_and]
  by_cases e:p = i
  ·subst e;rw [h];simp
  ·rw [Nat.testBit_two_pow_of_ne e,Bool.and_false]
theorem zIh (xs:List Int) (p:Nat):(usO xs xs.length).testBit p = zah xs (2 ^ p):=by
 rw [zIf xs p _ (Nat.le_refl _),List.take_length]
 unfold zah
 congr 1
 funext x
 exact (zIg _ _).symm
theorem ziZ (n:Int) (xs:List Int) (h:zaC n xs = true):AC Tryz.prog 158 [.ag [int n,zaz xs]] (.im (int (usO xs xs.length:Nat))):=by
 refine xac [.tmp 2] Tryz.func158 fun hl=>?_
 have hok:=zcb h
 have hxl:=zeo h
 refine xg0 ?_
 refine zaa (zao n xs) ?_
 have hz:usO xs 0 = 0:=rfl
 refine xg1 h ?_
 refine zag (fun (k:Nat) s=>(s.sl 1 = .ref 1 1 0/\s.rw 1 = ⟨1,.box 27 [int n,zaz xs]⟩/\s.sl 3 = int (usO xs k:Nat)/\s.sl 10 = zaz xs/\s.sl 11 = int xs.length/\s.sl 12 = int k)/\(k <= xs.length)) (fun k=>xs.length - k) (0) ⟨(xc1 hz),Nat.zero_le _⟩ ?_
 intro k sa ⟨Ha,hIa⟩
 refine xg1 Ha ?_
 refine ⟨fun h1=>⟨h1,h1,?_⟩,fun h1=>?_⟩
 ·have hx:=hok _ (zaj 0 h1)
  have hu:=zGv hok k om
  have hor:ior .i64 (usO xs k:Nat) (xs.getD k 0) = ((usO xs (k + 1):Nat):Int):=by
   rw [show xs.getD k 0 = (((xs.getD k 0).toNat:Nat):Int) by omega,zmO om om];rfl
  exact zab (k + 1) ⟨(xc3 Ha hor (zac h1 om)),om⟩
 ·rw [show k = xs.length by omega]
theorem zpK (m:Nat) (xs:List Int) (p:Nat) (h:zaC (m:Int) xs = true) (hp:p < m):AC Tryz.prog 159 [.ag [int m,zaz xs],int (2 ^ p:Nat)] (.tup [.ag [.im (int m),.fr 3 1 (iL (lkX xs p))],.im (bool true)]):=by
 refine xac [.cell 4 27,.tmp 5] Tryz.func159 fun hl=>?_
 obtain ⟨h1,h6,_⟩:=zaK.1 h
 have hb:=p64 (show p < 6 by omega)
 have hpm:2 ^ p < 2 ^ m:=Nat.pow_lt_pow_right (by decide) hp
 have hin:zcI m (2 ^ p:Nat) = true:=by
  unfold zcI;rw [decide_eq_true_iff,zgi];exact ⟨om,h6,Int.natCast_nonneg _,Int.ofNat_lt.2 hpm⟩
 refine xg0 ?_
 refine zaa (zao m xs) ?_
 refine xg1 h ?_
 refine zaa (zcc m _) ?_
 refine xg2 h hin ?_
 refine ⟨kr,zaa (zaT m xs (zcb h)) ?_⟩
 refine xg0 ?_
 refine zaa (zdM (zah xs) _ hb) ?_
 rw [zIj h om]
 refine xg0 ?_
 refine zaa (zdB m _ (zAn _)) ?_
 rw [zvL (zlh h om)]
 refine xg0 ?_
 kernel_rfl
theorem zlc (n:Int) (xs:List Int) (p:Int) (h:zaC n xs = true) (hpos:0 < xs.length) (hp:isP p = true):AC Tryz.prog 41 [.ag [int n,zaz xs],int p] (.fr 3 1 (iL (zdD (zah xs) p))):=by
 refine xac [.tmp 4] Tryz.func41 fun hl=>?_
 have h0:((xs.length:Int) == 0) = false:=by rw [beq_eq_false_iff_ne];omega
 refine xg0 ?_
 refine zaa (zao n xs) ?_
 refine xg2 h h0 ?_
 refine zaa (zb2 p) ?_
 refine xg1 hp ?_
 refine zaa (zaT n xs (zcb h)) ?_
 refine xg0 ?_
 refine zaa (zhg _ p hp) ?_
 exact xd0
noncomputable def lnB (n:Int) (xs:List Int) (p:Nat):Bool:=chB n (lkX xs p) && znr n (lkX xs p)
noncomputable def zky (n:Int) (xs:List Int):Bool:=decide (zdC n xs = 2) && (znr n xs && (chB n xs && (List.range 6).all fun p=>!zah xs (2 ^ p) || lnB n xs p))
theorem zz5 {q:Nat->Bool} {l:List Nat} {p:Nat} (hp:p ∈ l) (h:q p = false):l.all q = false:=by
 rw [List.all_eq_false];exact ⟨p,hp,by rw [h];decide⟩
theorem zfs (m:Nat) (xs:List Int) (h:zaC (m:Int) xs = true):AC Tryz.prog 100 [.ag [int m,zaz xs]] (.im (bool (zky m xs))):=by
 refine xac [.tmp 2] Tryz.func100 fun hl=>?_
 obtain ⟨h1,h6,_⟩:=zaK.1 h
 have hok:=zcb h
 have hxl:=zeo h
 refine xg0 ?_
 refine zaa (zdp m xs) ?_
 refine xg0 ?_
 refine ⟨fun d1=>zaa (zd7 m xs om) ?_,fun d1=>by unfold zky;rw [decide_eq_false (bne_iff_ne.1 d1)];rfl⟩
 have hs1:zky m xs = (znr m xs && (chB m xs && (List.range 6).all fun p=>!zah xs (2 ^ p) || lnB m xs p)):=by
  unfold zky;rw [decide_eq_true (show zdC m xs = 2 by simpa using d1),Bool.true_and]
 refine xg0 ?_
 refine ⟨fun d2=>zaa (zfu m xs) ?_,fun d2=>by rw [hs1,show znr m xs = false by simpa using d2];rfl⟩
 have hs2:zky m xs = (chB m xs && (List.range 6).all fun p=>!zah xs (2 ^ p) || lnB m xs p):=by
  rw [hs1,show znr m xs = true by simpa using d2,Bool.true_and]
 refine xg0 ?_
 refine ⟨fun d3=>by rw [hs2,show chB m xs = false by simpa using d3];rfl,fun d3=>zaa (ziZ m xs h) ?_⟩
 have hs3:zky m xs = (List.range 6).all fun p=>!zah xs (2 ^ p) || lnB m xs p:=by
  rw [hs2,show chB m xs = true by simpa using d3,Bool.true_and]
 have hu64:=zGv hok xs.length (Nat.le_refl _)
 have hmem:∀ p,p ∈ znY (usO xs xs.length) 6 ↔ p < 6/\zah xs (2 ^ p) = true:=fun p=>by
  unfold znY;rw [List.mem_filter,List.mem_range,zIh]
 have hpm:∀ p,p < 6->zah xs (2 ^ p) = true->p < m:=fun p hp hf=>by
  have:=(zjy h).2 _ (p64 hp) hf
  rw [Int.toNat_natCast] at this
  exact (Nat.pow_lt_pow_iff_right (by decide)).1 this
 refine xg0 ?_
 refine zaa (zfH _ hu64) ?_
 have hpl:=zlb (usO xs xs.length) 6
 have hol:=zad (znY (usO xs xs.length) 6)
 generalize znY (usO xs xs.length) 6 = L at *
 refine xg1 hol ?_
 refine zag (fun (j:Nat) s=>(s.sl 1 = .ref 1 1 0/\s.rw 1 = ⟨1,.box 27 [int m,zaz xs]⟩/\s.sl 22 = .own 22 1/\s.rw 22 = ⟨1,.sli 3 1 false (iL (ofN L))⟩/\s.sl 23 = int L.length/\s.sl 24 = int j)/\(j <= L.length/\∀ t,t < j->lnB m xs (L.getD t 0) = true)) (fun j=>L.length - j) (0) ⟨(xc1 hol),⟨Nat.zero_le _,fun t ht=>absurd ht (Nat.not_lt_zero t)⟩⟩ ?_
 intro j sa ⟨Ha,hIa⟩
 obtain ⟨hj,hall⟩:=hIa
 refine xg2 Ha hol ?_
 refine ⟨fun k1=>⟨k1,k1,?_⟩,fun k1=>?_⟩
 ·obtain ⟨hp6,hf⟩:=(hmem _).1 (zaj 0 k1)
  have hpm':=hpm _ hp6 hf
  have hsn:∀ t,t < j + 1->lnB m xs (L.getD j 0) = true->lnB m xs (L.getD t 0) = true:=fun t ht hb=>by
   rcases Nat.lt_succ_iff_lt_or_eq.1 ht with ht | rfl
   ·exact hall t ht
   ·exact hb
  have hfin:lnB m xs (L.getD j 0) = false->zky m xs = false:=fun hb=>by
   rw [hs3];exact zz5 (List.mem_range.2 hp6) (by rw [hb,hf];rfl)
  rw [zay k1]
  generalize L.getD j 0 = p at *
  have hun:IntKind.u64.wrap (p:Int) = (p:Int):=zaI om
  have hsh:zg1 .i64 1 (p:Int) = ((2 ^ p:Nat):Int):=zaW om
  refine xg3 Ha hun hsh ?_
  refine zaa (zpK m xs p h hpm') ?_
  have hll:=zeo (zlh h hp6)
  unfold lnB at hsn hfin
  generalize lkX xs p = Y at *
  refine xg1 Ha ?_
  refine zaa (zfu m Y) ?_
  refine xg1 Ha ?_
  refine ⟨fun e1=>zaa (zd7 m Y om) ?_,fun e1=>hfin (by rw [show chB m Y = false by simpa using e1];rfl)⟩
  refine xg1 Ha ?_
  refine ⟨fun e2=>hfin (by rw [show znr m Y = false by simpa using e2,Bool.and_false]),fun e2=>?_⟩
  have e3:(chB m Y && znr m Y) = true:=by rw [show chB m Y = true by simpa using e1,show znr m Y = true by simpa using e2];rfl
  exact zab (j + 1) ⟨(xc3 Ha hol (zac k1 om)),⟨om,fun t ht=>hsn t ht e3⟩⟩
 ·rw [hs3,List.all_eq_true.2 fun p hp=>?_]
  have hp6:=List.mem_range.1 hp
  cases hf:zah xs (2 ^ p) with
  | false=>rfl
  | true =>
    obtain ⟨t,ht,e⟩:=zaV 0 ((hmem p).2 ⟨hp6,hf⟩)
    have:=hall t om
    rw [e] at this
    rw [this];rfl
theorem zft (m:Nat) (xs:List Int) (h:zaC (m:Int) xs = true):AC Tryz.prog 89 [.ag [int m,zaz xs]] (.im (bool (zky m xs))):=by
 refine xac [.tmp 2] Tryz.func89 fun hl=>?_
 obtain ⟨h1,h6,_⟩:=zaK.1 h
 have hok:=zcb h
 have hxl:=zeo h
 refine xg0 ?_
 refine zaa (zbQ m xs) ?_
 refine xg0 ?_
 refine ⟨fun d1=>zaa (zd8 m xs om) ?_,fun d1=>by unfold zky;rw [decide_eq_false (bne_iff_ne.1 d1)];rfl⟩
 have hs1:zky m xs = (znr m xs && (chB m xs && (List.range 6).all fun p=>!zah xs (2 ^ p) || lnB m xs p)):=by
  unfold zky;rw [decide_eq_true (show zdC m xs = 2 by simpa using d1),Bool.true_and]
 refine xg0 ?_
 refine ⟨fun d2=>zaa (zfv m xs) ?_,fun d2=>by rw [hs1,show znr m xs = false by simpa using d2];rfl⟩
 have hs2:zky m xs = (chB m xs && (List.range 6).all fun p=>!zah xs (2 ^ p) || lnB m xs p):=by
  rw [hs1,show znr m xs = true by simpa using d2,Bool.true_and]
 refine xg0 ?_
 refine ⟨fun d3=>by rw [hs2,show chB m xs = false by simpa using d3];rfl,fun d3=>?_⟩
 have hs3:zky m xs = (List.range 6).all fun p=>!zah xs (2 ^ p) || lnB m xs p:=by
  rw [hs2,show chB m xs = true by simpa using d3,Bool.true_and]
 have hpm:∀ p,p < 6->zah xs (2 ^ p) = true->p < m:=fun p hp hf=>by
  have:=(zjy h).2 _ (p64 hp) hf
  rw [Int.toNat_natCast] at this
  exact (Nat.pow_lt_pow_iff_right (by decide)).1 this
 refine zag (fun (j:Nat) s=>(s.sl 1 = .ref 1 1 0/\s.rw 1 = ⟨1,.box 27 [int m,zaz xs]⟩/\s.sl 3 = int j)/\(j <= m/\∀ t,t < j->(!zah xs (2 ^ t) || lnB m xs t) = true)) (fun j=>m - j) (0) ⟨xc0,⟨Nat.zero_le _,fun t ht=>absurd ht (Nat.not_lt_zero t)⟩⟩ ?_
 intro j sa ⟨Ha,hIa⟩
 obtain ⟨hj,hall⟩:=hIa
 have hun:IntKind.u64.wrap (j:Int) = (j:Int):=zaI om
 refine xg2 Ha hun ?_
 refine ⟨fun k1=>?_,fun k1=>?_⟩
 ·have hj6:j < 6:=om
  have hb:=p64 hj6
  have hsh:zg1 .i64 1 (j:Int) = ((2 ^ j:Nat):Int):=zaW om
  have hsn:(!zah xs (2 ^ j) || lnB m xs j) = true->∀ t,t < j + 1->(!zah xs (2 ^ t) || lnB m xs t) = true:=fun hb t ht=>by
   rcases Nat.lt_succ_iff_lt_or_eq.1 ht with ht | rfl
   ·exact hall t ht
   ·exact hb
  have hfin:(!zah xs (2 ^ j) || lnB m xs j) = false->zky m xs = false:=fun hb=>by
   rw [hs3];exact zz5 (List.mem_range.2 hj6) hb
  rw [hsh]
  refine zaa (zdv m xs _ hok hb) ?_
  refine xg3 Ha hun hsh ?_
  refine ⟨fun f1=>?_,fun f1=>?_⟩
  ·exact zab (j + 1) ⟨(xc2 Ha (zac k1 om)),⟨om,hsn (by rw [f1];rfl)⟩⟩
  have f1:zah xs (2 ^ j) = true:=by simpa using f1
  rw [f1,Bool.not_true,Bool.false_or] at hsn hfin
  refine zaa (zdN m xs _ hb hok om) ?_
  have hll:=zeo (zlh h hj6)
  unfold lnB at hsn hfin
  rw [show ofN (zcK (inF (zna xs (2 ^ j))) true) = lkX xs j from rfl]
  generalize lkX xs j = Y at *
  refine xg1 Ha ?_
  refine zaa (zfv m Y) ?_
  refine xg1 Ha ?_
  refine ⟨fun e1=>zaa (zd8 m Y om) ?_,fun e1=>hfin (by rw [show chB m Y = false by simpa using e1];rfl)⟩
  refine xg1 Ha ?_
  refine ⟨fun e2=>hfin (by rw [show znr m Y = false by simpa using e2,Bool.and_false]),fun e2=>?_⟩
  have e3:(chB m Y && znr m Y) = true:=by rw [show chB m Y = true by simpa using e1,show znr m Y = true by simpa using e2];rfl
  exact zab (j + 1) ⟨(xc2 Ha (zac k1 om)),⟨om,hsn e3⟩⟩
 ·rw [hs3,List.all_eq_true.2 fun p hp=>?_]
  have hp6:=List.mem_range.1 hp
  cases hf:zah xs (2 ^ p) with
  | false=>rfl
  | true =>
    have:=hall p (by have:=hpm p hp6 hf;omega)
    rwa [hf] at this
open Nat (reduceEqDiff reduceMod reduceAdd reduceLT reduceLeDiff reduceSub reduceMul)
theorem zJ2 {u:Nat} (h:u ≠ 0):Go.Lib.decDigits u = (if u / 10 = 0 then [] else Go.Lib.decDigits (u / 10)) ++ [UInt8.ofNat (48 + u % 10)]:=by
 rw [Go.Lib.decDigits]
 by_cases h10:u < 10
 ·rw [dif_pos h10,if_pos om,Nat.mod_eq_of_lt h10];rfl
 ·rw [dif_neg h10,if_neg om]
theorem zEt:∀ (k u:Nat),u < 10 ^ (k + 1)->(Go.Lib.decDigits u).length <= k + 1:=by
 intro k
 induction k with
 | zero=>intro u h;rw [Go.Lib.decDigits,dif_pos om];simp
 | succ k ih =>
   intro u h
   rw [Go.Lib.decDigits]
   by_cases h10:u < 10
   ·rw [dif_pos h10];simp
   ·rw [dif_neg h10,List.length_append]
    have:u / 10 < 10 ^ (k + 1):=by rw [Nat.pow_succ] at h;omega
    have:=ih _ this
    simp;omega
def zbx (n:Int):ByteArray:=⟨(Go.Lib.itoa n).toArray⟩
theorem zb7 {n:Int} (h0:-9223372036854775808 <= n) (h1:n <= 9223372036854775807):(zbx n).size <= 20:=by
 have e:(zbx n).size = (Go.Lib.itoa n).length:=by simp [zbx,ByteArray.size]
 rw [e,Go.Lib.itoa]
 split
 ·have:=zEt 18 n.natAbs om
  simp;omega
 ·have:=zEt 18 n.toNat om
  omega
def dgB (d:Nat):ByteArray:=⟨#[UInt8.ofNat (48 + d)]⟩
theorem zIa {d:Nat} (h:d < 10) {x:Int} (hx:x = (d:Int)):([IntKind.u8.wrap (IntKind.i64.wrap (48 + x))].foldl (fun r n=>r.push (UInt8.ofNat n.toNat)) ByteArray.empty) = dgB d:=by
 subst hx
 have:∀ m:Fin 10,([IntKind.u8.wrap (IntKind.i64.wrap (48 + (m.val:Nat)))].foldl (fun r n=>r.push (UInt8.ofNat n.toNat)) ByteArray.empty) = dgB m.val:=by decide +kernel
 exact this ⟨d,h⟩
theorem zbc {n:Int} (h0:-9223372036854775808 <= n) (h1:n <= 9223372036854775807):AC Tryz.prog 26 [int n] (.im (str (zbx n))):=by
 refine xac [.tmp 2] Tryz.func26 fun hl=>?_
 by_cases hz:n = 0
 ·subst hz
  simp -dsimp only [↓gp,gq,simprocAttr,gT,show ((0:Int) == 0) = true from rfl]
  decide +kernel
 have e0:(n == 0) = false:=beq_eq_false_iff_ne.2 hz
 simp -dsimp only [↓gp,gq,simprocAttr,gT,e0]
 refine zag (fun (za:Int × ByteArray) s=>match za with | (m,o)=>s.sl 0 = int m/\s.sl 3 = bool (decide (n < 0))/\s.sl 4 = str o/\((if m = 0 then [] else Go.Lib.decDigits m.natAbs) ++ o.data.toList = Go.Lib.decDigits n.natAbs/\(n < 0->m <= 0)/\(0 <= n->0 <= m)/\m.natAbs <= 9223372036854775808/\o.size <= 19)) (fun (m,o)=>m.natAbs) ((n,⟨#[]⟩)) (by refine ⟨?_,?_,?_,⟨by rw [if_neg hz];simp,fun h=>Int.le_of_lt h,fun h=>h,om,by decide⟩⟩ <;> (first | (simp -dsimp only [gr,simprocAttr];first | done | rfl | (simp;done)) | assumption | rfl)) ?_
 intro (m,o) sa ⟨h0a,h3a,h4a,hIa⟩
 obtain ⟨hd,hs1,hs2,hbd,hsz⟩:=hIa
 by_cases hm:m = 0
 ·subst hm
  rw [if_pos rfl,List.nil_append] at hd
  simp -dsimp only [↓gp,gq,simprocAttr,gT,h0a,h3a,h4a,show ((0:Int) != 0) = false from rfl]
  have ho:o = ⟨(Go.Lib.decDigits n.natAbs).toArray⟩:=by
   rw [<- hd]
  subst ho
  unfold zbx Go.Lib.itoa
  refine ⟨fun h=>⟨?_,?_⟩,fun h=>?_⟩
  ·show 1 + _ <= _
   omega
  ·rw [if_pos h]
   refine ByteArray.ext ?_
   simp
  ·rw [if_neg h,show n.toNat = n.natAbs by omega]
 ·have hne:(m != 0) = true:=by rw [bne_iff_ne];exact hm
  have hst:=zJ2 (u:=m.natAbs) om
  rw [if_neg hm,hst] at hd
  have hr:m.tmod 10 = if m < 0 then -((m.natAbs % 10:Nat):Int) else ((m.natAbs % 10:Nat):Int):=by
   split
   ·rename_i h
    obtain ⟨a,rfl⟩:∃ a:Nat,m = -(a:Int):=⟨m.natAbs,om⟩
    rw [Int.neg_tmod,Int.natAbs_neg,Int.natAbs_natCast];rfl
   ·rename_i h
    obtain ⟨a,rfl⟩:∃ a:Nat,m = (a:Int):=⟨m.natAbs,om⟩
    rw [Int.natAbs_natCast];rfl
  have hq:m.tdiv 10 = if m < 0 then -((m.natAbs / 10:Nat):Int) else ((m.natAbs / 10:Nat):Int):=by
   split
   ·rename_i h
    obtain ⟨a,rfl⟩:∃ a:Nat,m = -(a:Int):=⟨m.natAbs,om⟩
    rw [Int.neg_tdiv,Int.natAbs_neg,Int.natAbs_natCast];rfl
   ·rename_i h
    obtain ⟨a,rfl⟩:∃ a:Nat,m = (a:Int):=⟨m.natAbs,om⟩
    rw [Int.natAbs_natCast];rfl
  have hw10:IntKind.i64.wrap (m.tdiv 10) = m.tdiv 10:=by rw [hq];exact zai (by split <;> omega) (by split <;> omega)
  simp (maxSteps:=9^7) -dsimp only [↓gp,gq,reduceCtorEq,reduceEqDiff,reduceLT,reduceLeDiff,reduceAdd,reduceMul,reduceSub,Nat.reduceBEq,Int.reduceToNat,Int.reduceLE,Int.reduceLT,Int.reduceNeg,reduceMod,gT,h0a,h3a,h4a,ziI,ztU,zDz,hne,hw10]
  have hd9:=Nat.mod_lt m.natAbs (show 0 < 10 by decide)
  generalize hdd:m.natAbs % 10 = d at *
  have hlen:=congrArg List.length hd
  have hnl:=zEt 18 n.natAbs om
  have ho:o.data.toList.length = o.size:=Array.length_toList
  rw [List.length_append,List.length_append,List.length_singleton,ho] at hlen
  have hds:(dgB d ++ o).size = 1 + o.size:=by rw [ByteArray.size_append];rfl
  have hd1:(dgB d).size = 1:=rfl
  have hnew:(if m.tdiv 10 = 0 then [] else Go.Lib.decDigits (m.tdiv 10).natAbs) ++ (dgB d ++ o).data.toList = Go.Lib.decDigits n.natAbs:=by
   rw [<- hd]
   have e1:(m.tdiv 10).natAbs = m.natAbs / 10:=by rw [hq];split <;> omega
   have e2:(m.tdiv 10 = 0) ↔ (m.natAbs / 10 = 0):=by rw [<- e1];omega
   have e3:(dgB d ++ o).data.toList = [UInt8.ofNat (48 + d)] ++ o.data.toList:=by simp [dgB]
   rw [e1,e3,<- List.append_assoc]
   by_cases h:m.natAbs / 10 = 0
   ·rw [if_pos h,if_pos (e2.2 h)]
   ·rw [if_neg h,if_neg (fun h2=>h (e2.1 h2))]
  have hdec:(m.tdiv 10).natAbs < m.natAbs:=by rw [hq];split <;> omega
  have hsg:(n < 0->m.tdiv 10 <= 0)/\(0 <= n->0 <= m.tdiv 10)/\(m.tdiv 10).natAbs <= 9223372036854775808:=by
   rw [hq]
   refine ⟨fun h=>?_,fun h=>?_,?_⟩ <;> split <;> omega
  refine ⟨by decide,fun hn=>?_,fun hn=>?_⟩
  ·have hk:=zIa (d:=d) hd9 (x:=IntKind.i64.wrap (0 - m.tmod 10)) (by rw [hr,zai (by split <;> omega) (by split <;> omega)];split <;> omega)
   rw [hk]
   refine ⟨om,by decide,zab (m.tdiv 10,dgB d ++ o) ⟨by simp -dsimp only [gr,simprocAttr,hw10],by simp -dsimp only [gr,simprocAttr,h3a],by simp -dsimp only [gr,simprocAttr,hk],hnew,hsg.1,hsg.2.1,hsg.2.2,by show (dgB d ++ o).size <= 19;omega⟩ hdec⟩
  ·have hk:=zIa (d:=d) hd9 (x:=m.tmod 10) (by rw [hr] at hn ⊢;split at hn <;> split <;> omega)
   rw [hk]
   refine ⟨om,by decide,zab (m.tdiv 10,dgB d ++ o) ⟨by simp -dsimp only [gr,simprocAttr,hw10],by simp -dsimp only [gr,simprocAttr,h3a],by simp -dsimp only [gr,simprocAttr,hk],hnew,hsg.1,hsg.2.1,hsg.2.2,by show (dgB d ++ o).size <= 19;omega⟩ hdec⟩
end Go.Proofs.YtkledeboboplmaaGreatDoor
namespace Go.Proofs.YtkledeboboplmaaGreatDoor
open Go.Abs Go.Shelf
set_option linter.unusedSimpArgs false
set_option linter.unusedVariables false
def zM8:Go.Shelf.Ren where
 f:=fun x=>match x with | 171=>92 | 243=>147 | 246=>186 | 283=>209 | 284=>210 | 285=>211 | 286=>212 | 129=>225 | 317=>228 | 318=>229 | 319=>230 | 320=>231 | 337=>239 | 338=>240 | n=>n
 t:=fun x=>match x with | 3=>3 | 9=>9 | 2=>2 | 4=>4 | 171=>153 | 0=>0 | 53=>70 | 37=>31 | 5=>5 | 173=>155 | 212=>164 | 51=>145 | 20=>20 | 213=>165 | 46=>96 | 232=>175 | 233=>176 | n=>n
 g:=fun x=>match x with | 17=>1 | 18=>2 | 19=>3 | n=>n
theorem zJ1:LaysM.n171 Tryz.prog zM8 where
 mixed:=mixed
 f129:=(show Tryz.prog.funcs[225]? = some _ from Tryz.func225).trans (congrArg some kr)
 f171:=(show Tryz.prog.funcs[92]? = some _ from Tryz.func92).trans (congrArg some kr)
 f243:=(show Tryz.prog.funcs[147]? = some _ from Tryz.func147).trans (congrArg some kr)
 f246:=(show Tryz.prog.funcs[186]? = some _ from Tryz.func186).trans (congrArg some kr)
 f283:=(show Tryz.prog.funcs[209]? = some _ from Tryz.func209).trans (congrArg some kr)
 f284:=(show Tryz.prog.funcs[210]? = some _ from Tryz.func210).trans (congrArg some kr)
 f285:=(show Tryz.prog.funcs[211]? = some _ from Tryz.func211).trans (congrArg some kr)
 f286:=(show Tryz.prog.funcs[212]? = some _ from Tryz.func212).trans (congrArg some kr)
 f317:=(show Tryz.prog.funcs[228]? = some _ from Tryz.func228).trans (congrArg some kr)
 f318:=(show Tryz.prog.funcs[229]? = some _ from Tryz.func229).trans (congrArg some kr)
 f319:=(show Tryz.prog.funcs[230]? = some _ from Tryz.func230).trans (congrArg some kr)
 f320:=(show Tryz.prog.funcs[231]? = some _ from Tryz.func231).trans (congrArg some kr)
 f337:=(show Tryz.prog.funcs[239]? = some _ from Tryz.func239).trans (congrArg some kr)
 f338:=(show Tryz.prog.funcs[240]? = some _ from Tryz.func240).trans (congrArg some kr)
 t0:=Tryz.underlying0
 a0:=Tryz.isAgg0
 z0:=Tryz.sizeOf0
 v0:=Tryz.zeroValue0
 t2:=Tryz.underlying2
 a2:=Tryz.isAgg2
 z2:=Tryz.sizeOf2
 v2:=Tryz.zeroValue2
 t3:=Tryz.underlying3
 a3:=Tryz.isAgg3
 z3:=Tryz.sizeOf3
 v3:=Tryz.zeroValue3
 t4:=Tryz.underlying4
 a4:=Tryz.isAgg4
 z4:=Tryz.sizeOf4
 v4:=Tryz.zeroValue4
 t5:=Tryz.underlying5
 a5:=Tryz.isAgg5
 z5:=Tryz.sizeOf5
 v5:=Tryz.zeroValue5
 t9:=Tryz.underlying9
 a9:=Tryz.isAgg9
 z9:=Tryz.sizeOf9
 v9:=Tryz.zeroValue9
 t20:=Tryz.underlying20
 a20:=Tryz.isAgg20
 z20:=Tryz.sizeOf20
 v20:=Tryz.zeroValue20
 t37:=Tryz.underlying31
 a37:=Tryz.isAgg31
 z37:=Tryz.sizeOf31
 v37:=Tryz.zeroValue31
 t46:=Tryz.underlying96
 a46:=Tryz.isAgg96
 z46:=Tryz.sizeOf96
 v46:=Tryz.zeroValue96
 t51:=Tryz.underlying145
 a51:=Tryz.isAgg145
 z51:=Tryz.sizeOf145
 v51:=Tryz.zeroValue145
 t53:=Tryz.underlying70
 a53:=Tryz.isAgg70
 z53:=Tryz.sizeOf70
 v53:=Tryz.zeroValue70
 t171:=Tryz.underlying153
 a171:=Tryz.isAgg153
 z171:=Tryz.sizeOf153
 v171:=Tryz.zeroValue153
 t173:=Tryz.underlying155
 a173:=Tryz.isAgg155
 z173:=Tryz.sizeOf155
 v173:=Tryz.zeroValue155
 t212:=Tryz.underlying164
 a212:=Tryz.isAgg164
 z212:=Tryz.sizeOf164
 v212:=Tryz.zeroValue164
 t213:=Tryz.underlying165
 a213:=Tryz.isAgg165
 z213:=Tryz.sizeOf165
 t232:=Tryz.underlying175
 a232:=Tryz.isAgg175
 z232:=Tryz.sizeOf175
 v232:=Tryz.zeroValue175
 t233:=Tryz.underlying176
 a233:=Tryz.isAgg176
 z233:=Tryz.sizeOf176
 v233:=Tryz.zeroValue176
 g17:=kr
 g18:=kr
 g19:=kr
 i0:=kr
 i2:=kr
 i3:=kr
 i4:=kr
 i5:=kr
 i9:=kr
 i20:=kr
 i37:=kr
 i46:=kr
 i51:=kr
 i53:=kr
 i171:=kr
 i173:=kr
 i212:=kr
 i232:=kr
 i233:=kr
 m17:=kr
 m18:=kr
 m19:=kr
theorem zn1 {n:Int} (h0:-9223372036854775808 <= n) (h1:n <= 9223372036854775807):AC Tryz.prog 92 [int n] (.im (str (zbx n))) :=
 zIV zJ1 ⟨_,Tryz.func92,kr,kr⟩ (fun _ h=>h) h0 h1
theorem zbk {n:Int} (h0:-9223372036854775808 <= n) (h1:n <= 9223372036854775807):AC Tryz.prog 36 [int n] (.im (str (zbx n))):=by
 refine xac [.tmp 2] Tryz.func36 fun hl=>?_
 refine xg0 ?_
 refine zaa (zn1 h0 h1) ?_
 exact xd0
end Go.Proofs.YtkledeboboplmaaGreatDoor

/- DERIVED by an AI agent. -/
import Derived.Test.YtkledeboboplmaaGreatDoorB1
import Derived.Test.YtkledeboboplmaaGreatDoorP1
import Derived.Test.YtkledeboboplmaaGreatDoorA12
namespace Go.Proofs.YtkledeboboplmaaGreatDoor
open Go.Abs
set_option linter.unusedSimpArgs false
set_option linter.unusedVariables false
theorem zur (a:Int):AC Tryz.prog 237 [int a] (.im (bool false)):=by
 refine xac [.tmp 2] Tryz.func237 fun _=>?_
 refine xg0 ?_
 simp
theorem zbC (a b c:Int):AC Tryz.prog 81 [int a,int b,int c] (.im (bool (decide (b <= a) && decide (a <= c)))):=by
 refine xac [.tmp 6] Tryz.func81 fun _=>?_
 refine xg0 ?_
 exact ⟨fun h=>by simp [h],fun h=>by simp [h]⟩
open Nat (reduceEqDiff reduceMod reduceAdd reduceLT reduceLeDiff reduceSub reduceMul)
theorem zrh (a b:Int):AC Tryz.prog 138 [int a,int b] (.im (int (max a b))):=by
 refine xac [.tmp 4] Tryz.func138 fun hl=>?_
 refine xg0 ?_
 exact ⟨fun h=>om,fun h=>om⟩
theorem zaM (n:Nat) (h:n < 9223372036854775808):AC Tryz.prog 82 [int n] (.im (int (zar n:Nat))):=by
 refine xac [.tmp 2] Tryz.func82 fun hl=>?_
 simp -dsimp only [↓gp,gq,simprocAttr,gT]
 refine zag (fun (x:Nat × Nat) s=>s.sl 0 = int x.1/\s.sl 3 = int x.2/\x.1 <= n/\x.2 + zar x.1 = zar n) (fun x=>x.1) (n,0) ⟨by simp -dsimp only [gr,simprocAttr],by simp (maxSteps:=9^7) -dsimp only [gr,reduceEqDiff,reduceLT,reduceAdd,reduceMod,Nat.reduceBEq];rfl,sp,sp⟩ ?_
 intro ⟨m,a⟩ s1 ⟨h0,h3,hm,hp⟩
 simp only at h0 h3 hm hp
 have hpl:=zIX n
 simp -dsimp only [↓gp,gq,simprocAttr,gT,h0,h3,zFx (show m < 9223372036854775808 by omega),zx6]
 refine ⟨fun h1=>?_,fun h1=>?_⟩
 ·have hm0:m ≠ 0:=om
  rw [zkW hm0] at hp
  refine zab (m / 2,a + m % 2) ⟨by simp -dsimp only [gr,simprocAttr],?_,by simp only;omega,by simp only;omega⟩ (by simp only;omega)
  simp -dsimp only [gr,simprocAttr]
  rw [zai om om]
  rfl
 ·have:m = 0:=om
  subst this
  rw [zcx] at hp
  omega
theorem zct {s:Int} (h0:0 <= s) (h:s < 9223372036854775808):AC Tryz.prog 82 [int s] (.im (int (zar s.toNat:Nat))):=by
 obtain ⟨m,rfl⟩:=Int.eq_ofNat_of_zero_le h0
 exact zaM m om
theorem zhX (n:Nat) (h:n < 64):AC Tryz.prog 199 [u64 n] (.im (int (zar n:Nat))):=by
 refine xac [.tmp 2] Tryz.func199 fun hl=>?_
 refine xg0 ?_
 rw [zmF h]
 clear hl
 obtain ⟨m,rfl⟩:∃ m:Fin 64,m.val = n:=⟨⟨n,h⟩,rfl⟩
 clear h
 revert m
 decide +kernel
theorem zkf (n:Nat) (h:n < 64):AC Tryz.prog 176 [u64 n] (.im (int (zar n:Nat))):=by
 refine xac [.tmp 2] Tryz.func176 fun hl=>?_
 refine xg0 ?_
 refine zaa (zhX n h) ?_
 exact xd0
theorem zcc (n s:Int):AC Tryz.prog 145 [int n,int s] (.im (bool (zcI n s))):=by
 refine xac [.tmp 4] Tryz.func145 fun hl=>?_
 simp -dsimp only [↓gp,gq,simprocAttr,gT,zcI]
 refine ⟨fun h0=>⟨fun h6=>⟨fun hs=>?_,fun hs=>om⟩,fun h6=>om⟩,fun h0=>om⟩
 obtain ⟨m,rfl⟩:=Int.eq_ofNat_of_zero_le h0
 rw [zmG om,zaW om,zgi]
 exact ⟨om,by simp only [h0,h6,hs,true_and]⟩
theorem zjD (n s:Int):AC Tryz.prog 79 [int n,int s] (.im (bool (zcI n s))):=by
 refine xac [.tmp 4] Tryz.func79 fun hl=>?_
 refine xg0 ?_
 refine zaa (zbC _ _ _) ?_
 refine xg0 ?_
 refine ⟨fun h=>?_,fun h=>?_⟩
 ·simp only [Bool.and_eq_true,decide_eq_true_eq] at h
  obtain ⟨h0,h6⟩:=h
  obtain ⟨m,rfl⟩:=Int.eq_ofNat_of_zero_le h0
  have hp:=zbq (m:=m) om
  have e:zcI (m:Int) s = decide (0 <= s/\s < ((2 ^ m:Nat):Int)):=by
   rw [zcI,zgi]
   simp only [h0,h6,true_and]
  rw [e,zmG om,zaW om]
  generalize (2 ^ m:Nat) = q at hp
  rw [zai om om]
  refine ⟨om,zaa (zbC _ _ _) ?_⟩
  refine xg0 ?_
  rw [<- Bool.decide_and]
  exact decide_eq_decide.2 om
 ·refine decide_eq_false fun hh=>?_
  simp [hh.1,hh.2.1] at h
def zkg (s:Int):Int:=if 0 <= s/\s < 64 then (zar s.toNat:Nat) else -1
theorem zuq (s:Int):zcI 6 s = decide (0 <= s/\s < 64):=by
 simp [zcI]
theorem zaE (s:Int):AC Tryz.prog 127 [int s] (.im (int (zkg s))):=by
 refine xac [.tmp 2] Tryz.func127 fun hl=>?_
 refine xg0 ?_
 refine zaa (zcc _ _) ?_
 refine xg1 @zuq ?_
 refine ⟨fun h=>?_,fun h=>?_⟩
 ·have h:¬ (0 <= s/\s < 64):=by simp at h;omega
  rw [zkg,if_neg h]
 ·have h:0 <= s/\s < 64:=by simpa using h
  obtain ⟨m,rfl⟩:=Int.eq_ofNat_of_zero_le h.1
  rw [zmG om]
  refine zaa (zkf m om) ?_
  refine xg0 ?_
  rw [zkg,if_pos h];rfl
def znC (a b:Int):Bool:=decide (0 <= a/\a < 64) && (decide (0 <= b/\b < 64) && (if zkg a = zkg b then decide (a < b) else decide (zkg a < zkg b)))
theorem zkh (a b:Int):AC Tryz.prog 146 [int a,int b] (.im (bool (znC a b))):=by
 refine xac [.tmp 4] Tryz.func146 fun hl=>?_
 refine xg0 ?_
 refine zaa (zcc _ _) ?_
 refine xg1 @zuq ?_
 unfold znC
 refine ⟨fun h=>zaa (zcc _ _) ?_,fun h=>?_⟩
 ·have ha:decide (0 <= a/\a < 64) = true:=by simpa using h
  refine xg1 @zuq ?_
  rw [ha]
  refine ⟨fun hb=>?_,fun hb=>?_⟩
  ·have hb:decide (0 <= b/\b < 64) = false:=by rwa [Bool.not_eq_true'] at hb
   rw [hb];rfl
  ·have hb:decide (0 <= b/\b < 64) = true:=by simpa using hb
   rw [hb]
   refine zaa (zaE a) ?_
   refine xg0 ?_
   refine zaa (zaE b) ?_
   refine xg0 ?_
   refine ⟨fun hs=>zaa (zaE a) ?_,fun hs=>?_⟩
   ·refine xg0 ?_
    refine zaa (zaE b) ?_
    refine xg0 ?_
    have hs:¬ zkg a = zkg b:=by simpa using hs
    rw [if_neg hs]
   ·have hs:zkg a = zkg b:=by simpa using hs
    rw [if_pos hs]
 ·have ha:decide (0 <= a/\a < 64) = false:=by rwa [Bool.not_eq_true'] at h
  rw [ha];rfl
theorem zE1 (x:Int):0 <= zdQ .i64 x 255/\zdQ .i64 x 255 < 256:=by
 have h2:(BitVec.ofInt 64 (255:Int)).toNat = 255:=by decide
 have e:zdQ .i64 x 255 = IntKind.i64.wrap (((BitVec.ofInt 64 x &&& BitVec.ofInt 64 255).toNat:Nat):Int):=rfl
 have:(BitVec.ofInt 64 x &&& BitVec.ofInt 64 255).toNat <= 255:=by
  rw [BitVec.toNat_and,h2];exact Nat.and_le_right
 rw [e,zai om om]
 omega
abbrev TC:TypeId:=87
def zNo (P:Int->Prop) (rv:RV):Prop:=∃ x,rv = .im (int x)/\P x
def crH (h:Int):Int:=IntKind.i64.wrap (IntKind.i64.wrap (h * 6364136223846793005) + 1442695040888963407)
def zNp (rv:RV):Prop:=∃ b,rv = .im (bool b)
theorem zfX (bs:List Int):zDn Tryz.prog 47 TC bs:=by
 refine xag [.tmp 2] Tryz.func47 fun hl _ s hs hR=>?_
 simp only [zaS,zbe,and_true] at hl
 have hbl:bs.length <= 9223372036854775807:=by
  have:=hl.1
  simpa [kL] using this
 refine xg3 hs hR @znM ?_
 refine zag (fun (za:Nat × Int) s=>match za with | (i,h)=>(s.sl 0 = .sl false 1 (kL .u8 bs)/\s.sl 3 = int h/\s.sl 4 = int i)/\(i <= bs.length)) (fun (i,h)=>bs.length - i) ((0,IntKind.i64.wrap (26583 + (bs.length:Int)))) ⟨(xc1 hs),sp⟩ ?_
 intro (i,h) sa ⟨Ha,hIa⟩
 refine xg1 Ha ?_
 have hw:∀ hk:i < bs.length,IntKind.i64.wrap ((i:Int) + 1) = ((i + 1:Nat):Int):=fun hk=>zac hk hbl
 refine ⟨fun hk=>⟨fun h4=>⟨hk,hk,?_⟩,fun h4=>?_⟩,fun hk=>?_⟩
 ·exact zab ((i + 1,zdQ .i64 (IntKind.i64.wrap (IntKind.i64.wrap (IntKind.i64.wrap (h * 131) + IntKind.i64.wrap (bs.getD i 0)) + 7)) 1073741823)) ⟨(xc2 Ha (hw hk)),by dsimp only;omega⟩
 ·exact ⟨31,_,h,rfl,by simp -dsimp only [gr,simprocAttr];rfl⟩
 ·exact ⟨31,_,h,rfl,by simp -dsimp only [gr,simprocAttr];rfl⟩
def byF (bs:List Int) (i:Nat) (h:Int):Int :=
 if i < bs.length then zdQ .i64 (IntKind.i64.wrap (zdQ .i64 (zIP .i64 (zpk .i64 (crH h) 33) (zpk .i64 (crH h) 45)) 255 + IntKind.i64.wrap (bs.getD i 0))) 255
 else zdQ .i64 (zIP .i64 (zpk .i64 (crH h) 33) (zpk .i64 (crH h) 45)) 255
def nxI (bs:List Int) (i:Nat):Nat:=if i < bs.length then i + 1 else i
theorem zjC (bs:List Int) (i:Nat) (h:Int):0 <= byF bs i h/\byF bs i h < 256:=by
 unfold byF
 split <;> exact zE1 _
set_option maxRecDepth 100000 in
theorem zpU (bs:List Int) (hbs:bs.length <= 9223372036854775806):zqF Tryz.prog 162 TC bs [] fun i h=>(.int .i64 (byF bs i h),nxI bs i,crH h):=by
 intro i h
 refine xag [.tmp 2] Tryz.func162 fun hl _ s hs hR=>?_
 have e0:s.rw 1000000 = ⟨1,.box TC [.sl false 1 (kL .u8 bs),int i,int h]⟩:=by rw [hR];rfl
 have e1:s.rw 1000500 = ⟨0,.dead⟩:=by rw [hR];rfl
 refine xg2 hs e0 ?_
 refine ⟨kr,kr,fun hi=>⟨kr,hi,hi,?_⟩,fun hi=>?_⟩
 ·have hw:IntKind.i64.wrap ((i:Int) + 1) = ((i + 1:Nat):Int):=zac hi om
  rw [hw]
  refine ⟨by simp only [byF,if_pos hi];rfl,?_,by simp -dsimp only [gr,simprocAttr,e1]⟩
  simp -dsimp only [gr,simprocAttr,e0]
  simp only [nxI,if_pos hi]
  rfl
 ·refine ⟨by simp only [byF,if_neg hi];rfl,?_,by simp -dsimp only [gr,simprocAttr,e1]⟩
  simp -dsimp only [gr,simprocAttr,e0]
  simp only [nxI,if_neg hi]
  rfl
def zJ3 (n x:Int):Prop:=0 <= x/\(x < n \/ (n <= 0/\x = 0))
theorem zAr {n x:Int} (hn:0 < n) (hx:0 <= x):zJ3 n (x.tmod n):=by
 rw [zcY hx]
 exact ⟨Int.emod_nonneg _ om,.inl (Int.emod_lt_of_pos _ hn)⟩
theorem zi3 {n:Nat} {x:Int} (hn:0 < n) (hx:zJ3 n x):∃ m:Nat,x = m/\m < n:=by
 obtain ⟨h1,h2 | ⟨h2,h3⟩⟩:=hx
 ·exact ⟨x.toNat,om,om⟩
 ·omega
def beF (bs:List Int) (n:Int) (i:Nat) (h:Int):Value × Nat × Int :=
 if n <= 0 then (.int .i64 0,i,h)
 else if n <= 256 then (.int .i64 ((byF bs i h).tmod n),nxI bs i,crH h)
 else (.int .i64 ((byF bs i h * 16777216 + byF bs (nxI bs i) (crH h) * 65536 + byF bs (nxI bs (nxI bs i)) (crH (crH h)) * 256 + byF bs (nxI bs (nxI bs (nxI bs i))) (crH (crH (crH h)))).tmod n),nxI bs (nxI bs (nxI bs (nxI bs i))),crH (crH (crH (crH h))))
theorem zAs (bs:List Int) (n:Int) (i:Nat) (h:Int):zNo (zJ3 n) (.im (.v (beF bs n i h).1)):=by
 unfold beF
 have b1:=zjC bs i h
 have b2:=zjC bs (nxI bs i) (crH h)
 have b3:=zjC bs (nxI bs (nxI bs i)) (crH (crH h))
 have b4:=zjC bs (nxI bs (nxI bs (nxI bs i))) (crH (crH (crH h)))
 split
 ·rename_i h0
  exact ⟨0,rfl,Int.le_refl _,.inr ⟨h0,rfl⟩⟩
 ·split
  ·exact ⟨_,rfl,zAr om om⟩
  ·exact ⟨_,rfl,zAr om om⟩
theorem zrg (bs:List Int) (n:Int) (i:Nat) (h:Int):∃ (x:Int) (j:Nat) (g:Int),beF bs n i h = (.int .i64 x,j,g)/\zJ3 n x:=by
 obtain ⟨x,hx,hq⟩:=zAs bs n i h
 injection hx with hx
 injection hx with hx
 exact ⟨x,(beF bs n i h).2.1,(beF bs n i h).2.2,by rw [<- hx],hq⟩
theorem zlk (n:Int):zbs [int n]:=fun p hp=>by rw [List.mem_singleton.1 hp];rfl
set_option maxRecDepth 100000 in
theorem zcT (bs:List Int) (hbs:bs.length <= 9223372036854775806) (n:Int) (hn:n <= 1000000):zqF Tryz.prog 105 TC bs [int n] (beF bs n):=by
 intro i h
 refine xag [.tmp 4] Tryz.func105 fun hl _ s hs hR=>?_
 have e0:s.rw 1000000 = ⟨1,.box TC [.sl false 1 (kL .u8 bs),int i,int h]⟩:=by rw [hR];rfl
 have e1:s.rw 1000500 = ⟨0,.dead⟩:=by rw [hR];rfl
 have hc:=zpU bs hbs
 have hp:zbs []:=fun _ h=>absurd h sp
 have b1:=zjC bs i h
 have b2:=zjC bs (nxI bs i) (crH h)
 have b3:=zjC bs (nxI bs (nxI bs i)) (crH (crH h))
 have b4:=zjC bs (nxI bs (nxI bs (nxI bs i))) (crH (crH (crH h)))
 refine xg2 hs e0 ?_
 refine ⟨fun h0=>?_,fun h0=>⟨fun h1=>?_,fun h1=>?_⟩⟩
 ·unfold beF;rw [if_pos h0]
  exact ⟨rfl,by simp -dsimp only [gr,simprocAttr,e0] <;> rfl,by simp -dsimp only [gr,simprocAttr,e1]⟩
 ·refine zfg hc hp (i:=i) (h:=h) (xs1 e0) rfl ?_
  refine xg2 hs e0 ?_
  unfold beF;rw [if_neg h0,if_pos h1]
  exact ⟨om,rfl,by simp -dsimp only [gr,simprocAttr,e0] <;> rfl,by simp -dsimp only [gr,simprocAttr,e1]⟩
 ·refine zfg hc hp (i:=i) (h:=h) (xs1 e0) rfl ?_
  refine xg2 hs e0 ?_
  refine zfg hc hp (i:=nxI bs i) (h:=crH h) (xs1 e0) rfl ?_
  refine xg2 hs e0 ?_
  refine zfg hc hp (i:=nxI bs (nxI bs i)) (h:=crH (crH h)) (xs1 e0) rfl ?_
  refine xg2 hs e0 ?_
  refine zfg hc hp (i:=nxI bs (nxI bs (nxI bs i))) (h:=crH (crH (crH h))) (xs1 e0) rfl ?_
  generalize hx:byF bs i h = x at *
  generalize hy:byF bs (nxI bs i) (crH h) = y at *
  generalize hz:byF bs (nxI bs (nxI bs i)) (crH (crH h)) = z at *
  generalize hw:byF bs (nxI bs (nxI bs (nxI bs i))) (crH (crH (crH h))) = w at *
  have w1:IntKind.i64.wrap (x * 16777216) = x * 16777216:=zai om om
  have w2:IntKind.i64.wrap (y * 65536) = y * 65536:=zai om om
  have w3:IntKind.i64.wrap (x * 16777216 + y * 65536) = x * 16777216 + y * 65536:=zai om om
  have w4:IntKind.i64.wrap (z * 256) = z * 256:=zai om om
  have w5:IntKind.i64.wrap (x * 16777216 + y * 65536 + z * 256) = x * 16777216 + y * 65536 + z * 256:=zai om om
  have w6:IntKind.i64.wrap (x * 16777216 + y * 65536 + z * 256 + w) = x * 16777216 + y * 65536 + z * 256 + w:=zai om om
  refine xg8 hs e0 w1 w2 w3 w4 w5 w6 ?_
  unfold beF;rw [if_neg h0,if_neg h1,hx,hy,hz,hw]
  exact ⟨om,rfl,by simp -dsimp only [gr,simprocAttr,e0] <;> rfl,by simp -dsimp only [gr,simprocAttr,e1]⟩
theorem zaZ (bs:List Int) (hbs:bs.length <= 9223372036854775806) (n:Int) (hn:n <= 1000000):zzn Tryz.prog 105 TC bs ⟨0,.dead⟩ [int n] (zNo (zJ3 n)) :=
 (zcT bs hbs n hn).toCur fun i h=>zAs bs n i h
def onF (bs:List Int) (n:Int) (i:Nat) (h:Int):Value × Nat × Int:=((match (beF bs n i h).1 with | .int _ x=>.bool (x == 0) | _=>.bool false),(beF bs n i h).2)
theorem znB (bs:List Int) (hbs:bs.length <= 9223372036854775806) (n:Int) (hn:n <= 1000000):zqF Tryz.prog 48 TC bs [int n] (onF bs n):=by
 intro i h
 refine xag [.tmp 4] Tryz.func48 fun hl _ s hs hR=>?_
 have e0:s.rw 1000000 = ⟨1,.box TC [.sl false 1 (kL .u8 bs),int i,int h]⟩:=by rw [hR];rfl
 have e1:s.rw 1000500 = ⟨0,.dead⟩:=by rw [hR];rfl
 refine xg2 hs e0 ?_
 refine zfg (zcT bs hbs n hn) (zlk n) (i:=i) (h:=h) (xs1 e0) rfl ?_
 unfold onF
 obtain ⟨y,j3,g3,hr,hy⟩:=zrg bs n i h
 rw [hr]
 refine xg2 hs e0 ?_
 exact ⟨rfl,by simp -dsimp only [gr,simprocAttr,e0] <;> rfl,by simp -dsimp only [gr,simprocAttr,e1]⟩
theorem zKG (bs:List Int) (n:Int) (i:Nat) (h:Int):∃ (x:Bool) (j:Nat) (g:Int),onF bs n i h = (.bool x,j,g):=by
 obtain ⟨y,j3,g3,hr,hy⟩:=zrg bs n i h
 unfold onF
 rw [hr]
 exact ⟨_,_,_,rfl⟩
theorem ze1 (bs:List Int) (hbs:bs.length <= 9223372036854775806) (n:Int) (hn:n <= 1000000):zzn Tryz.prog 48 TC bs ⟨0,.dead⟩ [int n] zNp :=
 (znB bs hbs n hn).toCur fun i h=>by obtain ⟨x,j,g,e⟩:=zKG bs n i h;rw [e];exact ⟨x,rfl⟩
def piF (bs:List Int) (l:List Int) (i:Nat) (h:Int):Value × Nat × Int:=((match (beF bs l.length i h).1 with | .int _ x=>.int .i64 (l.getD x.toNat 0) | _=>.int .i64 0),(beF bs l.length i h).2)
theorem zKH (bs:List Int) {l:List Int} (hl:0 < l.length) (i:Nat) (h:Int):∃ (x:Int) (j:Nat) (g:Int),piF bs l i h = (.int .i64 x,j,g)/\x ∈ l:=by
 obtain ⟨y,j3,g3,hr,hy⟩:=zrg bs l.length i h
 obtain ⟨m,rfl,hm⟩:=zi3 hl hy
 unfold piF
 rw [hr]
 exact ⟨_,_,_,rfl,zaj 0 hm⟩
theorem zi4 (bs:List Int) (hbs:bs.length <= 9223372036854775806) (l:List Int) (hl0:0 < l.length) (hl1:l.length <= 1000000):zI9 Tryz.prog 106 TC bs 3 (iL l) (piF bs l):=by
 intro i h
 refine xag [.tmp 4] Tryz.func106 fun hl _ s hs hR=>?_
 have e0:s.rw 1000000 = ⟨1,.box TC [.sl false 1 (kL .u8 bs),int i,int h]⟩:=by rw [hR];rfl
 have e1:s.rw 1000500 = ⟨1,.sli 3 1 false (iL l)⟩:=by rw [hR];rfl
 refine xg3 hs e0 e1 ?_
 refine zfg (zcT bs hbs l.length om) (zlk _) (i:=i) (h:=h) (xs1 e0) rfl ?_
 unfold piF
 obtain ⟨y,j3,g3,hr,hy⟩:=zrg bs l.length i h
 obtain ⟨m,rfl,hm⟩:=zi3 hl0 hy
 rw [hr]
 refine xg3 hs e0 e1 ?_
 exact ⟨om,hm,rfl,by simp -dsimp only [gr,simprocAttr,e0] <;> rfl,by simp -dsimp only [gr,simprocAttr,e1] <;> rfl⟩
theorem zcA (bs:List Int) (hbs:bs.length <= 9223372036854775806) (l:List Int) (hl0:0 < l.length) (hl1:l.length <= 1000000):zzn Tryz.prog 106 TC bs ⟨1,.sli 3 1 false (iL l)⟩ [.own 1000500 1] (zNo fun x=>x ∈ l) :=
 (zi4 bs hbs l hl0 hl1).toCur fun i h=>by obtain ⟨x,j,g,e,hx⟩:=zKH bs hl0 i h;rw [e];exact ⟨x,rfl,hx⟩
theorem zpV (bs:List Int) (hbs:bs.length <= 9223372036854775806) (l:List ByteArray) (hl0:0 < l.length) (hl1:l.length <= 1000000):zzn Tryz.prog 109 TC bs ⟨1,.sli 9 1 false (sL l)⟩ [.own 1000500 1] (fun rv=>∃ x,rv = .im (str x)/\x ∈ l):=by
 intro i h
 refine xag [.tmp 4] Tryz.func109 fun hl _ s hs hR=>?_
 have e0:s.rw 1000000 = ⟨1,.box TC [.sl false 1 (kL .u8 bs),int i,int h]⟩:=by rw [hR];rfl
 have e1:s.rw 1000500 = ⟨1,.sli 9 1 false (sL l)⟩:=by rw [hR];rfl
 have hsl:(sL l).length = l.length:=by simp [sL]
 refine xg4 hs e0 e1 hsl ?_
 refine zaP (zaZ bs hbs l.length om) .none (xs3 e0 e1 hsl) (GvL.one (zb4 (xs3 e0 e1 hsl)) (by repeat (first | exact GvL.nil | refine GvL.one (GvA.v _) ?_ | refine GvL.one (GvA.sl _ _ _) ?_))) rfl (fun _ h=>by cases h) fun rv i1 g1 ⟨x,hrv,hx⟩=>?_
 subst hrv
 obtain ⟨m,rfl,hm⟩:=zi3 hl0 hx
 refine xg4 hs e0 e1 hsl ?_
 refine ⟨om,hm,?_⟩
 exact ⟨_,i1,g1,[],⟨_,rfl,zaj _ hm⟩,.one (.lf (.im _)),List.nodup_nil,by simp -dsimp only [gr,simprocAttr,e0] <;> rfl,by simp -dsimp only [gr,simprocAttr,e1] <;> rfl⟩
theorem zbo (F s:Nat) (hF:F < 18446744073709551616) (hs:s < 64):AC Tryz.prog 148 [u64 F,int s] (.im (bool (F.testBit s))):=by
 refine xac [.tmp 4] Tryz.func148 fun hl=>?_
 have hw:IntKind.u64.wrap (s:Int) = (s:Int):=zaI om
 exact xd2 hw (zFD hF hs)
theorem zdL (F:Nat) (hF:F < 18446744073709551616):AC Tryz.prog 154 [u64 F] (.fr 3 1 (iL (ofN (za4 F.testBit)))):=by
 refine xac [.tmp 2] Tryz.func154 fun hl=>?_
 refine xg0 ?_
 refine zag (fun (za:Nat × Nat) s=>match za with | (k,v)=>(s.sl 0 = u64 F/\s.sl 3 = .own 3 v/\s.rw 3 = ⟨v,.sli 3 1 false (iL (ofN (zhM F.testBit k 0)))⟩/\s.sl 4 = int k)/\(k <= 7)) (fun (k,v)=>7 - k) ((0,1)) ⟨xc0,sp⟩ ?_
 intro (k,v) sa ⟨Ha,hIa⟩
 refine xg1 Ha ?_
 refine ⟨fun hk=>?_,fun hk=>?_⟩
 ·refine zag (fun (zb:Nat × Nat) s=>match zb with | (m,v)=>(s.sl 0 = u64 F/\s.sl 3 = .own 3 v/\s.rw 3 = ⟨v,.sli 3 1 false (iL (ofN (zhM F.testBit k m)))⟩/\s.sl 4 = int k/\s.sl 5 = int m)/\(m <= 64)) (fun (m,v)=>64 - m) ((0,v)) ⟨(xc1 Ha),sp⟩ ?_
  intro (m,v) sb ⟨Hb,hIb⟩
  refine xg1 Hb ?_
  refine ⟨fun hm=>?_,fun hm=>?_⟩
  ·have hm:m < 64:=om
   refine zaa (zbo F m hF hm) ?_
   refine xg1 Hb ?_
   have hlen:=zqC F.testBit k m
   have hz:zkg (m:Int) = (zar m:Nat):=by rw [zkg,if_pos om];simp
   refine ⟨fun hf=>zaa (zaE _) ?_,fun hf=>?_⟩
   ·refine xg2 Hb hz ?_
    refine ⟨fun hp=>?_,fun hp=>?_⟩
    ·have hy:zhM F.testBit k (m + 1) = zhM F.testBit k m ++ [m]:=zx8 (by rw [hf];simp at hp ⊢;omega)
     refine ⟨by rw [zad];omega,?_⟩
     exact zab ((m + 1,v + 1)) ⟨(xc5 Hb (zac hm om) hy @zaD @zdd),om⟩
    ·have hy:zhM F.testBit k (m + 1) = zhM F.testBit k m:=zqB (by rw [hf];simp at hp ⊢;omega)
     exact zab ((m + 1,v)) ⟨(xc3 Hb (zac hm om) hy),om⟩
   ·have hy:zhM F.testBit k (m + 1) = zhM F.testBit k m:=zqB (by rw [hf];rfl)
    exact zab ((m + 1,v)) ⟨(xc3 Hb (zac hm om) hy),om⟩
  ·have:m = 64:=om
   subst this
   have hk:k < 7:=om
   exact zab ((k + 1,v)) ⟨(xc4 Ha Hb (zac hk om) @zmL),om⟩
 ·have:k = 7:=om
  subst this
  rw [zqA]
theorem zd2 (n:Nat) (hn:n <= 6) (g:FuncId) (caps:List PV) (w:Nat->Bool) (hcap:∀ rw,caps.map (zcS rw 3) = caps) (hw:∀ s:Nat,s < 2 ^ n->AC Tryz.prog g (int s :: caps) (.im (bool (w s)))) :
 AC Tryz.prog 169 [int n,.clo g caps] (.im (u64 (zax w (2 ^ n):Nat))):=by
 refine xac [.tmp 4] Tryz.func169 fun hl=>?_
 have h64:=zbq hn
 have hsh:zg1 .i64 1 (n:Int) = ((2 ^ n:Nat):Int):=zaW hn
 have hun:IntKind.u64.wrap (n:Int) = (n:Int):=zaI om
 refine xg0 ?_
 refine zag (fun (k:Nat) s=>(s.sl 0 = int n/\s.sl 1 = .clo g caps/\s.sl 5 = u64 (zax w k:Nat)/\s.sl 6 = int k)/\(k <= 2 ^ n)) (fun k=>2 ^ n - k) (0) ⟨xc0,sp⟩ ?_
 intro k sa ⟨Ha,hIa⟩
 have hlt:=zbn w k
 have h2k:(2:Nat) ^ k <= 2 ^ 64:=Nat.pow_le_pow_right om om
 refine xg4 Ha hun hsh hcap ?_
 refine ⟨fun hk=>zaa (hw k hk) ?_,fun hk=>?_⟩
 ·have huk:IntKind.u64.wrap (k:Int) = (k:Int):=zaI om
  have h2s:(2:Nat) ^ k < 18446744073709551616:=by
   have:(2:Nat) ^ k < 2 ^ 64:=Nat.pow_lt_pow_right om om
   omega
  have hor:ior .u64 (zax w k:Nat) (zg1 .u64 1 (k:Int)) = ((zax w k ||| 2 ^ k:Nat):Int):=by
   rw [zpq om,zDk om h2s]
  refine xg5 Ha hun hsh huk hor ?_
  refine ⟨fun hf=>?_,fun hf=>?_⟩
  ·have hm:zax w (k + 1) = zax w k ||| 2 ^ k:=by rw [zax,if_pos hf]
   exact zab (k + 1) ⟨(xc5 Ha (zac hk om) huk hor hm),om⟩
  ·have hm:zax w (k + 1) = zax w k:=by rw [zax,if_neg (by rw [hf];decide)]
   exact zab (k + 1) ⟨(xc3 Ha (zac hk om) hm),om⟩
 ·have:k = 2 ^ n:=om
  rw [this]
theorem zya {l:List Nat} {k:Nat} (h:k < l.length):l = l.take k ++ l.getD k 0 :: l.drop (k + 1):=by
 rw [<- zDc 0 h,List.take_append_drop]
theorem ziB {l:List Nat} {p:Nat->Bool} {k:Nat} (h:k < l.length) (hp:p (l.getD k 0) = true):(l.take (k + 1)).filter p = (l.take k).filter p ++ [l.getD k 0]:=by
 rw [zas 0 h,List.filter_append];simp only [List.filter_cons,hp,if_true,List.filter_nil]
theorem zmW {l:List Nat} {p:Nat->Bool} {k:Nat} (h:k < l.length) (hp:p (l.getD k 0) = false):(l.take (k + 1)).filter p = (l.take k).filter p:=by
 rw [zas 0 h,List.filter_append];simp only [List.filter_cons,hp,Bool.false_eq_true,if_false,List.filter_nil,List.append_nil]
theorem zqG {l:List Nat} {p:Nat->Bool}:(l.filter p).length <= l.length:=List.length_filter_le _ _
theorem zkp (F:Nat) (hF:F < 18446744073709551616):AC Tryz.prog 168 [u64 F] (.fr 3 1 (iL (ofN (zcK F.testBit false)))):=by
 refine xac [.tmp 2] Tryz.func168 fun hl=>?_
 refine xg0 ?_
 refine zaa (zdL F hF) ?_
 refine xg0 ?_
 have hfull:=zca F.testBit
 have hmem:∀ k,k < (za4 F.testBit).length->(za4 F.testBit).getD k 0 < 64:=fun k hk=>(zaO.1 (zaj 0 hk)).1
 have hsplit:∀ k,k < (za4 F.testBit).length->za4 F.testBit = (za4 F.testBit).take k ++ (za4 F.testBit).getD k 0 :: (za4 F.testBit).drop (k + 1):=fun k hk=>zya hk
 have hmin:∀ k,k < (za4 F.testBit).length->((∃ t,t ∈ ((za4 F.testBit).take k).filter (zdR F.testBit false)/\t &&& (za4 F.testBit).getD k 0 = t) ↔ zdR F.testBit false ((za4 F.testBit).getD k 0) = false):=fun k hk=>zzl (hsplit k hk)
 unfold zcK
 generalize za4 F.testBit = all at *
 refine zag (fun (za:Nat × Nat × Nat) s=>match za with | (k,v,u)=>(s.sl 3 = .own 3 v/\s.rw 3 = ⟨v,.sli 3 1 false (iL (ofN ((all.take k).filter (zdR F.testBit false))))⟩/\s.sl 10 = .own 10 u/\s.rw 10 = ⟨u,.sli 3 1 false (iL (ofN all))⟩/\s.sl 11 = int all.length/\s.sl 12 = int k)/\(k <= all.length)) (fun (k,v,u)=>all.length - k) ((0,1,1)) ⟨(xc1 @zad),sp⟩ ?_
 intro (k,v,u) sa ⟨Ha,hIa⟩
 refine xg2 Ha @zad ?_
 refine ⟨fun hk=>⟨hk,hk,?_⟩,fun hk=>?_⟩
 ·have hs:=hmem k hk
  have hge:(ofN all).getD k 0 = ((all.getD k 0:Nat):Int):=zay hk
  generalize hout:(all.take k).filter (zdR F.testBit false) = out at *
  have hol:out.length <= k:=by rw [<- hout];exact Nat.le_trans zqG (by simp;omega)
  have hom:∀ j,j < out.length->out.getD j 0 < 64:=fun j hj=>by
   have:out.getD j 0 ∈ out:=zaj 0 hj
   generalize out.getD j 0 = x at *
   rw [<- hout] at this
   obtain ⟨i,hi,rfl⟩:=zaV 0 (List.mem_of_mem_take (List.mem_filter.1 this).1)
   exact hmem i hi
  refine zag (fun (j:Nat) s=>(s.sl 3 = .own 3 v/\s.rw 3 = ⟨v,.sli 3 1 false (iL (ofN out))⟩/\s.sl 10 = .own 10 u/\s.rw 10 = ⟨u,.sli 3 1 false (iL (ofN all))⟩/\s.sl 11 = int all.length/\s.sl 12 = int k/\s.sl 5 = int (all.getD k 0:Nat)/\s.sl 6 = bool false/\s.sl 16 = .own 3 v/\s.sl 17 = int out.length/\s.sl 18 = int j)/\(j <= out.length/\∀ i,i < j->out.getD i 0 &&& all.getD k 0 ≠ out.getD i 0)) (fun j=>out.length - j) (0) ⟨(xc3 Ha hge @zad),sp⟩ ?_
  intro j sb ⟨Hb,hIb⟩
  obtain ⟨hj,hall⟩:=hIb
  refine xg2 Hb @zad ?_
  have hoj:j < out.length->(ofN out).getD j 0 = ((out.getD j 0:Nat):Int):=fun h=>zay h
  have hsub:j < out.length->(zb8 .i64 ((ofN out).getD j 0) ((all.getD k 0:Nat):Int) = 0 ↔ out.getD j 0 &&& all.getD k 0 = out.getD j 0):=fun h=>by
   have:=hom j h
   rw [hoj h,zbj om om,<- zbP]
   omega
  have hmk:=hmin k hk
  rw [hout] at hmk
  refine ⟨fun h2=>⟨h2,h2,fun he=>?_,fun he=>zab (j + 1) ⟨(xc2 Hb (zac h2 om)),⟨om,fun i hi=>?_⟩⟩⟩,fun h2=>⟨om,?_⟩⟩
  ·have hx:zdR F.testBit false (all.getD k 0) = false:=hmk.1 ⟨_,zaj 0 h2,(hsub h2).1 (beq_iff_eq.1 he)⟩
   have hno:(all.take (k + 1)).filter (zdR F.testBit false) = out:=by rw [zmW hk hx,hout]
   exact zab ((k + 1,v,u)) ⟨(xc4 Ha Hb (zac hk om) hno),om⟩
  ·rcases Nat.lt_succ_iff_lt_or_eq.1 hi with hi | rfl
   ·exact hall i hi
   ·intro e
    rw [(hsub h2).2 e] at he
    simp at he
  ·have hx:zdR F.testBit false (all.getD k 0) = true:=by
    cases hb:zdR F.testBit false (all.getD k 0) with
    | true=>rfl
    | false =>
      obtain ⟨t,ht,hts⟩:=hmk.2 hb
      obtain ⟨i,hi,rfl⟩:=zaV 0 ht
      exact absurd hts (hall i om)
   have hyes:(all.take (k + 1)).filter (zdR F.testBit false) = out ++ [all.getD k 0]:=by rw [ziB hk hx,hout]
   exact zab ((k + 1,v + 1,u)) ⟨(xc6 Ha Hb (zac hk om) hyes @zaD @zdd),om⟩
 ·have:k = all.length:=om
  subst this
  rw [List.take_length]
noncomputable def inF (xs:List Int) (s:Nat):Bool:=decide ((s:Int) ∈ xs)
noncomputable def zeR (xs:List Int) (k:Nat):List Bool:=(List.range 64).map fun s=>inF (xs.take k) s
theorem zfi (xs:List Int) (k:Nat):(zeR xs k).length = 64:=by simp [zeR]
theorem zva (xs:List Int):List.replicate 64 false = zeR xs 0:=by
 refine List.ext_getElem (by simp [zeR]) fun j h1 h2=>?_
 rw [List.getElem_replicate]
 simp [zeR,inF]
theorem zzr {xs:List Int} {k:Nat} (h:k < xs.length) (hx:0 <= xs.getD k 0/\xs.getD k 0 < 64):(zeR xs k).set (xs.getD k 0).toNat true = zeR xs (k + 1):=by
 refine List.ext_getElem (by simp [zeR]) fun j h1 h2=>?_
 simp only [zeR,List.getElem_set,List.getElem_map,List.getElem_range]
 have e:inF (xs.take (k + 1)) j = (inF (xs.take k) j || decide ((j:Int) = xs.getD k 0)):=by
  unfold inF
  rw [zas 0 h,<- Bool.decide_or]
  exact decide_eq_decide.2 (by simp only [List.mem_append,List.mem_singleton])
 rw [e]
 by_cases hj:(xs.getD k 0).toNat = j
 ·rw [if_pos hj]
  have:(j:Int) = xs.getD k 0:=om
  simp only [this,decide_true,Bool.or_true]
 ·rw [if_neg hj]
  have:¬ (j:Int) = xs.getD k 0:=om
  simp only [this,decide_false,Bool.or_false]
theorem zeA (xs:List Int) (hx:∀ x ∈ xs,0 <= x/\x < 64):AC Tryz.prog 139 [zaz xs] (.fr 3 1 (iL (ofN (za4 (inF xs))))):=by
 refine xac [.tmp 2] Tryz.func139 fun hl=>?_
 simp only [zaS,zbe,and_true,zcU,zck,true_and] at hl
 simp (maxSteps:=9^7) -dsimp only [↓gp,gq,reduceCtorEq,reduceEqDiff,reduceLT,reduceLeDiff,reduceAdd,reduceMul,reduceSub,Nat.reduceBEq,Int.reduceToNat,Int.reduceLE,Int.reduceLT,Int.reduceNeg,reduceMod,gT]
 refine ⟨by decide,?_⟩
 refine zag (fun (za:Nat × Nat) s=>match za with | (k,v)=>s.sl 0 = zaz xs/\s.sl 3 = .own 8 v/\s.rw 8 = ⟨v,.sli 4 1 false (bL (zeR xs k))⟩/\s.sl 4 = int k/\(k <= xs.length)) (fun (k,v)=>xs.length - k) ((0,1)) (by refine ⟨?_,?_,?_,?_,sp⟩ <;> (first | (simp -dsimp only [gr,simprocAttr,zfY,zva,Int.reduceToNat];first | done | rfl | (simp;done)) | assumption | rfl)) ?_
 intro (k,v) sa ⟨h0a,h3a,r8a,h4a,hIa⟩
 simp -dsimp only [↓gp,gq,simprocAttr,gT,h0a,h3a,r8a,h4a,zfi]
 refine ⟨fun hk=>?_,fun hk=>?_⟩
 ·have hx1:=hx _ (zaj 0 hk)
  refine ⟨hk,hk,om,om,om,?_⟩
  exact zab ((k + 1,v)) (by refine ⟨?_,?_,?_,?_,om⟩ <;> (first | (simp -dsimp only [gr,simprocAttr,h0a,h3a,r8a,h4a,zac hk hl,zzr hk hx1];first | done | rfl | (simp;done)) | assumption | rfl)) (by first | omega | (simp only;omega) | (dsimp only;omega) | (show _ < _;simp;omega))
 ·have:k = xs.length:=om
  subst this
  have hall:∀ s,s < 64->(zeR xs xs.length).getD s false = inF xs s:=fun s hs=>by
   rw [zcH false (by rw [zfi];exact hs)]
   simp [zeR]
  have hrl:=zfi xs xs.length
  generalize zeR xs xs.length = row at *
  refine zag (fun (zb:Nat × Nat × Nat) s=>match zb with | (k,v,u)=>s.sl 3 = .own 8 u/\s.rw 8 = ⟨u,.sli 4 1 false (bL row)⟩/\s.sl 5 = .own 21 v/\s.rw 21 = ⟨v,.sli 3 1 false (iL (ofN (zhM (inF xs) k 0)))⟩/\s.sl 6 = int k/\(k <= 7)) (fun (k,v,u)=>7 - k) ((0,(sa.rw 21).ver + 1,v)) (by refine ⟨?_,?_,?_,?_,?_,sp⟩ <;> (first | (simp -dsimp only [gr,simprocAttr,h0a,h3a,r8a,h4a];first | done | rfl | (simp;done)) | assumption | rfl)) ?_
  intro (k,v,u) sb ⟨h3b,r8b,h5b,r21b,h6b,hIb⟩
  simp -dsimp only [↓gp,gq,simprocAttr,gT,h3b,r8b,h5b,r21b,h6b]
  refine ⟨fun hk=>?_,fun hk=>?_⟩
  ·refine zag (fun (zc:Nat × Nat) s=>match zc with | (m,v)=>s.sl 3 = .own 8 u/\s.rw 8 = ⟨u,.sli 4 1 false (bL row)⟩/\s.sl 5 = .own 21 v/\s.rw 21 = ⟨v,.sli 3 1 false (iL (ofN (zhM (inF xs) k m)))⟩/\s.sl 6 = int k/\s.sl 7 = int m/\(m <= 64)) (fun (m,v)=>64 - m) ((0,v)) (by refine ⟨?_,?_,?_,?_,?_,?_,sp⟩ <;> (first | (simp -dsimp only [gr,simprocAttr,h3b,r8b,h5b,r21b,h6b];first | done | rfl | (simp;done)) | assumption | rfl)) ?_
   intro (m,v) sc ⟨h3c,r8c,h5c,r21c,h6c,h7c,hIc⟩
   simp -dsimp only [↓gp,gq,simprocAttr,gT,h3c,r8c,h5c,r21c,h6c,h7c,hrl]
   have hlen:=zqC (inF xs) k m
   refine ⟨fun hm=>⟨om,om,?_⟩,fun hm=>?_⟩
   ·have hm:m < 64:=om
    rw [hall m hm]
    refine ⟨fun hf=>zaa (zct om om) ?_,fun hf=>?_⟩
    ·simp -dsimp only [↓gp,gq,simprocAttr,gT,h3c,r8c,h5c,r21c,h6c,h7c,Int.toNat_natCast]
     refine ⟨fun hp=>?_,fun hp=>?_⟩
     ·have hy:zhM (inF xs) k (m + 1) = zhM (inF xs) k m ++ [m]:=zx8 (by rw [hf];simp at hp ⊢;omega)
      refine ⟨by rw [zad];omega,?_⟩
      exact zab ((m + 1,v + 1)) (by refine ⟨?_,?_,?_,?_,?_,?_,om⟩ <;> (first | (simp -dsimp only [gr,simprocAttr,h3c,r8c,h5c,r21c,h6c,h7c,zac hm om,hy,zaD,zdd];first | done | rfl | (simp;done)) | assumption | rfl)) (by first | omega | (simp only;omega) | (dsimp only;omega) | (show _ < _;simp;omega))
     ·have hy:zhM (inF xs) k (m + 1) = zhM (inF xs) k m:=zqB (by rw [hf];simp at hp ⊢;omega)
      exact zab ((m + 1,v)) (by refine ⟨?_,?_,?_,?_,?_,?_,om⟩ <;> (first | (simp -dsimp only [gr,simprocAttr,h3c,r8c,h5c,r21c,h6c,h7c,zac hm om,hy];first | done | rfl | (simp;done)) | assumption | rfl)) (by first | omega | (simp only;omega) | (dsimp only;omega) | (show _ < _;simp;omega))
    ·have hy:zhM (inF xs) k (m + 1) = zhM (inF xs) k m:=zqB (by rw [hf];rfl)
     exact zab ((m + 1,v)) (by refine ⟨?_,?_,?_,?_,?_,?_,om⟩ <;> (first | (simp -dsimp only [gr,simprocAttr,h3c,r8c,h5c,r21c,h6c,h7c,zac hm om,hy];first | done | rfl | (simp;done)) | assumption | rfl)) (by first | omega | (simp only;omega) | (dsimp only;omega) | (show _ < _;simp;omega))
   ·have:m = 64:=om
    subst this
    have hk:k < 7:=om
    exact zab ((k + 1,v,u)) (by refine ⟨?_,?_,?_,?_,?_,om⟩ <;> (first | (simp -dsimp only [gr,simprocAttr,h3b,r8b,h5b,r21b,h6b,h3c,r8c,h5c,r21c,h6c,h7c,zac hk om,zmL];first | done | rfl | (simp;done)) | assumption | rfl)) (by first | omega | (simp only;omega) | (dsimp only;omega) | (show _ < _;simp;omega))
  ·have:k = 7:=om
   subst this
   rw [zqA]
theorem zfC (g:Bool) (xs:List Int) (hx:∀ x ∈ xs,0 <= x/\x < 64):AC Tryz.prog 122 [zaz xs,bool g] (.fr 3 1 (iL (ofN (zcK (inF xs) g)))):=by
 refine xac [.tmp 4] Tryz.func122 fun hl=>?_
 simp only [zaS,zbe,and_true,zcU,zck,true_and] at hl
 refine xg0 ?_
 refine zaa (zeA xs hx) ?_
 refine xg0 ?_
 have hfull:=zca (inF xs)
 have hmemf:∀ t,t ∈ za4 (inF xs) ↔ t < 64/\inF xs t = true:=fun t=>zaO
 unfold zcK
 have hext:∀ s,s < 64->(zdR (inF xs) g s = true ↔ ∀ t,t ∈ za4 (inF xs)->(if g = true then s &&& t = s else t &&& s = t)->t = s):=fun s hs=>by
  cases g with
  | true=>rw [zdu];simp only [if_true];exact ⟨fun h t ht=>h t ((hmemf t).1 ht).1 ((hmemf t).1 ht).2,fun h t h1 h2=>h t ((hmemf t).2 ⟨h1,h2⟩)⟩
  | false=>rw [zkZ];simp only [Bool.false_eq_true,if_false];exact ⟨fun h t ht=>h t ((hmemf t).1 ht).1 ((hmemf t).1 ht).2,fun h t h1 h2=>h t ((hmemf t).2 ⟨h1,h2⟩)⟩
 generalize za4 (inF xs) = all at *
 have hmem:∀ k,k < all.length->all.getD k 0 < 64:=fun k hk=>((hmemf _).1 (zaj 0 hk)).1
 refine zag (fun (za:Nat × Nat × Nat) s=>match za with | (k,v,u)=>(s.sl 1 = bool g/\s.sl 5 = .own 13 u/\s.rw 13 = ⟨u,.sli 3 1 false (iL (ofN all))⟩/\s.sl 6 = .own 14 v/\s.rw 14 = ⟨v,.sli 3 1 false (iL (ofN ((all.take k).filter (zdR (inF xs) g))))⟩/\s.sl 7 = int k)/\(k <= all.length)) (fun (k,v,u)=>all.length - k) ((0,1,1)) ⟨xc0,sp⟩ ?_
 intro (k,v,u) sa ⟨Ha,hIa⟩
 refine xg2 Ha @zad ?_
 have hol:((all.take k).filter (zdR (inF xs) g)).length <= k:=Nat.le_trans zqG (by simp;omega)
 refine ⟨fun hk=>?_,fun hk=>?_⟩
 ·have hs:=hmem k hk
  refine zag (fun (zb:Nat × Bool) s=>match zb with | (j,fine)=>(s.sl 1 = bool g/\s.sl 5 = .own 13 u/\s.rw 13 = ⟨u,.sli 3 1 false (iL (ofN all))⟩/\s.sl 6 = .own 14 v/\s.rw 14 = ⟨v,.sli 3 1 false (iL (ofN ((all.take k).filter (zdR (inF xs) g))))⟩/\s.sl 7 = int k/\s.sl 8 = bool fine/\s.sl 9 = int j)/\(j <= all.length/\(fine = true ↔ ∀ i,i < j->(if g = true then all.getD k 0 &&& all.getD i 0 = all.getD k 0 else all.getD i 0 &&& all.getD k 0 = all.getD i 0)->all.getD i 0 = all.getD k 0))) (fun (j,fine)=>all.length - j) ((0,true)) ⟨(xc1 Ha),sp⟩ ?_
  intro (j,fine) sb ⟨Hb,hIb⟩
  obtain ⟨hj,hfine⟩:=hIb
  have ek:(ofN all).getD k 0 = ((all.getD k 0:Nat):Int):=zay hk
  have ej:j < all.length->(ofN all).getD j 0 = ((all.getD j 0:Nat):Int):=fun h=>zay h
  have eand:j < all.length->zdQ .i64 ((ofN all).getD k 0) ((ofN all).getD j 0) = ((all.getD k 0 &&& all.getD j 0:Nat):Int):=fun h=>by
   have:=hmem j h
   rw [ek,ej h,za1 om om]
  have hend:j = all.length->(fine = true ↔ zdR (inF xs) g (all.getD k 0) = true):=fun h=>by
   rw [hfine,hext _ hs]
   exact ⟨fun h2 t ht=>by obtain ⟨i,hi,rfl⟩:=zaV 0 ht;exact h2 i om,fun h2 i hi=>h2 _ (zaj 0 om)⟩
  have hend2:j = all.length->fine = false->zdR (inF xs) g (all.getD k 0) = false:=fun h hf=>by
   cases hb:zdR (inF xs) g (all.getD k 0) with
   | false=>rfl
   | true=>rw [(hend h).2 hb] at hf;cases hf
  have pfT:(if g = true then all.getD k 0 &&& all.getD j 0 = all.getD k 0 else all.getD j 0 &&& all.getD k 0 = all.getD j 0)->all.getD j 0 ≠ all.getD k 0->(false = true ↔ ∀ i,i < j + 1->(if g = true then all.getD k 0 &&& all.getD i 0 = all.getD k 0 else all.getD i 0 &&& all.getD k 0 = all.getD i 0)->all.getD i 0 = all.getD k 0):=fun hr hne =>
   ⟨fun h=>(by cases h),fun h=>absurd (h j om hr) hne⟩
  have pfF:(¬ (if g = true then all.getD k 0 &&& all.getD j 0 = all.getD k 0 else all.getD j 0 &&& all.getD k 0 = all.getD j 0) \/ all.getD j 0 = all.getD k 0)->(fine = true ↔ ∀ i,i < j + 1->(if g = true then all.getD k 0 &&& all.getD i 0 = all.getD k 0 else all.getD i 0 &&& all.getD k 0 = all.getD i 0)->all.getD i 0 = all.getD k 0):=fun hr=>by
   rw [hfine]
   constructor
   ·intro h i hi
    rcases Nat.lt_succ_iff_lt_or_eq.1 hi with hi | rfl
    ·exact h i hi
    ·exact fun h2=>hr.elim (fun h3=>absurd h2 h3) id
   ·intro h i hi;exact h i om
  cases g with
  | true =>
    refine xg2 Hb @zad ?_
    refine ⟨fun h2=>⟨hk,hk,h2,h2,fun hne=>⟨fun he=>zab ((j + 1,fine)) ⟨(xc2 Hb (zac h2 om)),⟨om,pfF (.inl ?_)⟩⟩,fun he=>zab ((j + 1,false)) ⟨(xc2 Hb (zac h2 om)),⟨om,pfT ?_ ?_⟩⟩⟩,fun hne=>zab ((j + 1,fine)) ⟨(xc2 Hb (zac h2 om)),⟨om,pfF (.inr ?_)⟩⟩⟩,fun h2=>?_⟩
    ·rw [eand h2,ek] at he
     simp only [if_true]
     intro e;rw [e] at he;simp at he
    ·rw [eand h2,ek] at he
     have:=beq_iff_eq.1 he
     simp only [if_true];omega
    ·rw [ek,ej h2] at hne
     intro e;rw [e] at hne;simp at hne
    ·rw [ek,ej h2] at hne
     have:=bne_eq_false_iff_eq.1 hne
     omega
    ·refine ⟨fun hf=>⟨hk,hk,om,?_⟩,fun hf=>?_⟩
     ·have hx:=(hend om).1 hf
      exact zab ((k + 1,v + 1,u)) ⟨(xc7 Ha Hb (zac hk om) (ziB hk hx) @zaD @zdd ek),om⟩
     ·have hx:=hend2 om hf
      exact zab ((k + 1,v,u)) ⟨(xc4 Ha Hb (zac hk om) (zmW hk hx)),om⟩
  | false =>
    refine xg2 Hb @zad ?_
    refine ⟨fun h2=>⟨hk,hk,h2,h2,fun hne=>⟨fun he=>zab ((j + 1,false)) ⟨(xc2 Hb (zac h2 om)),⟨om,pfT ?_ ?_⟩⟩,fun he=>zab ((j + 1,fine)) ⟨(xc2 Hb (zac h2 om)),⟨om,pfF (.inl ?_)⟩⟩⟩,fun hne=>zab ((j + 1,fine)) ⟨(xc2 Hb (zac h2 om)),⟨om,pfF (.inr ?_)⟩⟩⟩,fun h2=>?_⟩
    ·rw [eand h2,ej h2] at he
     have:=beq_iff_eq.1 he
     simp only [Bool.false_eq_true,if_false];rw [Nat.and_comm];omega
    ·rw [ek,ej h2] at hne
     intro e;rw [e] at hne;simp at hne
    ·rw [eand h2,ej h2] at he
     simp only [Bool.false_eq_true,if_false]
     intro e;rw [Nat.and_comm] at e;rw [e] at he;simp at he
    ·rw [ek,ej h2] at hne
     have:=bne_eq_false_iff_eq.1 hne
     omega
    ·refine ⟨fun hf=>⟨hk,hk,om,?_⟩,fun hf=>?_⟩
     ·have hx:=(hend om).1 hf
      exact zab ((k + 1,v + 1,u)) ⟨(xc7 Ha Hb (zac hk om) (ziB hk hx) @zaD @zdd ek),om⟩
     ·have hx:=hend2 om hf
      exact zab ((k + 1,v,u)) ⟨(xc4 Ha Hb (zac hk om) (zmW hk hx)),om⟩
 ·have:k = all.length:=om
  subst this
  rw [List.take_length]
theorem znP (xs:List Int) (hx:xs.length <= 1048576):AC Tryz.prog 171 [zaz xs] (.fr 3 1 (iL xs)):=by
 refine xac [.tmp 2] Tryz.func171 fun hl=>?_
 refine xg0 ?_
 exact ⟨om,fun h=>h.symm⟩
theorem zel (xs:List Int) (n:Int):AC Tryz.prog 125 [zaz xs,int n] (.im (bool (decide (n ∈ xs)))):=by
 refine xac [.tmp 4] Tryz.func125 fun hl=>?_
 simp only [zaS,zbe,and_true,zck,zcU] at hl
 refine xg0 ?_
 refine zag (fun (k:Nat) s=>(s.sl 0 = zaz xs/\s.sl 1 = int n/\s.sl 5 = int k)/\(k <= xs.length/\∀ i,i < k->xs.getD i 0 ≠ n)) (fun k=>xs.length - k) (0) ⟨xc0,sp⟩ ?_
 intro k sa ⟨Ha,hIa⟩
 obtain ⟨hk,hall⟩:=hIa
 refine xg1 Ha ?_
 refine ⟨fun h=>⟨h,h,fun he=>?_,fun he=>zab (k + 1) ⟨(xc2 Ha (zac h hl)),⟨om,fun i hi=>?_⟩⟩⟩,fun h=>?_⟩
 ·have he:xs.getD k 0 = n:=by simpa using he
  rw [<- he]
  exact zaj 0 h
 ·rcases Nat.lt_succ_iff_lt_or_eq.1 hi with hi | rfl
  ·exact hall i hi
  ·simpa using he
 ·intro hm
  obtain ⟨i,hi,he⟩:=zaV 0 hm
  exact hall i om he
def idxOf (xs:List Int) (n:Int):Int:=if n ∈ xs then (xs.idxOf n:Nat) else -1
theorem zFN {xs:List Int} {n:Int} {k:Nat} (h:k < xs.length) (he:xs.getD k 0 = n) (hall:∀ i,i < k->xs.getD i 0 ≠ n):idxOf xs n = k:=by
 have hm:n ∈ xs:=he ▸ zaj 0 h
 unfold idxOf
 rw [if_pos hm]
 have h1:xs.idxOf n < xs.length:=List.idxOf_lt_length_iff.2 hm
 have h2:xs.getD (xs.idxOf n) 0 = n:=by rw [zcH 0 h1];exact List.getElem_idxOf h1
 rcases Nat.lt_trichotomy (xs.idxOf n) k with hlt | heq | hgt
 ·exact absurd h2 (hall _ hlt)
 ·rw [heq]
 ·have:=List.not_of_lt_findIdx (p:=(· == n)) (xs:=xs) (i:=k) hgt
  rw [zcH 0 h] at he
  simp [he] at this
theorem znO (xs:List Int) (n:Int):AC Tryz.prog 238 [zaz xs,int n] (.im (int (idxOf xs n))):=by
 refine xac [.tmp 4] Tryz.func238 fun hl=>?_
 simp only [zaS,zbe,and_true,zck,zcU] at hl
 refine xg0 ?_
 refine zag (fun (k:Nat) s=>(s.sl 0 = zaz xs/\s.sl 1 = int n/\s.sl 7 = int xs.length/\s.sl 8 = int k)/\(k <= xs.length/\∀ i,i < k->xs.getD i 0 ≠ n)) (fun k=>xs.length - k) (0) ⟨xc0,sp⟩ ?_
 intro k sa ⟨Ha,hIa⟩
 obtain ⟨hk,hall⟩:=hIa
 refine xg1 Ha ?_
 refine ⟨fun h=>⟨h,h,fun he=>zFN h (by simpa using (beq_iff_eq.1 he).symm) hall,fun he=>zab (k + 1) ⟨(xc2 Ha (zac h hl)),⟨om,fun i hi=>?_⟩⟩⟩,fun h=>?_⟩
 ·rcases Nat.lt_succ_iff_lt_or_eq.1 hi with hi | rfl
  ·exact hall i hi
  ·intro e;rw [e] at he;simp at he
 ·unfold idxOf
  rw [if_neg fun hm=>?_]
  obtain ⟨i,hi,he⟩:=zaV 0 hm
  exact hall i om he
theorem zjo (xs:List Int) (n:Int):AC Tryz.prog 226 [zaz xs,int n] (.im (bool (decide (n ∈ xs)))):=by
 refine xac [.tmp 4] Tryz.func226 fun hl=>?_
 refine xg0 ?_
 refine zaa (znO xs n) ?_
 refine xg0 ?_
 unfold idxOf
 by_cases hm:n ∈ xs
 ·simp [hm]
 ·simp [hm]
theorem zmY {a b:Int} (ha:0 <= a/\a < 64) (hb:0 <= b/\b < 64):AC Tryz.prog 80 [int a,int b] (.im (bool (znC a b))):=by
 refine xac [.tmp 4] Tryz.func80 fun hl=>?_
 refine xg0 ?_
 refine zaa (zct ha.1 om) ?_
 refine xg0 ?_
 refine zaa (zct hb.1 om) ?_
 refine xg0 ?_
 unfold znC zkg
 rw [if_pos ha,if_pos hb,decide_eq_true ha,decide_eq_true hb]
 simp only [Bool.true_and]
 refine ⟨fun h=>⟨fun h2=>?_,fun h2=>?_⟩,fun h=>?_⟩
 ·rw [if_pos (by simpa using h2)]
 ·rw [if_neg (by simpa using h2)]
  exact decide_eq_false om
 ·rw [if_neg om]
  exact decide_eq_true om
def zPi (n:Int) (xs:List Int) (k:Nat):Prop:=zcI n (xs.getD k 0) = true/\(0 < k->znC (xs.getD (k - 1) 0) (xs.getD k 0) = true)/\∀ i,i < k->zdQ .i64 (xs.getD i 0) (xs.getD k 0) ≠ xs.getD i 0
def cxP (n:Int) (xs:List Int):Prop:=1 <= n/\n <= 6/\∀ k,k < xs.length->zPi n xs k
open Classical in
noncomputable def zaC (n:Int) (xs:List Int):Bool:=decide (cxP n xs)
open Classical in
theorem zeB {n:Int} {xs:List Int} (h:¬ cxP n xs):zaC n xs = false:=decide_eq_false h
open Classical in
theorem zk0 {n:Int} {xs:List Int} (h:cxP n xs):zaC n xs = true:=decide_eq_true h
open Classical in
theorem zaK {n:Int} {xs:List Int}:zaC n xs = true ↔ cxP n xs:=decide_eq_true_iff
theorem zat (n:Int) (xs:List Int):AC Tryz.prog 24 [.ag [int n,zaz xs]] (.im (bool (zaC n xs))):=by
 refine xac [.tmp 2] Tryz.func24 fun hl=>?_
 simp only [zaS,zbe,and_true,zcv,zev,zdh,true_and] at hl
 refine xg0 ?_
 refine zag (fun (k:Nat) s=>(s.sl 1 = .ref 1 1 0/\s.rw 1 = ⟨1,.box 27 [int n,zaz xs]⟩/\s.sl 3 = int k)/\(k <= xs.length/\∀ i,i < k->zPi n xs i)) (fun k=>xs.length - k) (0) ⟨xc0,sp⟩ ?_
 intro k sa ⟨Ha,hIa⟩
 obtain ⟨hk,hall⟩:=hIa
 have hw:IntKind.i64.wrap ((k:Int) - 1) = (k:Int) - 1:=zai om om
 refine xg3 Ha hw @zda ?_
 refine ⟨fun h=>⟨kr,h,h,zaa (zjD _ _) ?_⟩,fun h=>zaa (zbC _ _ _) ?_⟩
 ·refine xg3 Ha hw @zda ?_
  refine ⟨fun hs=>⟨fun h0=>⟨om,om,om,h,h,?_⟩,fun h0=>?_⟩,fun hs=>?_⟩
  ·have hs:zcI n (xs.getD k 0) = true:=by rwa [Bool.not_eq_false'] at hs
   have hb:=zfd hs
   have hb':=zfd (hall (k - 1) om).1
   refine zaa (zmY hb' hb) ?_
   refine xg3 Ha hw @zda ?_
   refine ⟨fun hbef=>zeB fun hg=>?_,fun hbef=>?_⟩
   ·have:=(hg.2.2 k h).2.1 om
    rw [this] at hbef;cases hbef
   ·have hbef:0 < k->znC (xs.getD (k - 1) 0) (xs.getD k 0) = true:=fun _=>by rwa [Bool.not_eq_false'] at hbef
    refine zag (fun (i:Nat) s=>(s.sl 1 = .ref 1 1 0/\s.rw 1 = ⟨1,.box 27 [int n,zaz xs]⟩/\s.sl 3 = int k/\s.sl 4 = int i)/\(i <= k/\∀ j,j < i->zdQ .i64 (xs.getD j 0) (xs.getD k 0) ≠ xs.getD j 0)) (fun i=>k - i) (0) ⟨(xc1 Ha),sp⟩ ?_
    intro i sb ⟨Hb,hIb⟩
    obtain ⟨hik,hin⟩:=hIb
    refine xg1 Hb ?_
    refine ⟨fun hi=>⟨kr,om,om,h,h,om,om,fun he=>?_,fun he=>zab (i + 1) ⟨(xc2 Hb (zac hi om)),⟨om,fun j hj=>?_⟩⟩⟩,fun hi=>zab (k + 1) ⟨(xc3 Ha Hb (zac h hl)),⟨om,fun j hj=>?_⟩⟩⟩
    ·exact zeB fun hg=>(hg.2.2 k h).2.2 i hi (by simpa using he)
    ·rcases Nat.lt_succ_iff_lt_or_eq.1 hj with hj | rfl
     ·exact hin j hj
     ·simpa using he
    ·rcases Nat.lt_succ_iff_lt_or_eq.1 hj with hj | rfl
     ·exact hall j hj
     ·exact ⟨hs,hbef,fun i hi=>hin i om⟩
  ·have hs:zcI n (xs.getD k 0) = true:=by rwa [Bool.not_eq_false'] at hs
   have hbef:0 < k->znC (xs.getD (k - 1) 0) (xs.getD k 0) = true:=fun h=>om
   refine zag (fun (i:Nat) s=>(s.sl 1 = .ref 1 1 0/\s.rw 1 = ⟨1,.box 27 [int n,zaz xs]⟩/\s.sl 3 = int k/\s.sl 4 = int i)/\(i <= k/\∀ j,j < i->zdQ .i64 (xs.getD j 0) (xs.getD k 0) ≠ xs.getD j 0)) (fun i=>k - i) (0) ⟨(xc1 Ha),sp⟩ ?_
   intro i sb ⟨Hb,hIb⟩
   obtain ⟨hik,hin⟩:=hIb
   refine xg1 Hb ?_
   refine ⟨fun hi=>⟨kr,om,om,h,h,om,om,fun he=>?_,fun he=>zab (i + 1) ⟨(xc2 Hb (zac hi om)),⟨om,fun j hj=>?_⟩⟩⟩,fun hi=>zab (k + 1) ⟨(xc3 Ha Hb (zac h hl)),⟨om,fun j hj=>?_⟩⟩⟩
   ·exact zeB fun hg=>(hg.2.2 k h).2.2 i hi (by simpa using he)
   ·rcases Nat.lt_succ_iff_lt_or_eq.1 hj with hj | rfl
    ·exact hin j hj
    ·simpa using he
   ·rcases Nat.lt_succ_iff_lt_or_eq.1 hj with hj | rfl
    ·exact hall j hj
    ·exact ⟨hs,hbef,fun i hi=>hin i om⟩
  ·have hs:zcI n (xs.getD k 0) = false:=by rwa [Bool.not_eq_true'] at hs
   exact zeB fun hg=>by have:=(hg.2.2 k h).1;rw [hs] at this;cases this
 ·refine xg3 Ha hw @zda ?_
  by_cases hn:1 <= n/\n <= 6
  ·rw [zk0 ⟨hn.1,hn.2,fun k hk=>hall k om⟩]
   simp [hn.1,hn.2]
  ·rw [zeB fun hg=>hn ⟨hg.1,hg.2.1⟩]
   symm
   rw [Bool.and_eq_false_iff,decide_eq_false_iff_not,decide_eq_false_iff_not]
   omega
theorem ziC (n:Int) (xs:List Int):AC Tryz.prog 91 [int n,zaz xs] (.im (bool (zaC n xs))):=by
 refine xac [.tmp 4] Tryz.func91 fun hl=>?_
 simp only [zaS,zbe,and_true,zcU,zck,true_and] at hl
 refine xg0 ?_
 refine ⟨fun hn=>⟨fun h6=>zeB fun hg=>by have:=hg.2.1;omega,fun h6=>?_⟩,fun hn=>zeB fun hg=>by have:=hg.1;omega⟩
 refine zag (fun (k:Nat) s=>(s.sl 0 = int n/\s.sl 1 = zaz xs/\s.sl 17 = zaz xs/\s.sl 18 = int xs.length/\s.sl 19 = int k)/\(k <= xs.length/\∀ i,i < k->zcI n (xs.getD i 0) = true/\(0 < i->znC (xs.getD (i - 1) 0) (xs.getD i 0) = true))) (fun k=>xs.length - k) (0) ⟨xc0,sp⟩ ?_
 intro k sa ⟨Ha,hIa⟩
 obtain ⟨hk,hall⟩:=hIa
 have hw:IntKind.i64.wrap ((k:Int) - 1) = (k:Int) - 1:=zai om om
 refine xg3 Ha hw @zda ?_
 refine ⟨fun h=>⟨h,h,zaa (zcc _ _) ?_⟩,fun h=>?_⟩
 ·refine xg3 Ha hw @zda ?_
  refine ⟨fun hs=>?_,fun hs=>⟨fun h0=>⟨om,om,om,zaa (zkh _ _) ?_⟩,fun h0=>?_⟩⟩
  ·have hs:zcI n (xs.getD k 0) = false:=by rwa [Bool.not_eq_true'] at hs
   exact zeB fun hg=>by have:=(hg.2.2 k h).1;rw [hs] at this;cases this
  ·refine xg3 Ha hw @zda ?_
   refine ⟨fun hb=>zeB fun hg=>?_,fun hb=>zab (k + 1) ⟨(xc2 Ha (zac h hl)),⟨om,fun j hj=>?_⟩⟩⟩
   ·have:=(hg.2.2 k h).2.1 om
    rw [this] at hb;cases hb
   ·rcases Nat.lt_succ_iff_lt_or_eq.1 hj with hj | rfl
    ·exact hall j hj
    ·exact ⟨by rwa [Bool.not_eq_false'] at hs,fun _=>by rwa [Bool.not_eq_false'] at hb⟩
  ·refine zab (k + 1) ⟨(xc2 Ha (zac h hl)),⟨om,fun j hj=>?_⟩⟩
   rcases Nat.lt_succ_iff_lt_or_eq.1 hj with hj | rfl
   ·exact hall j hj
   ·exact ⟨by rwa [Bool.not_eq_false'] at hs,fun _=>om⟩
 ·have hall':∀ i,i < xs.length->zcI n (xs.getD i 0) = true/\(0 < i->znC (xs.getD (i - 1) 0) (xs.getD i 0) = true):=fun i hi=>hall i om
  clear hw hall
  have hsub:∀ i j,i < xs.length->j < xs.length->(zb8 .i64 (xs.getD i 0) (xs.getD j 0) = 0 ↔ zdQ .i64 (xs.getD i 0) (xs.getD j 0) = xs.getD i 0):=fun i j hi hj=>zu7 (zfd (hall' i hi).1) (zfd (hall' j hj).1)
  refine zag (fun (i:Nat) s=>(s.sl 1 = zaz xs/\s.sl 41 = zaz xs/\s.sl 42 = int xs.length/\s.sl 43 = int i)/\(i <= xs.length/\∀ j k,j < i->j < k->k < xs.length->zdQ .i64 (xs.getD j 0) (xs.getD k 0) ≠ xs.getD j 0)) (fun i=>xs.length - i) (0) ⟨(xc1 Ha),sp⟩ ?_
  intro i sb ⟨Hb,hIb⟩
  obtain ⟨hi,hin⟩:=hIb
  have hwi:i < xs.length->IntKind.i64.wrap ((i:Int) + 1) = ((i + 1:Nat):Int):=fun h=>zac h hl
  refine xg1 Hb ?_
  refine ⟨fun hlt=>?_,fun hge=>zk0 ⟨om,om,fun k hk=>⟨(hall' k hk).1,(hall' k hk).2,fun j hj=>hin j k om hj hk⟩⟩⟩
  rw [hwi hlt]
  refine ⟨hlt,hlt,om,om,?_⟩
  refine zag (fun (j:Nat) s=>(s.sl 1 = zaz xs/\s.sl 41 = zaz xs/\s.sl 42 = int xs.length/\s.sl 43 = int i/\s.sl 8 = int (xs.getD i 0)/\s.sl 51 = zaz (xs.drop (i + 1))/\s.sl 52 = int (xs.length - (i + 1):Nat)/\s.sl 53 = int j)/\(j <= xs.length - (i + 1)/\∀ k,k < j->zdQ .i64 (xs.getD i 0) (xs.getD (i + 1 + k) 0) ≠ xs.getD i 0)) (fun j=>xs.length - (i + 1) - j) (0) ⟨(xc1 Hb),sp⟩ ?_
  intro j sc ⟨Hc,hIc⟩
  obtain ⟨hj,hinn⟩:=hIc
  have hd:∀ j,(xs.drop (i + 1)).getD j 0 = xs.getD (i + 1 + j) 0:=fun j=>by simp [List.getD]
  simp -dsimp only [↓gp,gq,simprocAttr,gT,Hc,hd,List.length_drop]
  refine ⟨fun h2=>⟨h2,h2,fun he=>?_,fun he=>zab (j + 1) ⟨(xc2 Hc (zac h2 om)),⟨om,fun k hk=>?_⟩⟩⟩,fun h2=>zab (i + 1) ⟨(xc3 Hb Hc (hwi hlt)),⟨om,fun j k hj' hk hk'=>?_⟩⟩⟩
  ·refine zeB fun hg=>(hg.2.2 (i + 1 + j) om).2.2 i om ((hsub i (i + 1 + j) hlt om).1 (by simpa using he))
  ·rcases Nat.lt_succ_iff_lt_or_eq.1 hk with hk | rfl
   ·exact hinn k hk
   ·intro e
    have:=(hsub i (i + 1 + k) hlt om).2 e
    rw [this] at he
    simp at he
  ·rcases Nat.lt_succ_iff_lt_or_eq.1 hj' with hj' | rfl
   ·exact hin j k hj' hk hk'
   ·have:=hinn (k - (j + 1)) om
    rwa [show j + 1 + (k - (j + 1)) = k by omega] at this
theorem zvb (a:Int):znC a a = false:=by unfold znC;simp
theorem zzs {a b c:Int} (h1:znC a b = true) (h2:znC b c = true):znC a c = true:=by
 unfold znC at *
 simp only [Bool.and_eq_true,decide_eq_true_eq] at *
 obtain ⟨ha,hb,h1⟩:=h1
 obtain ⟨_,hc,h2⟩:=h2
 refine ⟨ha,hc,?_⟩
 split at h1 <;> split at h2 <;> simp only [decide_eq_true_eq] at h1 h2
 ·rw [if_pos om];exact decide_eq_true om
 ·rw [if_neg om];exact decide_eq_true om
 ·rw [if_neg om];exact decide_eq_true om
 ·rw [if_neg om];exact decide_eq_true om
theorem zmX {n:Int} {xs:List Int} (h:cxP n xs):∀ (j i:Nat),i < j->j < xs.length->znC (xs.getD i 0) (xs.getD j 0) = true:=by
 intro j
 induction j with
 | zero=>intro i hi;omega
 | succ j ih =>
   intro i hi hj
   have h1:=(h.2.2 (j + 1) hj).2.1 om
   rw [Nat.add_sub_cancel] at h1
   rcases Nat.lt_succ_iff_lt_or_eq.1 hi with hi | rfl
   ·exact zzs (ih i hi om) h1
   ·exact h1
theorem zqH {n:Int} {xs:List Int} (h:cxP n xs):xs.Nodup:=by
 refine List.pairwise_iff_getElem.2 fun i j hi hj hij e=>?_
 have:=zmX h j i hij hj
 rw [zcH 0 hi,zcH 0 hj,e,zvb] at this
 cases this
theorem zDs {n s:Int} (h:zcI n s = true):∃ m t:Nat,n = m/\s = t/\m <= 6/\t < 2 ^ m:=by
 unfold zcI at h
 have h:=of_decide_eq_true h
 obtain ⟨m,rfl⟩:=Int.eq_ofNat_of_zero_le h.1
 obtain ⟨t,rfl⟩:=Int.eq_ofNat_of_zero_le h.2.2.1
 refine ⟨m,t,rfl,rfl,om,?_⟩
 have:=h.2.2.2
 rw [zgi] at this
 omega
def okL (l:List Int):Prop:=∀ b ∈ l,0 <= b/\b < 64
theorem zdm {s:Int} (h:0 <= s/\s < 64):zkg s = (zar s.toNat:Nat):=by rw [zkg,if_pos h]
theorem zHS {l:List Int} {p:Int->Bool} {k:Nat} (h:k < l.length) (hp:p (l.getD k 0) = false):l.all p = false:=by
 rw [List.all_eq_false];exact ⟨_,zaj 0 h,fun e=>by rw [hp] at e;cases e⟩
theorem zDr {l:List Int} {p:Int->Bool} (h:∀ k,k < l.length->p (l.getD k 0) = true):l.all p = true:=by
 rw [List.all_eq_true];intro x hx
 obtain ⟨i,hi,rfl⟩:=zaV 0 hx
 exact h i hi
theorem ztL (w:Nat->Bool) {n:Nat} (hn:n <= 6):zax w (2 ^ n) < 18446744073709551616:=by
 have h1:=zbn w (2 ^ n)
 have h2:=zbq hn
 have h3:2 ^ (2 ^ n) <= 2 ^ 64:=Nat.pow_le_pow_right om h2
 omega
def okS (xs:List Int):Prop:=∀ x ∈ xs,0 <= x/\x < 64
theorem ztJ {xs:List Int} (h:okS xs) {k:Nat} (hk:k < xs.length):0 <= xs.getD k 0/\xs.getD k 0 < 64:=h _ (zaj 0 hk)
theorem zcb {n:Int} {xs:List Int} (h:zaC n xs = true):okS xs:=fun x hx=>by
 obtain ⟨i,hi,rfl⟩:=zaV 0 hx
 exact zfd ((zaK.1 h).2.2 i hi).1
theorem ztK {x:Int} (hx:0 <= x/\x < 64) {s:Nat} (hs:s < 64):(zdQ .i64 x (s:Int) == (s:Int)) = (x.toNat &&& s == s):=by
 have e:x = ((x.toNat:Nat):Int):=om
 rw [e,za1 om om]
 have:((x.toNat:Nat):Int).toNat = x.toNat:=om
 rw [this]
 cases h:(x.toNat &&& s == s) with
 | true=>rw [beq_iff_eq] at h;rw [h];simp
 | false =>
   have h:=beq_eq_false_iff_ne.1 h
   rw [beq_eq_false_iff_ne]
   exact fun e=>h om
theorem zdv (n:Int) (xs:List Int) (u:Nat) (hx:okS xs) (hs:u < 64):AC Tryz.prog 121 [.ag [int n,zaz xs],int u] (.im (bool (zah xs u))):=by
 refine xac [.tmp 4] Tryz.func121 fun hl=>?_
 simp only [zaS,zbe,and_true,zcv,zev,zdh,zcU,true_and] at hl
 refine xg0 ?_
 refine zag (fun (k:Nat) s=>(s.sl 1 = int u/\s.sl 2 = .ref 2 1 0/\s.rw 2 = ⟨1,.box 27 [int n,zaz xs]⟩/\s.sl 5 = int k)/\(k <= xs.length/\∀ i,i < k->((xs.getD i 0).toNat &&& u == u) = false)) (fun k=>xs.length - k) (0) ⟨xc0,sp⟩ ?_
 intro k sa ⟨Ha,hIa⟩
 obtain ⟨hk,hall⟩:=hIa
 refine xg1 Ha ?_
 refine ⟨fun h=>⟨h,h,fun he=>?_,fun he=>zab (k + 1) ⟨(xc2 Ha (zac h hl)),⟨om,fun i hi=>?_⟩⟩⟩,fun h=>?_⟩
 ·rw [ztK (ztJ hx h) hs] at he
  exact zcy.2 ⟨_,zaj 0 h,by simpa using he⟩
 ·rw [ztK (ztJ hx h) hs] at he
  rcases Nat.lt_succ_iff_lt_or_eq.1 hi with hi | rfl
  ·exact hall i hi
  ·exact he
 ·cases hf:zah xs u with
  | false=>rfl
  | true =>
    obtain ⟨x,hx',hx2⟩:=zcy.1 hf
    obtain ⟨i,hi,rfl⟩:=zaV 0 hx'
    have:=hall i om
    rw [hx2] at this
    simp at this
noncomputable def za8 (n:Int) (xs:List Int) (s:Nat):Bool:=zaC n xs && zah xs s
theorem zmV (l:List Nat) (s:Nat):inF (ofN l) s = decide (s ∈ l):=by
 unfold inF ofN
 refine decide_eq_decide.2 ?_
 simp only [List.mem_map]
 exact ⟨fun ⟨a,h1,h2⟩=>by have:a = s:=om
                          exact this ▸ h1,fun h=>⟨s,h,rfl⟩⟩
theorem zDq {l:List Nat} (h:∀ s ∈ l,s < 64):∀ x ∈ ofN l,0 <= x/\x < 64:=fun x hx=>by
 obtain ⟨s,hs,rfl⟩:=List.mem_map.1 hx
 have:=h s hs
 omega
theorem zb6 (n:Int) (xs:List Int):AC Tryz.prog 83 [.ag [int n,zaz xs]] (.fr 3 1 (iL (ofN (za4 (za8 n xs))))):=by
 refine xac [.tmp 2] Tryz.func83 fun hl=>?_
 refine xg0 ?_
 have fin:∀ m,m = 64->za4 (inF (ofN ((List.range m).filter (za8 n xs)))) = za4 (za8 n xs):=fun m hm=>by
  refine zeS fun s hs=>?_
  rw [zmV,hm]
  cases h:za8 n xs s <;> simp [h,hs]
 have hmem:∀ m,m <= 64->∀ s ∈ (List.range m).filter (za8 n xs),s < 64:=fun m hm s hs=>by
  have:=List.mem_range.1 (List.mem_filter.1 hs).1;omega
 refine zag (fun (za:Nat × Nat) s=>match za with | (m,v)=>(s.sl 1 = .ref 1 1 0/\s.rw 1 = ⟨1,.box 27 [int n,zaz xs]⟩/\s.sl 3 = .own 5 v/\s.rw 5 = ⟨v,.sli 3 1 false (iL (ofN ((List.range m).filter (za8 n xs))))⟩/\s.sl 4 = int m)/\(m <= 64)) (fun (m,v)=>64 - m) ((0,1)) ⟨xc0,sp⟩ ?_
 intro (m,v) sa ⟨Ha,hIa⟩
 have hflen:((List.range m).filter (za8 n xs)).length <= 64:=by
  have:=List.length_filter_le (za8 n xs) (List.range m);rw [List.length_range] at this;omega
 refine xg1 Ha ?_
 refine ⟨fun h=>zaa (zat n xs) ?_,fun h=>?_⟩
 ·refine xg1 Ha ?_
  have hm:m < 64:=om
  refine ⟨fun hc=>zaa (zdv n xs m (zcb hc) hm) ?_,fun hc=>zaa (zeA _ (zDq (hmem m hIa))) ?_⟩
  ·refine xg2 Ha @zad ?_
   refine ⟨fun hf=>?_,fun hf=>?_⟩
   ·have e:(List.range (m + 1)).filter (za8 n xs) = (List.range m).filter (za8 n xs) ++ [m]:=by
     rw [List.range_succ,List.filter_append]
     simp [za8,hc,hf]
    refine ⟨om,?_⟩
    exact zab ((m + 1,v + 1)) ⟨(xc5 Ha (zac hm om) e @zaD @zdd),by dsimp only;omega⟩
   ·have e:(List.range (m + 1)).filter (za8 n xs) = (List.range m).filter (za8 n xs):=by
     rw [List.range_succ,List.filter_append]
     simp [za8,hc,hf]
    exact zab ((m + 1,v)) ⟨(xc3 Ha (zac hm om) e),by dsimp only;omega⟩
  ·refine xg1 Ha ?_
   have e1:(List.range m).filter (za8 n xs) = []:=by
    rw [List.filter_eq_nil_iff];intro s _;simp [za8,hc]
   have e2:za4 (za8 n xs) = za4 (inF (ofN [])):=zeS fun s _=>by rw [zmV];simp [za8,hc]
   rw [e1,e2]
 ·have:m = 64:=om
  refine zaa (zeA _ (zDq (hmem m hIa))) ?_
  refine xg1 Ha ?_
  rw [fin m this]
theorem zps {f:Nat->Bool} {k:Nat} (h:k < (za4 f).length):(za4 f).getD k 0 < 64:=(zaO.1 (zaj 0 h)).1
theorem ziA (n:Int) (xs:List Int) (k:Int):AC Tryz.prog 141 [.ag [int n,zaz xs],int k] (.fr 3 1 (iL (ofN ((za4 (za8 n xs)).filter fun s=>(zar s:Int) == k)))):=by
 refine xac [.tmp 4] Tryz.func141 fun hl=>?_
 refine xg0 ?_
 refine zaa (zb6 n xs) ?_
 refine xg0 ?_
 have hfull:=zca (za8 n xs)
 have hmem:∀ i,i < (za4 (za8 n xs)).length->(za4 (za8 n xs)).getD i 0 < 64:=fun i h=>zps h
 generalize za4 (za8 n xs) = all at *
 refine zag (fun (za:Nat × Nat × Nat) s=>match za with | (i,v,u)=>(s.sl 1 = int k/\s.sl 5 = .own 8 v/\s.rw 8 = ⟨v,.sli 3 1 false (iL (ofN ((all.take i).filter fun s=>(zar s:Int) == k)))⟩/\s.sl 6 = .own 10 u/\s.rw 10 = ⟨u,.sli 3 1 false (iL (ofN all))⟩/\s.sl 7 = int i)/\(i <= all.length)) (fun (i,v,u)=>all.length - i) ((0,1,1)) ⟨xc0,sp⟩ ?_
 intro (i,v,u) sa ⟨Ha,hIa⟩
 have hfl:((all.take i).filter fun s=>(zar s:Int) == k).length <= i:=by
  have:=List.length_filter_le (fun s=>(zar s:Int) == k) (all.take i);rw [List.length_take] at this;omega
 refine xg2 Ha @zad ?_
 refine ⟨fun h=>?_,fun h=>?_⟩
 ·have hi:=hmem i h
  have hge:(ofN all).getD i 0 = ((all.getD i 0:Nat):Int):=zay h
  rw [hge]
  refine ⟨h,h,zaa (zaM _ om) ?_⟩
  refine xg3 Ha @zad hge ?_
  refine ⟨fun hp=>⟨h,h,om,?_⟩,fun hp=>?_⟩
  ·have e:(all.take (i + 1)).filter (fun s=>(zar s:Int) == k) = (all.take i).filter (fun s=>(zar s:Int) == k) ++ [all.getD i 0]:=ziB h hp
   exact zab ((i + 1,v + 1,u)) ⟨(xc6 Ha (zac h om) e @zaD @zdd hge),by dsimp only;omega⟩
  ·have e:(all.take (i + 1)).filter (fun s=>(zar s:Int) == k) = (all.take i).filter (fun s=>(zar s:Int) == k):=zmW h hp
   exact zab ((i + 1,v,u)) ⟨(xc3 Ha (zac h om) e),by dsimp only;omega⟩
 ·have:i = all.length:=om
  rw [this,List.take_length]
theorem zu9 (f:Nat->Bool) (k:Nat):(za4 f).filter (fun s=>(zar s:Int) == (k:Int)) = zaR f k 64:=by
 rw [<- zm0 f k]
 refine List.filter_congr fun s _=>?_
 cases h:(zar s == k) with
 | true=>have:=beq_iff_eq.1 h;simp [this]
 | false=>have:=beq_eq_false_iff_ne.1 h;rw [beq_eq_false_iff_ne];exact fun e=>this om
theorem zcL (n:Int) (xs:List Int) (k:Nat):AC Tryz.prog 141 [.ag [int n,zaz xs],int k] (.fr 3 1 (iL (ofN (zaR (za8 n xs) k 64)))):=by
 have:=ziA n xs k
 rwa [zu9] at this
theorem zcM (p:Int):AC Tryz.prog 85 [int p] (.im (bool (isP p))):=by
 refine xac [.tmp 2] Tryz.func85 fun hl=>?_
 refine xg0 ?_
 unfold isP
 exact ⟨fun h=>⟨fun h2=>by simp [h,h2],fun h2=>by simp [h,h2]⟩,fun h=>by simp [h]⟩
theorem zb2 (p:Int):AC Tryz.prog 97 [int p] (.im (bool (isP p))):=by
 refine xac [.tmp 2] Tryz.func97 fun hl=>?_
 refine xg0 ?_
 unfold isP
 exact ⟨fun h=>⟨fun h2=>by simp [h,h2],fun h2=>by simp [h,h2]⟩,fun h=>by simp [h]⟩
theorem zpw {a p:Int} (hp:0 < p):-p < a.tmod p/\a.tmod p < p:=⟨Int.lt_tmod_of_pos a hp,Int.tmod_lt_of_pos a hp⟩
theorem zfk (a p:Int) (hp:isP p = true):AC Tryz.prog 184 [int a,int p] (.im (int (a % p))):=by
 refine xac [.tmp 4] Tryz.func184 fun hl=>?_
 have hp:=zcJ hp
 have h1:=zpw (a:=a) (by omega:0 < p)
 have hw:IntKind.i64.wrap (a.tmod p + p) = a.tmod p + p:=zai om om
 have hm:=zDi a p om
 refine xg2 hw hm ?_
 omega
theorem zhi (a p:Int) (hp:isP p = true):AC Tryz.prog 214 [int a,int p] (.im (int (a % p))):=by
 refine xac [.tmp 4] Tryz.func214 fun hl=>?_
 have hp:=zcJ hp
 have h1:=zpw (a:=a) (by omega:0 < p)
 have hw:IntKind.i64.wrap (a.tmod p + p) = a.tmod p + p:=zai om om
 have hm:=zDi a p om
 refine xg1 hw ?_
 refine ⟨om,fun h=>?_,fun h=>?_⟩
 ·rw [<- hm,zcY om,Int.emod_eq_of_lt om om]
 ·rw [<- hm,Int.tmod_eq_emod_of_nonneg om,Int.add_emod_right,Int.emod_eq_of_lt om om]
theorem zk2 {p r b:Int} (h:b < p):zdy p r b (p - b).toNat = if r * b % p = 1 then b else zdy p r (b + 1) (p - (b + 1)).toNat:=by
 have e:(p - b).toNat = (p - (b + 1)).toNat + 1:=om
 rw [e,zdy]
theorem zjp (a p:Int) (hp:isP p = true):AC Tryz.prog 208 [int a,int p] (.im (int (znL p a))):=by
 refine xac [.tmp 4] Tryz.func208 fun hl=>?_
 have hp2:=zcJ hp
 refine xg0 ?_
 refine zaa (zcM p) ?_
 refine xg1 hp ?_
 have hr:=Int.emod_nonneg a (by omega:p ≠ 0)
 have hr2:=Int.emod_lt_of_pos a (by omega:0 < p)
 refine zag (fun (b:Int) s=>(s.sl 0 = int a/\s.sl 1 = int p/\s.sl 5 = int b)/\(1 <= b/\b <= p/\znL p a = zdy p (a % p) b (p - b).toNat)) (fun b=>(p - b).toNat) (1) ⟨xc0,⟨om,om,rfl⟩⟩ ?_
 intro b sa ⟨Ha,hIa⟩
 obtain ⟨hb,hb2,hv⟩:=hIa
 refine xg1 Ha ?_
 refine ⟨fun h=>zaa (zfk a p hp) ?_,fun h=>?_⟩
 ·have hm:0 <= a % p * b/\a % p * b <= 20:=by
   refine ⟨Int.mul_nonneg hr om,?_⟩
   have:=Int.mul_le_mul (show a % p <= 4 by omega) (show b <= 5 by omega) om om
   omega
  have hw:IntKind.i64.wrap (a % p * b) = a % p * b:=zai om om
  have hw2:IntKind.i64.wrap (b + 1) = b + 1:=zai om om
  simp -dsimp only [↓gp,gq,simprocAttr,gT,Ha,hw,hw2,zcY hm.1]
  refine ⟨om,fun h1=>?_,fun h1=>zab (b + 1) ⟨(xc2 Ha hw2),⟨om,om,?_⟩⟩⟩
  ·have h1:=beq_iff_eq.1 h1
   rw [hv,zk2 h,if_pos h1]
  ·have h1:¬ a % p * b % p = 1:=by simpa using h1
   rw [hv,zk2 h,if_neg h1]
 ·have:(p - b).toNat = 0:=om
  rw [hv,this];rfl
theorem zjq (a p:Int) (hp:isP p = true):AC Tryz.prog 213 [int a,int p] (.im (int (znL p a))):=by
 refine xac [.tmp 4] Tryz.func213 fun hl=>?_
 have hp2:=zcJ hp
 refine xg0 ?_
 refine zaa (zb2 p) ?_
 refine xg1 hp ?_
 have hr:=Int.emod_nonneg a (by omega:p ≠ 0)
 have hr2:=Int.emod_lt_of_pos a (by omega:0 < p)
 refine zaa (zhi a p hp) ?_
 refine xg0 ?_
 refine zag (fun (b:Int) s=>(s.sl 1 = int p/\s.sl 5 = int (a % p)/\s.sl 6 = int b)/\(1 <= b/\b <= p/\znL p a = zdy p (a % p) b (p - b).toNat)) (fun b=>(p - b).toNat) (1) ⟨xc0,⟨om,om,rfl⟩⟩ ?_
 intro b sa ⟨Ha,hIa⟩
 obtain ⟨hb,hb2,hv⟩:=hIa
 have hm:0 <= a % p * b/\a % p * b <= 20:=by
  refine ⟨Int.mul_nonneg hr om,?_⟩
  have:=Int.mul_le_mul (show a % p <= 4 by omega) (show b <= 5 by omega) om om
  omega
 have hw:IntKind.i64.wrap (a % p * b) = a % p * b:=zai om om
 have hw2:IntKind.i64.wrap (b + 1) = b + 1:=zai om om
 simp -dsimp only [↓gp,gq,simprocAttr,gT,Ha,hw,hw2,zcY hm.1]
 refine ⟨fun h=>⟨om,fun h1=>?_,fun h1=>zab (b + 1) ⟨(xc2 Ha hw2),⟨om,om,?_⟩⟩⟩,fun h=>?_⟩
 ·have h1:=beq_iff_eq.1 h1
  rw [hv,zk2 h,if_pos h1]
 ·have h1:¬ a % p * b % p = 1:=by simpa using h1
  rw [hv,zk2 h,if_neg h1]
 ·have:(p - b).toNat = 0:=om
  rw [hv,this];rfl
theorem zyd (p:Int) {r:List Int} {j:Nat} (h:j < r.length):(r.map fun x=>x % p).getD j 0 = r.getD j 0 % p:=by simp [List.getD,h]
theorem ztP (p:Int) {M:Mat} {i:Nat} (h:i < M.length):zhL p (M.take i) ++ [(M.getD i []).map fun x=>x % p] = zhL p (M.take (i + 1)):=by
 rw [zas [] h];simp [zhL]
theorem ziG (p:Int) {M:Mat} {i:Nat} (h:i <= M.length):(zhL p (M.take i)).length = i:=by simp [zhL];omega
theorem zks (M:Mat) (p:Int) (hp:isP p = true) (hM:M.length <= 900) (hr:∀ i,i < M.length->(M.getD i []).length <= 1000):AC Tryz.prog 189 [zEB M,int p] (.tb 22 3 ((zhL p M).map iL)):=by
 refine xac [.tmp 4] Tryz.func189 fun hl=>?_
 refine xg0 ?_
 refine ⟨om,om,?_⟩
 refine zx3 (k:=12) (v:=1) (e:=22) (e2:=3) (n:=M.length) xr0 (fun j=>by simp -dsimp only [gr,simprocAttr]) (fun (i:Nat) s=>(s.sl 0 = zEB M/\s.sl 1 = int p/\s.sl 5 = .own 12 1/\s.sl 13 = zEB M/\s.sl 14 = int M.length/\s.sl 15 = int i)/\(i <= M.length/\TabP s.rw 12 1 22 3 M.length i (zhL p (M.take i)))) (fun i=>M.length - i) (0) (fun sX htX hslX hoX=>⟨(xc2 hslX hoX),⟨om,htX⟩⟩) ?_
 intro i sa ⟨Ha,hIa⟩
 obtain ⟨hi,ht⟩:=hIa
 refine xg3 Ha @ht.top @zbW ?_
 refine ⟨fun h=>⟨h,h,by have:=hr i h;omega,by have:=hr i h;omega,h,om,?_⟩,fun h=>?_⟩
 ·have hri:=hr i h
  have hlen:=ziG p hi
  generalize hrow:M.getD i [] = row at *
  refine ztB (k:=12) (v:=1) (e:=22) (e2:=3) (n:=M.length) (i:=i) (d:=24) (vd:=(sa.rw 24).ver + 1) (M:=zhL p (M.take i)) (r:=List.replicate row.length 0) (xr1 @ht.top) hlen (fun j hj=>by simp -dsimp only [gr,simprocAttr,ht.row j hj]) (fun j hj=>by simp -dsimp only [gr,simprocAttr,ht.rest j hj]) xr0 (by decide) (by decide) h (fun (j:Nat) s=>(s.sl 0 = zEB M/\s.sl 1 = int p/\s.sl 5 = .own 12 1/\s.sl 13 = zEB M/\s.sl 14 = int M.length/\s.sl 15 = int i/\s.sl 6 = int i/\s.sl 7 = zaz row/\s.sl 26 = zaz row/\s.sl 27 = int row.length/\s.sl 28 = int j)/\(j <= row.length/\TabP s.rw 12 1 22 3 M.length (i + 1) (zhL p (M.take i) ++ [prt (row.map fun x=>x % p) (List.replicate row.length 0) j]))) (fun j=>row.length - j) (0) (fun sX htX hslX hoX=>⟨(xc3 hslX hoX Ha),⟨om,by rw [zfe];exact htX⟩⟩) ?_
  intro j sb ⟨Hb,hIb⟩
  obtain ⟨hj,ht2⟩:=hIb
  have hrr:=ht2.row i om
  rw [ztC hlen] at hrr
  have hpl:∀ t,(prt (row.map fun x=>x % p) (List.replicate row.length 0) t).length = row.length:=fun t=>by rw [zdb sp];simp
  refine xg6 Hb @ht2.top @zmC hrr hpl @zbW ?_
  refine ⟨fun h2=>⟨h2,h2,kr,h,h,zaa (zhi _ p hp) ?_⟩,fun h2=>?_⟩
  ·refine xg6 Hb @ht2.top @zmC hrr hpl @zbW ?_
   refine ⟨h2,om,kr,zab (j + 1) ⟨(xc2 Hb (zac h2 om)),⟨om,?_⟩⟩⟩
   have e:zhL p (M.take i) ++ [prt (row.map fun x=>x % p) (List.replicate row.length 0) (j + 1)] = (zhL p (M.take i) ++ [prt (row.map fun x=>x % p) (List.replicate row.length 0) j]).set i ((prt (row.map fun x=>x % p) (List.replicate row.length 0) j).set j (row.getD j 0 % p)):=by
    rw [zx4 hlen,<- zhy sp (by simpa using h2),zyd p h2]
   rw [e]
   exact ht2.set om (xr1 Hb) (xr1 Hb) (fun x hx=>by simp -dsimp only [gr,simprocAttr,Hb,hx])
  ·have:j = row.length:=om
   subst this
   refine zab (i + 1) ⟨(xc3 Ha Hb (zac h om)),⟨om,?_⟩⟩
   have e:prt (row.map fun x=>x % p) (List.replicate row.length 0) row.length = row.map fun x=>x % p:=by
    have:=zhx (new:=row.map fun x=>x % p) (old:=List.replicate row.length 0) sp
    simpa using this
   have ht3:=ht2
   rw [e,<- hrow,ztP p h] at ht3
   exact ht3.same xr0 (fun x=>by simp -dsimp only [gr,simprocAttr])
 ·have:i = M.length:=om
  subst this
  rw [List.take_length] at ht
  exact ztA ht.done (by decide) (fun j hj=>by have:=List.mem_range.1 hj;omega)
theorem ziF {a b p:Int} (h1:0 <= a/\a < p) (h2:0 <= b/\b <= 5) (hp:p <= 5):0 <= a * b/\a * b <= 25:=by
 refine ⟨Int.mul_nonneg h1.1 h2.1,?_⟩
 have:=Int.mul_le_mul (show a <= 5 by omega) h2.2 h2.1 om
 omega
theorem zFT (l:List Int) (j:Nat):prt l l j = l:=by simp [prt]
theorem zm1 (M:Mat) (n a c:Nat) (p:Int) (hp:isP p = true) (hM:MatOk p n M) (ha:a < M.length) (hc:c < n) (hn:n <= 1000):AT Tryz.prog 185 [.own 1000000 1,int a,int c,int p] 22 3 (M.map iL) ((zdZ p a c M).map iL) .self:=by
 refine AT.goI (rs:=[.tmp 8]) zzS mixed Tryz.func185 rfl rfl rfl kr (zbm p a c M) fun hl s hs hlow ht=>?_
 have hp2:=zcJ hp
 have hlen:=hM.len a ha
 have hres:=hM.res a ha
 have hac:=hres c
 have hra:=ht.row ha
 have hq:∀ i,i < M.length->(List.range M.length).getD i 0 = i:=fun i hi=>by simp [List.getD,hi]
 rw [hq a ha] at hra
 refine xg5 hs hlow @ht.top hra (hq a ha) ?_
 refine ⟨ha,ha,om,om,zaa (zjp _ p hp) ?_⟩
 generalize hb:znL p ((M.getD a []).getD c 0) = b at *
 have hbb:=zDe hp ((M.getD a []).getD c 0)
 rw [hb] at hbb
 refine xg2 hs hlow ?_
 generalize hold:M.getD a [] = old at *
 refine zag (fun (j:Nat) s=>(s.sl 0 = .own 1000000 1/\s.sl 1 = int a/\s.sl 2 = int c/\s.sl 3 = int p/\s.sl 9 = int b/\s.sl 10 = int j)/\(j <= n/\TabI s.rw 1000000 1 22 3 (List.range M.length) (M.set a (prt (scl p b old) old j)))) (fun j=>n - j) (0) ⟨(xc1 hs),⟨om,by rw [zfe,<- hold,zcm];exact ht.same xr0 (fun x=>by simp -dsimp only [gr,simprocAttr])⟩⟩ ?_
 intro j sa ⟨Ha,hIa⟩
 obtain ⟨hj,ht1⟩:=hIa
 have hset:a < (M.set a (prt (scl p b old) old j)).length:=by simpa using ha
 have hr1:=ht1.row hset
 have hpl:(prt (scl p b old) old j).length = n:=by rw [zdb (zb5 p b old)];exact hlen
 rw [zaN ha,hq a ha] at hr1
 have hpj:=zkX (zb5 p b old) (Nat.le_refl j)
 have hoj:=hres j
 have hmb:=ziF hoj ⟨hbb.1,om⟩ hp2.2
 have hw:IntKind.i64.wrap (old.getD j 0 * b) = old.getD j 0 * b:=zai om om
 simp -dsimp only [↓gp,gq,simprocAttr,gT,Ha,ht1.top,hr1,hq a ha,hpl,hpj,hw,zcY hmb.1]
 refine ⟨ha,ha,fun h=>⟨kr,ha,ha,ha,ha,h,h,om,h,om,kr,?_⟩,fun h=>?_⟩
 ·refine zab (j + 1) ⟨(xc2 Ha (zac h om)),⟨om,?_⟩⟩
  have e:M.set a (prt (scl p b old) old (j + 1)) = (M.set a (prt (scl p b old) old j)).set a ((prt (scl p b old) old j).set j (old.getD j 0 * b % p)):=by
   rw [zqx,<- zhy (zb5 p b old) om,zgI p b om]
  rw [e]
  refine ht1.set hset (xr1 Ha) ?_ (fun x hx=>?_)
  ·rw [hq a ha];simp -dsimp only [gr,simprocAttr,Ha]
  ·rw [hq a ha] at hx
   simp -dsimp only [gr,simprocAttr,Ha,hx]
 have:j = n:=om
 subst this
 have hend:prt (scl p b old) old j = scl p b old:=by rw [<- hlen];exact zhx (zb5 p b old)
 rw [hend] at ht1
 have hclr:M.set a (scl p b old) = ztE p a c M:=by unfold ztE;rw [hold,hb]
 rw [hclr] at ht1
 have hM1:=zu1 (p:=p) (n:=j) (at':=a) (col:=c) om hM ha
 have hl1:(ztE p a c M).length = M.length:=zdc p a c M
 have hgoal:zdZ p a c M = zgJ p a c (ztE p a c M) M.length:=rfl
 rw [hgoal]
 generalize ztE p a c M = M1 at *
 refine zag (fun (i:Nat) s=>(s.sl 0 = .own 1000000 1/\s.sl 1 = int a/\s.sl 2 = int c/\s.sl 3 = int p/\s.sl 11 = int i)/\(i <= M.length/\TabI s.rw 1000000 1 22 3 (List.range M.length) (zgJ p a c M1 i))) (fun i=>M.length - i) (0) ⟨(xc1 Ha),⟨om,by rw [ztF];exact ht1.same xr0 (fun x=>by simp -dsimp only [gr,simprocAttr])⟩⟩ ?_
 intro i sb ⟨Hb,hIb⟩
 obtain ⟨hi,ht2⟩:=hIb
 have hlN:(zgJ p a c M1 i).length = M.length:=by rw [zbX,hl1]
 refine xg2 Hb @ht2.top ?_
 refine ⟨fun h=>?_,fun h=>?_⟩
 ·have hi1:i < M1.length:=om
  have hr2:=ht2.row (i:=i) om
  rw [zjm p a c hi1 (Nat.le_refl i),hq i h] at hr2
  have hl2:=hM1.len i hi1
  have hres2:=hM1.res i hi1
  generalize hold2:M1.getD i [] = old2 at *
  refine xg4 Hb @ht2.top hr2 (hq i h) ?_
  refine ⟨h,h,om,om,?_⟩
  have hf:=hres2 c
  generalize hfe:old2.getD c 0 = f at *
  have hra1:a < M1.length:=om
  have hnew:(zhK p a c M1 i).length = old2.length:=by
   rw [(zqy (p:=p) om hM1 hi1).1,hl2]
  refine zag (fun (t:Nat) s=>(s.sl 0 = .own 1000000 1/\s.sl 1 = int a/\s.sl 2 = int c/\s.sl 3 = int p/\s.sl 11 = int i/\s.sl 12 = int f/\s.sl 13 = int t)/\(t <= old2.length/\TabI s.rw 1000000 1 22 3 (List.range M.length) ((zgJ p a c M1 i).set i (prt (zhK p a c M1 i) old2 t)))) (fun t=>old2.length - t) (0) ⟨(xc1 Hb),⟨om,(ht2.same xr0 (fun x=>by simp -dsimp only [gr,simprocAttr])).to (by rw [zfe,<- hold2,<- zjm p a c hi1 (Nat.le_refl i),zcm])⟩⟩ ?_
  intro t sc ⟨Hc,hIc⟩
  obtain ⟨ht',ht3⟩:=hIc
  have hls:((zgJ p a c M1 i).set i (prt (zhK p a c M1 i) old2 t)).length = M.length:=by rw [List.length_set,hlN]
  have hr3:=ht3.row (i:=i) om
  rw [zaN om,hq i h] at hr3
  have hpl3:(prt (zhK p a c M1 i) old2 t).length = old2.length:=zdb hnew t
  have hpj3:=zkX hnew (Nat.le_refl t)
  refine xg5 Hc @ht3.top hr3 (hq i h) hpl3 ?_
  refine ⟨h,h,fun h2=>⟨fun hne=>?_,fun heq=>?_⟩,fun h2=>?_⟩
  ·have hia:¬ i = a:=by
    intro e
    simp [e] at hne
   have hr4:=ht3.row (i:=a) om
   rw [zbD hia,zDg p a c i hra1,hq a ha] at hr4
   have hla:=hM1.len a hra1
   have hresa:=hM1.res a hra1
   have hcI:zhK p a c M1 i = sbt p f (M1.getD a []) old2:=by unfold zhK;rw [if_neg hia,hold2,hfe]
   generalize hpiv:M1.getD a [] = piv at *
   have hft:=ziF hf ⟨(hresa t).1,by have:=(hresa t).2;omega⟩ hp2.2
   have hot:=hres2 t
   have hw3:IntKind.i64.wrap (f * piv.getD t 0) = f * piv.getD t 0:=zai om om
   have hw4:IntKind.i64.wrap (old2.getD t 0 - f * piv.getD t 0) = old2.getD t 0 - f * piv.getD t 0:=zai om om
   simp -dsimp only [↓gp,gq,simprocAttr,gT,Hc,ht3.top,hr3,hq i h,hpl3,hr4,hq a ha,hpj3,hw3,hw4]
   refine ⟨kr,h,h,h,h,h2,h2,ha,ha,om,om,zaa (zfk _ p hp) ?_⟩
   simp -dsimp only [↓gp,gq,simprocAttr,gT,Hc,ht3.top,hr3,hq i h,hpl3,hr4,hq a ha,hpj3,hw3,hw4]
   refine ⟨h2,om,kr,zab (t + 1) ⟨(xc2 Hc (zac h2 om)),⟨om,?_⟩⟩⟩
   have e:(zgJ p a c M1 i).set i (prt (zhK p a c M1 i) old2 (t + 1)) = ((zgJ p a c M1 i).set i (prt (zhK p a c M1 i) old2 t)).set i ((prt (zhK p a c M1 i) old2 t).set t ((old2.getD t 0 - f * piv.getD t 0) % p)):=by
    rw [zqx,<- zhy hnew h2,<- zdJ p f (piv:=piv) h2,hcI]
   rw [e]
   refine ht3.set om (xr1 Hc) ?_ (fun x hx=>?_)
   ·rw [hq i h];simp -dsimp only [gr,simprocAttr,Hc]
   ·rw [hq i h] at hx
    simp -dsimp only [gr,simprocAttr,Hc,hx]
  ·have hia:i = a:=by
    have h9:(i:Int) = a:=by simpa using heq
    omega
   have hcI:zhK p a c M1 i = old2:=by unfold zhK;rw [if_pos hia,hold2]
   have ht4:=ht3
   rw [hcI,zFT,<- hcI,zgk p a c hi1] at ht4
   exact zab (i + 1) ⟨(xc3 Hb Hc (zac h om)),⟨om,ht4.same xr0 (fun x=>by simp -dsimp only [gr,simprocAttr])⟩⟩
  ·have:t = old2.length:=om
   have ht4:=ht3
   rw [this,zhx hnew,zgk p a c hi1] at ht4
   exact zab (i + 1) ⟨(xc3 Hb Hc (zac h om)),⟨om,ht4.same xr0 (fun x=>by simp -dsimp only [gr,simprocAttr])⟩⟩
 ·have:i = M.length:=om
  rw [this] at ht2
  exact zmA (ht2.same xr0 (fun x=>by simp -dsimp only [gr,simprocAttr])) (List.Perm.refl _)
theorem zNI (q:List Nat) {a b:Nat} (ha:a < q.length) (hb:b < q.length):((q.set a (q.getD b 0)).set b (q.getD a 0)).getD a 0 = q.getD b 0:=by
 by_cases h:b = a
 ·subst h;simp [List.getD,ha]
 ·simp only [List.getD]
  rw [List.getElem?_set_ne h,List.getElem?_set_self ha];rfl
theorem zNJ {M:Mat} {a b:Nat} (ha:a < M.length):(swp M a b).getD a [] = M.getD b []:=by
 unfold swp
 by_cases h:b = a
 ·subst h;rw [zaN (by simpa using ha)]
 ·rw [zbD h,zaN ha]
theorem ziE {M:Mat} {col a m:Nat} (h:a < m):zbi M col a (m - a) = if (M.getD a []).getD col 0 = 0 then zbi M col (a + 1) (m - (a + 1)) else a:=by
 have e:m - a = (m - (a + 1)) + 1:=om
 rw [e,zbi]
theorem zyc {p:Int} {M:Mat} {piv:List Nat} {col n:Nat} (h:col < n) (h2:piv.length < M.length):zhz p M piv col (n - col) = zhz p (zbw p M col piv).1 (zbw p M col piv).2 (col + 1) (n - (col + 1)):=by
 have e:n - col = (n - (col + 1)) + 1:=om
 rw [e,zhz,if_pos h2]
theorem ztO {p:Int} {a c i:Nat} {M:Mat} (h:Res p (M.getD i [])) (hz:i = a \/ (M.getD i []).getD c 0 = 0):zhK p a c M i = M.getD i []:=by
 unfold zhK
 split
 ·rfl
 ·rename_i hne
  rw [hz.resolve_left hne,zFy h]
theorem zJe {p x f y:Int} (hp:0 < p):(x + (p - f) * y) % p = (x - f * y) % p:=by
 have e:x + (p - f) * y = (x - f * y) + p * y:=by rw [Int.sub_mul];omega
 rw [e,Int.add_mul_emod_self_left]
theorem zkr (M:Mat) (n:Nat) (p:Int) (hp:isP p = true) (hM:MatOk p n M) (hm:M.length <= 900) (hn:n <= 1000):AT Tryz.prog 188 [.own 1000000 1,int n,int p] 22 3 (M.map iL) ((zhz p M [] 0 n).1.map iL) (.rv (.fr 3 1 (iL (ofN (zhz p M [] 0 n).2)))):=by
 refine AT.goI (rs:=[.tmp 6]) zzS mixed Tryz.func188 rfl rfl rfl kr (zu2 p n M [] 0) fun hl s hs hlow ht=>?_
 have hp2:=zcJ hp
 refine xg2 hs hlow ?_
 refine zag (fun (za:Mat × List Nat × Nat × List Nat × Nat) s=>match za with | (cur,piv,col,q,v)=>(s.sl 0 = .own 1000000 1/\s.sl 1 = int n/\s.sl 2 = int p/\s.sl 7 = .own 7 v/\s.rw 7 = ⟨v,.sli 3 1 false (iL (ofN piv))⟩/\s.sl 8 = int col)/\(col <= n/\MatOk p n cur/\cur.length = M.length/\piv.length <= M.length/\TabI s.rw 1000000 1 22 3 q cur/\q.Perm (List.range M.length)/\zhz p M [] 0 n = zhz p cur piv col (n - col))) (fun (cur,piv,col,q,v)=>n - col) ((M,[],0,List.range M.length,1)) ⟨(xc2 hs hlow),⟨om,hM,rfl,sp,ht.same xr0 (fun x=>by simp -dsimp only [gr,simprocAttr]),List.Perm.refl _,rfl⟩⟩ ?_
 intro (cur,piv,col,q,v) sa ⟨Ha,hIa⟩
 obtain ⟨hcol,hcur,hlc,hpl,htc,hperm,hred⟩:=hIa
 have hlq:q.length = cur.length:=htc.len
 refine xg4 Ha @htc.top hlq @zad ?_
 refine ⟨fun h1=>⟨fun h2=>?_,fun h2=>?_⟩,fun h1=>?_⟩
 ·have h1:col < n:=om
  have h2:piv.length < cur.length:=om
  rw [zyc h1 h2] at hred
  refine zag (fun (a:Nat) s=>(s.sl 0 = .own 1000000 1/\s.sl 1 = int n/\s.sl 2 = int p/\s.sl 7 = .own 7 v/\s.rw 7 = ⟨v,.sli 3 1 false (iL (ofN piv))⟩/\s.sl 8 = int col/\s.sl 9 = int piv.length/\s.sl 10 = int a)/\(piv.length <= a/\a <= cur.length/\zbi cur col piv.length (cur.length - piv.length) = zbi cur col a (cur.length - a)/\TabI s.rw 1000000 1 22 3 q cur)) (fun a=>cur.length - a) (piv.length) ⟨(xc1 Ha),⟨om,om,rfl,htc.same xr0 (fun x=>by simp -dsimp only [gr,simprocAttr])⟩⟩ ?_
  intro a sb ⟨Hb,hIb⟩
  obtain ⟨ha1,ha2,hfind,htb⟩:=hIb
  have stop:(¬ a < cur.length \/ ¬ (cur.getD a []).getD col 0 = 0)->zbi cur col piv.length (cur.length - piv.length) = a:=fun h=>by
   rw [hfind]
   by_cases hlt:a < cur.length
   ·rw [ziE hlt,if_neg (h.resolve_left om)]
   ·rw [show cur.length - a = 0 by omega];rfl
  refine xg3 Hb @htb.top hlq ?_
  refine ⟨fun h3=>?_,fun h3=>?_⟩
  ·have hra:=htb.row h3
   have hlen:=hcur.len a h3
   refine xg4 Hb @htb.top hlq hra ?_
   refine ⟨h3,h3,om,om,fun hz=>?_,fun hz=>?_⟩
   ·have hz:=beq_iff_eq.1 hz
    rw [ziE h3,if_pos hz] at hfind
    exact zab (a + 1) ⟨(xc2 Hb (zac h3 om)),⟨om,om,hfind,htb.same xr0 (fun x=>by simp -dsimp only [gr,simprocAttr])⟩⟩
   ·have hz:¬ (cur.getD a []).getD col 0 = 0:=by simpa using hz
    have hfa:=stop (.inr hz)
    have hne:((a:Int) == (cur.length:Int)) = false:=by simp;omega
    have hst:zbw p cur col piv = (zdZ p piv.length col (swp cur piv.length a),piv ++ [col]):=by unfold zbw;rw [hfa,if_neg om]
    rw [hst] at hred
    have hda:(q.set piv.length (q.getD a 0)).length = q.length:=sp
    have hrd:=htb.row h2
    have hsa:=zNI q (a:=piv.length) (b:=a) om om
    refine xg7 Hb @htb.top hlq hra hne hrd hsa ?_
    refine ⟨kr,h3,h3,h2,h2,h2,om,h3,om,kr,h2,h2,om,om,?_⟩
    refine zaa (zjq _ p hp) ?_
    have hold:=hcur.len a h3
    have hrold:=hcur.res a h3
    generalize hoe:cur.getD a [] = old at *
    have hiv:znL p (old.getD col 0) = znL p (old.getD col 0):=rfl
    have hbb:=zDe hp (old.getD col 0)
    generalize hbe:znL p (old.getD col 0) = b at *
    have hswl:(swp cur piv.length a).length = cur.length:=zcn _ _ _
    have hswa:(swp cur piv.length a).getD piv.length [] = old:=by rw [zNJ h2,hoe]
    have hsw:=zx7 hcur h2 h3
    refine xg7 Hb @htb.top hlq hra hne hrd hsa ?_
    refine ⟨h2,h2,?_⟩
    have hlq':((q.set piv.length (q.getD a 0)).set a (q.getD piv.length 0)).length = cur.length:=by simp [hlq]
    have hperm':((q.set piv.length (q.getD a 0)).set a (q.getD piv.length 0)).Perm q:=by
     have e1:q.getD piv.length 0 = q[piv.length]'om:=by simp [List.getD,(by omega:piv.length < q.length)]
     have e2:q.getD a 0 = q[a]'om:=by simp [List.getD,(by omega:a < q.length)]
     rw [e1,e2];exact List.set_set_perm om om
    have hclr1:(swp cur piv.length a).set piv.length (scl p b old) = ztE p piv.length col (swp cur piv.length a):=by unfold ztE;rw [hswa,hbe]
    have hcl:zdZ p piv.length col (swp cur piv.length a) = zgJ p piv.length col (ztE p piv.length col (swp cur piv.length a)) cur.length:=by unfold zdZ;rw [hswl]
    refine zag (fun (j:Nat) s=>(s.sl 0 = .own 1000000 1/\s.sl 1 = int n/\s.sl 2 = int p/\s.sl 7 = .own 7 v/\s.rw 7 = ⟨v,.sli 3 1 false (iL (ofN piv))⟩/\s.sl 8 = int col/\s.sl 9 = int piv.length/\s.sl 11 = int b/\s.sl 78 = int old.length/\s.sl 79 = int j)/\(j <= n/\TabI s.rw 1000000 1 22 3 ((q.set piv.length (q.getD a 0)).set a (q.getD piv.length 0)) ((swp cur piv.length a).set piv.length (prt (scl p b old) old j)))) (fun j=>n - j) (0) ⟨(xc1 Hb),⟨om,by rw [zfe,<- hswa,zcm];exact (htb.swap h2 h3 (xr1 Hb) (fun x=>by simp -dsimp only [gr,simprocAttr,Hb])).1⟩⟩ ?_
    intro j sc ⟨Hc,hIc⟩
    obtain ⟨hj,ht1⟩:=hIc
    generalize (q.set piv.length (q.getD a 0)).set a (q.getD piv.length 0) = q' at *
    generalize hSe:swp cur piv.length a = S at *
    have hset:piv.length < (S.set piv.length (prt (scl p b old) old j)).length:=by rw [List.length_set];omega
    have hr1:=ht1.row hset
    rw [zaN om] at hr1
    have hpl1:(prt (scl p b old) old j).length = n:=by rw [zdb (zb5 p b old)];exact hold
    have hpj:=zkX (zb5 p b old) (Nat.le_refl j)
    have hoj:=hrold j
    have hmb:=ziF hoj ⟨hbb.1,om⟩ hp2.2
    have hw:IntKind.i64.wrap (old.getD j 0 * b) = old.getD j 0 * b:=zai om om
    simp -dsimp only [↓gp,gq,simprocAttr,gT,Hc,ht1.top,hr1,hpl1,hpj,hw,zcY hmb.1,hlq']
    refine ⟨fun h=>⟨kr,h2,h2,h2,h2,om,om,om,om,om,kr,?_⟩,fun h=>?_⟩
    ·have h:j < n:=om
     refine zab (j + 1) ⟨(xc2 Hc (zac h om)),⟨om,?_⟩⟩
     have e:S.set piv.length (prt (scl p b old) old (j + 1)) = (S.set piv.length (prt (scl p b old) old j)).set piv.length ((prt (scl p b old) old j).set j (old.getD j 0 * b % p)):=by
      rw [zqx,<- zhy (zb5 p b old) om,zgI p b om]
     rw [e]
     exact ht1.set hset (xr1 Hc) (xr1 Hc) (fun x hx=>by simp -dsimp only [gr,simprocAttr,Hc,hx])
    have:j = old.length:=om
    rw [this,zhx (zb5 p b old),hclr1] at ht1
    have hM1:=zu1 (p:=p) (n:=n) (at':=piv.length) (col:=col) om hsw om
    have hl1:(ztE p piv.length col S).length = cur.length:=by rw [zdc,hswl]
    rw [hcl] at hred
    generalize ztE p piv.length col S = M1 at *
    refine zag (fun (i:Nat) s=>(s.sl 0 = .own 1000000 1/\s.sl 1 = int n/\s.sl 2 = int p/\s.sl 7 = .own 7 v/\s.rw 7 = ⟨v,.sli 3 1 false (iL (ofN piv))⟩/\s.sl 8 = int col/\s.sl 9 = int piv.length/\s.sl 101 = int cur.length/\s.sl 102 = int i)/\(i <= cur.length/\TabI s.rw 1000000 1 22 3 q' (zgJ p piv.length col M1 i))) (fun i=>cur.length - i) (0) ⟨(xc1 Hc),⟨om,by rw [ztF];exact ht1.same xr0 (fun x=>by simp -dsimp only [gr,simprocAttr])⟩⟩ ?_
    intro i sd ⟨Hd,hId⟩
    obtain ⟨hi,ht2⟩:=hId
    have hlN:(zgJ p piv.length col M1 i).length = cur.length:=by rw [zbX,hl1]
    refine xg3 Hd @ht2.top hlq' ?_
    refine ⟨fun h=>⟨fun he=>?_,fun he=>?_⟩,fun h=>?_⟩
    ·have hid:¬ i = piv.length:=by
      intro e
      simp [e] at he
     have hi1:i < M1.length:=om
     have hr2:=ht2.row (i:=i) om
     rw [zjm p piv.length col hi1 (Nat.le_refl i)] at hr2
     have hl2:=hM1.len i hi1
     have hres2:=hM1.res i hi1
     have hnewl:(zhK p piv.length col M1 i).length = (M1.getD i []).length:=by rw [(zqy (p:=p) om hM1 hi1).1,hl2]
     refine xg4 Hd @ht2.top hlq' hr2 ?_
     refine ⟨h,h,om,om,fun hz=>?_,fun hz=>?_⟩
     ·have hz:(M1.getD i []).getD col 0 = 0:=beq_iff_eq.1 hz
      have ht4:=ht2
      have hcI:=ztO (p:=p) (a:=piv.length) (c:=col) hres2 (.inr hz)
      have hset2:(zgJ p piv.length col M1 i).set i (M1.getD i []) = zgJ p piv.length col M1 i:=by rw [<- zjm p piv.length col hi1 (Nat.le_refl i),zcm]
      rw [<- hset2,<- hcI,zgk p piv.length col hi1] at ht4
      exact zab (i + 1) ⟨(xc2 Hd (zac h om)),⟨om,ht4.same xr0 (fun x=>by simp -dsimp only [gr,simprocAttr])⟩⟩
     ·have hz:¬ (M1.getD i []).getD col 0 = 0:=by simpa using hz
      have hcI:zhK p piv.length col M1 i = sbt p ((M1.getD i []).getD col 0) (M1.getD piv.length []) (M1.getD i []):=by unfold zhK;rw [if_neg hid]
      have hfb:=hres2 col
      have hset2:(zgJ p piv.length col M1 i).set i (M1.getD i []) = zgJ p piv.length col M1 i:=by rw [<- zjm p piv.length col hi1 (Nat.le_refl i),zcm]
      generalize M1.getD i [] = old2 at *
      generalize old2.getD col 0 = f at *
      have hwg:IntKind.i64.wrap (p - f) = p - f:=zai om om
      refine xg5 Hd @ht2.top hlq' hr2 hwg ?_
      refine ⟨h,h,om,om,h,h,?_⟩
      refine zag (fun (t:Nat) s=>(s.sl 0 = .own 1000000 1/\s.sl 1 = int n/\s.sl 2 = int p/\s.sl 7 = .own 7 v/\s.rw 7 = ⟨v,.sli 3 1 false (iL (ofN piv))⟩/\s.sl 8 = int col/\s.sl 9 = int piv.length/\s.sl 101 = int cur.length/\s.sl 102 = int i/\s.sl 13 = int i/\s.sl 14 = int (p - f)/\s.sl 131 = int old2.length/\s.sl 132 = int t)/\(t <= old2.length/\TabI s.rw 1000000 1 22 3 q' ((zgJ p piv.length col M1 i).set i (prt (zhK p piv.length col M1 i) old2 t)))) (fun t=>old2.length - t) (0) ⟨(xc2 Hd hwg),⟨om,by rw [zfe,hset2];exact ht2.same xr0 (fun x=>by simp -dsimp only [gr,simprocAttr])⟩⟩ ?_
      intro t se ⟨He,hIe⟩
      obtain ⟨ht',ht3⟩:=hIe
      have hls:((zgJ p piv.length col M1 i).set i (prt (zhK p piv.length col M1 i) old2 t)).length = cur.length:=by rw [List.length_set,hlN]
      have hr3:=ht3.row (i:=i) om
      rw [zaN om] at hr3
      have hpl3:(prt (zhK p piv.length col M1 i) old2 t).length = old2.length:=zdb hnewl t
      have hpj3:=zkX hnewl (Nat.le_refl t)
      have hra1:piv.length < M1.length:=om
      have hr4:=ht3.row (i:=piv.length) om
      rw [zbD hid,zDg p piv.length col i hra1] at hr4
      have hla:=hM1.len piv.length hra1
      have hresa:=hM1.res piv.length hra1
      generalize M1.getD piv.length [] = pr at *
      have hft:=ziF (show 0 <= p - f/\p - f < p by omega) ⟨(hresa t).1,by have:=(hresa t).2;omega⟩ hp2.2
      have hot:=hres2 t
      have hw3:IntKind.i64.wrap ((p - f) * pr.getD t 0) = (p - f) * pr.getD t 0:=zai om om
      have hw4:IntKind.i64.wrap (old2.getD t 0 + (p - f) * pr.getD t 0) = old2.getD t 0 + (p - f) * pr.getD t 0:=zai om om
      have hmod:(old2.getD t 0 + (p - f) * pr.getD t 0).tmod p = (old2.getD t 0 - f * pr.getD t 0) % p:=by rw [zcY om,zJe om]
      simp -dsimp only [↓gp,gq,simprocAttr,gT,He,ht3.top,hlq',hr3,hr4,hpl3,hpj3,hw3,hw4,hmod]
      refine ⟨fun h2'=>⟨kr,h,h,h,h,h2',h2',h2,h2,om,om,om,h2',om,kr,?_⟩,fun h2'=>?_⟩
      ·refine zab (t + 1) ⟨(xc2 He (zac h2' om)),⟨om,?_⟩⟩
       have e:(zgJ p piv.length col M1 i).set i (prt (zhK p piv.length col M1 i) old2 (t + 1)) = ((zgJ p piv.length col M1 i).set i (prt (zhK p piv.length col M1 i) old2 t)).set i ((prt (zhK p piv.length col M1 i) old2 t).set t ((old2.getD t 0 - f * pr.getD t 0) % p)):=by
        rw [zqx,<- zhy hnewl h2',<- zdJ p f (piv:=pr) h2',hcI]
       rw [e]
       exact ht3.set om (xr1 He) (xr1 He) (fun x hx=>by simp -dsimp only [gr,simprocAttr,He,hx])
      ·have:t = old2.length:=om
       have ht4:=ht3
       rw [this,zhx hnewl,zgk p piv.length col hi1] at ht4
       exact zab (i + 1) ⟨(xc3 Hd He (zac h om)),⟨om,ht4.same xr0 (fun x=>by simp -dsimp only [gr,simprocAttr])⟩⟩
    ·have hid:i = piv.length:=by
      have h9:(i:Int) = piv.length:=by simpa using he
      omega
     have hi1:i < M1.length:=om
     have ht4:=ht2
     have hcI:=ztO (p:=p) (a:=piv.length) (c:=col) (hM1.res i hi1) (.inl hid)
     have hset2:(zgJ p piv.length col M1 i).set i (M1.getD i []) = zgJ p piv.length col M1 i:=by rw [<- zjm p piv.length col hi1 (Nat.le_refl i),zcm]
     rw [<- hset2,<- hcI,zgk p piv.length col hi1] at ht4
     exact zab (i + 1) ⟨(xc2 Hd (zac h om)),⟨om,ht4.same xr0 (fun x=>by simp -dsimp only [gr,simprocAttr])⟩⟩
    ·have:i = cur.length:=om
     rw [this] at ht2
     refine ⟨by rw [zad];omega,?_⟩
     exact zab ((zgJ p piv.length col M1 cur.length,piv ++ [col],col + 1,q',v + 1)) ⟨(xc5 Ha Hd (zac h1 om) @zaD @zdd),⟨by dsimp only;omega,zDh om hM1,by dsimp only;rw [zbX,hl1,hlc],by simp;omega,ht2.same xr0 (fun x=>by simp -dsimp only [gr,simprocAttr]),hperm'.trans hperm,hred⟩⟩
  ·have hfa:=stop (.inl om)
   have:a = cur.length:=om
   subst this
   have hst:zbw p cur col piv = (cur,piv):=by unfold zbw;rw [if_pos hfa]
   rw [hst] at hred
   refine xg3 Hb @htb.top hlq ?_
   exact zab ((cur,piv,col + 1,q,v)) ⟨(xc3 Ha Hb (zac h1 om)),⟨by dsimp only;omega,hcur,hlc,by dsimp only;omega,htb.same xr0 (fun x=>by simp -dsimp only [gr,simprocAttr]),hperm,hred⟩⟩
 ·have hf:zhz p cur piv col (n - col) = (cur,piv):=zmH p cur piv col (n - col) om
  rw [hf] at hred
  rw [hred]
  refine ⟨zmA (htc.same xr0 (fun x=>by simp -dsimp only [gr,simprocAttr])) hperm,?_⟩
  exact xd1 Ha
 ·have hf:zhz p cur piv col (n - col) = (cur,piv):=by rw [show n - col = 0 by omega];rfl
  rw [hf] at hred
  rw [hred]
  refine ⟨zmA (htc.same xr0 (fun x=>by simp -dsimp only [gr,simprocAttr])) hperm,?_⟩
  exact xd1 Ha
end Go.Proofs.YtkledeboboplmaaGreatDoor

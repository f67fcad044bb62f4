/- DERIVED by an AI agent. -/
import Derived.Test.YtkledeboboplmaaGreatDoorQ6
import Derived.Test.YtkledeboboplmaaGreatDoorQ3
import Derived.Test.YtkledeboboplmaaGreatDoorQ2
import Derived.Test.YtkledeboboplmaaGreatDoorQ4
import Derived.Test.YtkledeboboplmaaGreatDoorQ5
namespace Go.Proofs.YtkledeboboplmaaGreatDoor
open Go.Abs
set_option linter.unusedSimpArgs false
set_option linter.unusedVariables false
def inI (n:Int):Prop:=-9223372036854775808 <= n/\n <= 9223372036854775807
def zfR (l:List Int):ByteArray:=if l.length = 0 then ⟨#[45]⟩ else zgz (l.map zbx) ⟨#[44]⟩
theorem zns {m:Nat} {l:List ByteArray} {sep:ByteArray} (h:∀ i,i < l.length->(l.getD i ⟨#[]⟩).size <= m) (hs:sep.size <= 1):∀ i,i <= l.length->(zcz l sep i).size <= (m + 1) * i:=by
 intro i
 induction i with
 | zero=>intro _;exact Nat.le_refl _
 | succ i ih =>
   intro hi
   have h1:=ih om
   have h2:=h i om
   have e:(m + 1) * (i + 1) = (m + 1) * i + (m + 1):=Nat.mul_succ _ _
   unfold zcz
   rw [ByteArray.size_append]
   split
   ·omega
   ·rw [ByteArray.size_append];omega
theorem zq4 {l:List Int} (hl:∀ x ∈ l,inI x):∀ i,i <= (l.map zbx).length->(zcz (l.map zbx) ⟨#[44]⟩ i).size <= 21 * i :=
 zns (fun i hi=>by
  have hi:i < l.length:=by simpa using hi
  have e:(l.map zbx).getD i ⟨#[]⟩ = zbx l[i]:=by simp [List.getD,hi]
  rw [e]
  have:=hl l[i] (List.getElem_mem hi)
  exact zb7 this.1 this.2) (Nat.le_refl 1)
theorem zcr (l:List Int) (hN:l.length <= 1048576) (hin:∀ x ∈ l,inI x):AC Tryz.prog 15 [zaz l] (.im (str (zfR l))):=by
 refine xac [.tmp 2] Tryz.func15 fun hl=>?_
 refine xg0 ?_
 refine zag (fun (za:Nat × Nat) s=>match za with | (k,v)=>(s.sl 0 = zaz l/\s.sl 3 = .own 5 v/\s.rw 5 = ⟨v,.sli 9 1 false (sL ((l.take k).map zbx))⟩/\s.sl 4 = int k)/\(k <= l.length)) (fun (k,v)=>l.length - k) ((0,1)) ⟨xc0,om⟩ ?_
 intro (k,v) sa ⟨Ha,hIa⟩
 have hsl:(sL ((l.take k).map zbx)).length = k:=by simp [sL];omega
 refine xg2 Ha hsl ?_
 refine ⟨fun h=>?_,fun h=>?_⟩
 ·have hx:=hin _ (zaj 0 h)
  refine ⟨h,h,zaa (zbc hx.1 hx.2) ?_⟩
  refine xg1 Ha ?_
  have e:(l.take (k + 1)).map zbx = (l.take k).map zbx ++ [zbx (l.getD k 0)]:=by rw [zas 0 h];simp
  refine ⟨by rw [List.length_map,List.length_take];omega,zab ((k + 1,v + 1)) ⟨(xc3 Ha (zac h (show l.length <= 9223372036854775807 by omega)) e),by dsimp only;omega⟩⟩
 ·obtain rfl:k = l.length:=om
  rw [List.take_length]
  unfold zfR
  refine ⟨fun h0=>?_,fun h0=>?_⟩
  ·rw [if_pos (by have:=beq_iff_eq.1 h0;omega)]
  ·rw [if_neg (by intro e;rw [e] at h0;simp at h0)]
   have hjs:=zq4 hin
   refine zaa (zhE (l.map zbx) ⟨#[44]⟩ (by rw [List.length_map];omega) (fun i hi=>?_)) ?_
   ·have:=hjs i hi
    rw [List.length_map] at hi
    have h1:(⟨#[44]⟩:ByteArray).size = 1:=rfl
    omega
   ·have e:=zdo (l.map zbx) ⟨#[44]⟩ (l.map zbx).length (Nat.le_refl _)
    rw [List.take_length] at e
    rw [e]
    exact xd1 Ha
theorem zbM (l:List Int) (hN:l.length <= 1048576) (hin:∀ x ∈ l,inI x):AC Tryz.prog 14 [zaz l] (.im (str (zfR l))):=by
 refine xac [.tmp 2] Tryz.func14 fun hl=>?_
 refine xg0 ?_
 unfold zfR
 refine ⟨fun h0=>?_,fun h0=>⟨om,om,?_⟩⟩
 ·rw [if_pos (by have:=beq_iff_eq.1 h0;omega)]
 ·rw [if_neg (by intro e;rw [e] at h0;simp at h0)]
  have hz:sL ((l.take 0).map zbx) = []:=rfl
  refine zag (fun (za:Nat × Nat) s=>match za with | (k,v)=>(s.sl 3 = .own 11 v/\s.rw 11 = ⟨v,.sli 9 1 false (sL ((l.take k).map zbx))⟩/\s.sl 12 = zaz l/\s.sl 13 = int l.length/\s.sl 14 = int k)/\(k <= l.length)) (fun (k,v)=>l.length - k) ((0,1)) ⟨(by and_intros <;> (first | (simp -dsimp only [gr,simprocAttr,hz,List.replicate];first | done | rfl | (simp;done)) | assumption | rfl)),om⟩ ?_
  intro (k,v) sa ⟨Ha,hIa⟩
  refine xg1 Ha ?_
  refine ⟨fun h=>?_,fun h=>?_⟩
  ·have hx:=hin _ (zaj 0 h)
   refine ⟨h,h,zaa (zbk hx.1 hx.2) ?_⟩
   refine xg1 Ha ?_
   have e:(l.take (k + 1)).map zbx = (l.take k).map zbx ++ [zbx (l.getD k 0)]:=by rw [zas 0 h];simp
   refine ⟨by rw [List.length_map,List.length_take];omega,zab ((k + 1,v + 1)) ⟨(xc3 Ha (zac h (show l.length <= 9223372036854775807 by omega)) e),by dsimp only;omega⟩⟩
  ·obtain rfl:k = l.length:=om
   rw [List.take_length]
   have hjs:=zq4 hin (l.map zbx).length (Nat.le_refl _)
   rw [zdo _ _ _ (Nat.le_refl _),List.take_length,List.length_map] at hjs
   refine zaa (zdn (l.map zbx) ⟨#[44]⟩ (by rw [List.length_map];omega) om) ?_
   exact xd1 Ha
theorem zEJ (p:Int) {xs:List Int} (h:xs.length = 0):zdD (zah xs) p = []:=by
 have e:xs = []:=List.length_eq_zero_iff.1 h
 subst e
 rfl
theorem zfq (n:Int) (xs:List Int) (p:Int) (h:zaC n xs = true) (hp:isP p = true):AC Tryz.prog 41 [.ag [int n,zaz xs],int p] (.fr 3 1 (iL (zdD (zah xs) p))):=by
 by_cases hpos:0 < xs.length
 ·exact zlc n xs p h hpos hp
 have h0:((xs.length:Int) == 0) = true:=by rw [beq_iff_eq];omega
 rw [zEJ p om]
 refine xac [.tmp 4] Tryz.func41 fun hl=>?_
 refine xg0 ?_
 refine zaa (zao n xs) ?_
 refine xg2 h h0 ?_
 rfl
theorem zfr (n:Int) (xs:List Int) (p:Int) (h:zaC n xs = true) (hp:isP p = true):AC Tryz.prog 31 [.ag [int n,zaz xs],int p] (.fr 3 1 (iL (zdD (zah xs) p))):=by
 have:=zgp n xs p
 rwa [zpL h,show zMw (zah xs) p = zdD (zah xs) p from if_pos hp] at this
noncomputable def orB (n:Int) (xs:List Int):Bool:=zky n xs && ((zdD (zah xs) 3).getD ((zdD (zah xs) 3).length - 1) 0 == 1)
theorem zz4 {n:Int} {xs:List Int} (h:zky n xs = true):0 < (zdD (zah xs) 3).length/\(zdD (zah xs) 3).length <= 7:=by
 unfold zky at h
 rw [Bool.and_eq_true,Bool.and_eq_true,Bool.and_eq_true,decide_eq_true_iff] at h
 obtain ⟨h1,_,h3,_⟩:=h
 have hF:zj4 n xs = true:=Classical.byContradiction fun hc=>by rw [show zdC n xs = -2 from if_neg hc] at h1;cases h1
 have:=zm4 hF
 have:=zbp (zah xs)
 rw [za2]
 omega
theorem zhn (m:Nat) (xs:List Int) (h:zaC (m:Int) xs = true):AC Tryz.prog 101 [.ag [int m,zaz xs]] (.im (bool (orB m xs))):=by
 refine xac [.tmp 2] Tryz.func101 fun hl=>?_
 refine xg0 ?_
 refine zaa (zfs m xs h) ?_
 refine xg0 ?_
 unfold orB
 refine ⟨fun hs=>by rw [show zky m xs = false by simpa using hs];rfl,fun hs=>zaa (zfq m xs 3 h rfl) ?_⟩
 have hs:zky m xs = true:=by simpa using hs
 obtain ⟨a,b⟩:=zz4 hs
 rw [hs,Bool.true_and]
 generalize zdD (zah xs) 3 = H at *
 have hw:IntKind.i64.wrap ((H.length:Int) - 1) = ((H.length - 1:Nat):Int):=by rw [zai om om];omega
 refine xg1 hw ?_
 omega
theorem zho (m:Nat) (xs:List Int) (h:zaC (m:Int) xs = true):AC Tryz.prog 90 [.ag [int m,zaz xs]] (.im (bool (orB m xs))):=by
 refine xac [.tmp 2] Tryz.func90 fun hl=>?_
 refine xg0 ?_
 refine zaa (zfr m xs 3 h rfl) ?_
 have hsp:=zz4 (n:=m) (xs:=xs)
 unfold orB
 generalize zdD (zah xs) 3 = H at *
 refine xg0 ?_
 refine zaa (zft m xs h) ?_
 refine xg0 ?_
 refine ⟨fun hs=>?_,fun hs=>by rw [hs];rfl⟩
 obtain ⟨a,b⟩:=hsp hs
 have hw:IntKind.i64.wrap ((H.length:Int) - 1) = ((H.length - 1:Nat):Int):=by rw [zai om om];omega
 refine xg1 hw ?_
 exact ⟨om,om,by rw [hs,Bool.true_and]⟩
noncomputable def euN (xs:List Int):Int:=zhJ (zfD (zah xs)) (zbd (zah xs))
theorem zyy (xs:List Int):-448 <= euN xs/\euN xs <= 448:=by
 unfold euN
 rw [zGA]
 have:=zz7 (za4 (zah xs)) _ (Nat.le_refl _)
 have:=zca (zah xs)
 omega
noncomputable def zEK (n:Int) (xs:List Int):ByteArray:=if zky n xs = true then (if euN xs = 1 then ⟨#[115,112,104,101,114,101]⟩ else (if orB n xs = true then ⟨#[111,114,105,101,110,116,97,98,108,101,32]⟩ else ⟨#[111,116,104,101,114,32]⟩) ++ zbx (1 - euN xs)) else ⟨#[110,111]⟩
theorem zhO (m:Nat) (xs:List Int) (h:zaC (m:Int) xs = true):AC Tryz.prog 43 [.ag [int m,zaz xs]] (.im (str (zEK m xs))):=by
 refine xac [.tmp 2] Tryz.func43 fun hl=>?_
 refine xg0 ?_
 refine zaa (zfs m xs h) ?_
 refine xg0 ?_
 unfold zEK
 have hE:=zg2 m xs h
 change AC _ _ _ (.im (int (euN xs))) at hE
 have hb:=zyy xs
 have hw:IntKind.i64.wrap (1 - euN xs) = 1 - euN xs:=zai om om
 have hsz:=zb7 (n:=1 - euN xs) om om
 refine ⟨fun hs=>by rw [if_neg (by rw [show zky m xs = false by simpa using hs];decide)],fun hs=>zaa hE ?_⟩
 rw [if_pos (show zky m xs = true by simpa using hs)]
 refine xg1 hw ?_
 refine ⟨fun h1=>by rw [if_pos (beq_iff_eq.1 h1)],fun h1=>zaa (zhn m xs h) ?_⟩
 rw [if_neg (beq_eq_false_iff_ne.1 h1)]
 refine xg1 hw ?_
 refine ⟨fun h2=>zaa hE ?_,fun h2=>zaa hE ?_⟩
 ·rw [if_pos h2]
  refine xg1 hw ?_
  refine zaa (zbk om om) ?_
  refine xg1 hw ?_
  show 11 + (zbx (1 - euN xs)).size <= _
  omega
 ·rw [if_neg (by rw [h2];decide)]
  refine xg1 hw ?_
  refine zaa (zbk om om) ?_
  refine xg1 hw ?_
  show 6 + (zbx (1 - euN xs)).size <= _
  omega
theorem zhP (m:Nat) (xs:List Int) (h:zaC (m:Int) xs = true):AC Tryz.prog 33 [.ag [int m,zaz xs]] (.im (str (zEK m xs))):=by
 refine xac [.tmp 2] Tryz.func33 fun hl=>?_
 refine xg0 ?_
 refine zaa (zft m xs h) ?_
 refine xg0 ?_
 unfold zEK
 have hE:=zg3 m xs h
 change AC _ _ _ (.im (int (euN xs))) at hE
 have hb:=zyy xs
 have hw:IntKind.i64.wrap (1 - euN xs) = 1 - euN xs:=zai om om
 have hsz:=zb7 (n:=1 - euN xs) om om
 refine ⟨fun hs=>by rw [if_neg (by rw [show zky m xs = false by simpa using hs];decide)],fun hs=>zaa hE ?_⟩
 rw [if_pos (show zky m xs = true by simpa using hs)]
 refine xg1 hw ?_
 refine ⟨fun h1=>by rw [if_pos (beq_iff_eq.1 h1)],fun h1=>zaa (zho m xs h) ?_⟩
 rw [if_neg (beq_eq_false_iff_ne.1 h1)]
 refine xg1 hw ?_
 refine ⟨fun h2=>?_,fun h2=>?_⟩
 ·rw [if_pos h2]
  refine ⟨by decide,zaa hE ?_⟩
  refine xg1 hw ?_
  refine zaa (zbc om om) ?_
  have e:(ByteArray.mk #[111,114,105,101,110,116,97,98,108,101]) ++ (ByteArray.mk #[32]) = ByteArray.mk #[111,114,105,101,110,116,97,98,108,101,32]:=by rfl
  refine xg2 hw e ?_
  show 11 + (zbx (1 - euN xs)).size <= _
  omega
 ·rw [if_neg (by rw [h2];decide)]
  refine ⟨by decide,zaa hE ?_⟩
  refine xg1 hw ?_
  refine zaa (zbc om om) ?_
  have e:(ByteArray.mk #[111,116,104,101,114]) ++ (ByteArray.mk #[32]) = ByteArray.mk #[111,116,104,101,114,32]:=by rfl
  refine xg2 hw e ?_
  show 6 + (zbx (1 - euN xs)).size <= _
  omega
def zvC (l:List Int):ByteArray:=if l.length = 0 then ⟨#[110,111,110,101]⟩ else zka l
noncomputable def zGo (n:Int) (xs:List Int):ByteArray:=if zaC n xs = true then zvC (ofN (zk5 n xs)) else ⟨#[]⟩
theorem zes (n:Int) (xs:List Int):AC Tryz.prog 19 [.ag [int n,zaz xs]] (.im (str (zGo n xs))):=by
 refine xac [.tmp 2] Tryz.func19 fun hl=>?_
 refine xg0 ?_
 refine zaa (zat n xs) ?_
 refine xg0 ?_
 unfold zGo
 refine ⟨fun hc=>?_,fun hc=>zaa (zem n xs) ?_⟩
 ·have hc:zaC n xs = false:=by simpa using hc
  rw [if_neg (by rw [hc];decide)]
 ·have hc:zaC n xs = true:=by simpa using hc
  rw [if_pos hc]
  have hml:=ziJ n xs
  have hol:=zad (zk5 n xs)
  generalize ofN (zk5 n xs) = l at *
  unfold zvC
  refine xg0 ?_
  refine ⟨fun h0=>?_,fun h0=>zaa (zc3 l om) ?_⟩
  ·rw [if_pos (by have:(l.length:Int) = 0:=by simpa using h0
                  omega)]
  ·rw [if_neg (by intro e;rw [e] at h0;simp at h0)]
   exact xd0
theorem zet (n:Int) (xs:List Int):AC Tryz.prog 18 [.ag [int n,zaz xs]] (.im (str (zGo n xs))):=by
 refine xac [.tmp 2] Tryz.func18 fun hl=>?_
 refine xg0 ?_
 refine zaa (zao n xs) ?_
 refine xg0 ?_
 unfold zGo
 refine ⟨fun hc=>?_,fun hc=>zaa (zen n xs) ?_⟩
 ·have hc:zaC n xs = false:=by simpa using hc
  rw [if_neg (by rw [hc];decide)]
 ·have hc:zaC n xs = true:=by simpa using hc
  rw [if_pos hc]
  have hml:=ziJ n xs
  have hol:=zad (zk5 n xs)
  generalize ofN (zk5 n xs) = l at *
  unfold zvC
  refine xg0 ?_
  refine ⟨fun h0=>?_,fun h0=>zaa (zc2 l om) ?_⟩
  ·rw [if_pos (by have:(l.length:Int) = 0:=by simpa using h0
                  omega)]
  ·rw [if_neg (by intro e;rw [e] at h0;simp at h0)]
   exact xd0
theorem zpH (n:Int) (xs:List Int) (p:Int):(if zj4 n xs = true/\isP p = true then zHU (zah xs) p else -1) = zm8 n xs p:=by
 by_cases hp:isP p = true
 ·by_cases h:zj4 n xs = true
  ·obtain ⟨m,q,d,_,rfl,rfl,h1,h6,hd,e1,e2,e3⟩:=zvf h hp
   rw [if_pos ⟨h,hp⟩,e1,e2]
  ·rw [if_neg fun e=>h e.1]
   cases hc:zaC n xs with
   | false=>exact (if_neg fun h=>by rw [h.1] at hc;cases hc).symm
   | true =>
     have hx:=zm5 hc h
     subst hx
     rw [zm8,if_pos ⟨hc,hp⟩];rfl
 ·rw [if_neg fun e=>hp e.2]
  exact (if_neg fun h=>hp h.2).symm
theorem zIc (n:Int) (xs:List Int) (p:Int):-1 <= zm8 n xs p/\zm8 n xs p <= 6:=by
 by_cases hp:isP p = true
 ·by_cases h:zj4 n xs = true
  ·obtain ⟨m,q,d,_,rfl,rfl,h1,h6,hd,e1,e2,e3⟩:=zvf h hp
   have:=zbp (zah xs)
   omega
  ·rw [<- zpH,if_neg fun e=>h e.1];omega
 ·rw [<- zpH,if_neg fun e=>hp e.2];omega
theorem szl (a:Array UInt8):(ByteArray.mk a).size = a.size:=rfl
theorem ziY {l:List Int} (hl:∀ x ∈ l,inI x) (h7:l.length <= 7):(zfR l).size <= 147:=by
 unfold zfR
 split
 ·decide
 ·have:=zq4 hl (l.map zbx).length (Nat.le_refl _)
  rw [zdo _ _ _ (Nat.le_refl _),List.take_length,List.length_map] at this
  omega
theorem zz0 (n:Int) (xs:List Int):(zGo n xs).size <= 3136:=by
 unfold zGo
 split
 ·unfold zvC
  split
  ·decide
  ·have hml:=ziJ n xs
   have hol:=zad (zk5 n xs)
   generalize ofN (zk5 n xs) = l at *
   have hjs:=zgT (l:=l.map zcj) (sep:=⟨#[44]⟩) (fun i hi=>by
    have hi:i < l.length:=by simpa using hi
    have:(l.map zcj).getD i ⟨#[]⟩ = zcj l[i]:=by simp [List.getD,hi]
    rw [this];exact zgS _) (Nat.le_refl 1) (l.map zcj).length (Nat.le_refl _)
   rw [zdo _ _ _ (Nat.le_refl _),List.take_length,List.length_map] at hjs
   unfold zka
   omega
 ·decide
theorem zz1 (n:Int) (xs:List Int):(zEK n xs).size <= 31:=by
 have hb:=zyy xs
 have hsz:=zb7 (n:=1 - euN xs) om om
 unfold zEK
 split
 ·split
  ·decide
  ·split
   ·rw [ByteArray.size_append,szl];simp only [List.size_toArray,List.length_cons,List.length_nil];omega
   ·rw [ByteArray.size_append,szl];simp only [List.size_toArray,List.length_cons,List.length_nil];omega
 ·decide
theorem zz2 (n:Int) (xs:List Int):(zEP n xs).size <= 91:=by
 unfold zEP
 split
 ·split
  ·decide
  ·obtain ⟨j1,j2⟩:=zpM n xs
   have:=j1 _ (Nat.le_refl _)
   have:=(zGB n xs).1
   rw [j2] at *
   omega
 ·decide
theorem zpI (f:Nat->Bool):∀ x ∈ zfD f,inI x:=fun x hx=>by
 obtain ⟨i,hi,rfl⟩:=zaV 0 hx
 rw [zb1] at hi
 rw [zeT f hi]
 have:=zbG f i (Nat.le_refl 64)
 unfold inI;omega
theorem zvF (xs:List Int):∀ x ∈ hV xs,inI x:=fun x hx=>by
 have:=zPj xs x hx
 unfold inI;omega
theorem zpJ (f:Nat->Bool) (p:Int):∀ x ∈ zdD f p,inI x:=fun x hx=>by
 obtain ⟨i,hi,rfl⟩:=zaV 0 hx
 have:=zDy f p i
 unfold inI;omega
theorem za3 {l:List ByteArray} {sep:ByteArray} {i j:Nat} (hj:j = i + 1) (hi:i ≠ 0) {x:ByteArray} (h:l.getD i ⟨#[]⟩ = x):zcz l sep j = zcz l sep i ++ sep ++ x:=by
 rw [hj,zcz,if_neg hi,h]
def zvG (a1 a2 a3 a4 a5 a6 a7 a8 a9:ByteArray):List ByteArray:=[⟨#[100,105,109]⟩,a1,⟨#[99,111,117,110,116,115]⟩,a2,⟨#[104]⟩,a3,⟨#[101,117,108,101,114]⟩,a4,⟨#[104,111,108,101,115]⟩,a5,⟨#[100,101,112,116,104]⟩,a6,⟨#[109,105,115,115,105,110,103]⟩,a7,⟨#[115,117,114,102,97,99,101]⟩,a8,a9]
theorem zId (a1 a2 a3 a4 a5 a6 a7 a8 a9:ByteArray):zgz (zvG a1 a2 a3 a4 a5 a6 a7 a8 a9) ⟨#[32]⟩ = ((((((((((((((((((⟨#[100,105,109,32]⟩:ByteArray) ++ a1) ++ ⟨#[32,99,111,117,110,116,115,32]⟩) ++ a2) ++ ⟨#[32,104,32]⟩) ++ a3) ++ ⟨#[32,101,117,108,101,114,32]⟩) ++ a4) ++ ⟨#[32,104,111,108,101,115,32]⟩) ++ a5) ++ ⟨#[32,100,101,112,116,104,32]⟩) ++ a6) ++ ⟨#[32,109,105,115,115,105,110,103,32]⟩) ++ a7) ++ ⟨#[32,115,117,114,102,97,99,101,32]⟩) ++ a8) ++ ⟨#[32]⟩) ++ a9):=by
 have l0:(⟨#[100,105,109,32]⟩:ByteArray) = ⟨#[100,105,109]⟩ ++ ⟨#[32]⟩:=rfl
 have l1:(⟨#[32,99,111,117,110,116,115,32]⟩:ByteArray) = ⟨#[32]⟩ ++ (⟨#[99,111,117,110,116,115]⟩ ++ ⟨#[32]⟩):=rfl
 have l2:(⟨#[32,104,32]⟩:ByteArray) = ⟨#[32]⟩ ++ (⟨#[104]⟩ ++ ⟨#[32]⟩):=rfl
 have l3:(⟨#[32,101,117,108,101,114,32]⟩:ByteArray) = ⟨#[32]⟩ ++ (⟨#[101,117,108,101,114]⟩ ++ ⟨#[32]⟩):=rfl
 have l4:(⟨#[32,104,111,108,101,115,32]⟩:ByteArray) = ⟨#[32]⟩ ++ (⟨#[104,111,108,101,115]⟩ ++ ⟨#[32]⟩):=rfl
 have l5:(⟨#[32,100,101,112,116,104,32]⟩:ByteArray) = ⟨#[32]⟩ ++ (⟨#[100,101,112,116,104]⟩ ++ ⟨#[32]⟩):=rfl
 have l6:(⟨#[32,109,105,115,115,105,110,103,32]⟩:ByteArray) = ⟨#[32]⟩ ++ (⟨#[109,105,115,115,105,110,103]⟩ ++ ⟨#[32]⟩):=rfl
 have l7:(⟨#[32,115,117,114,102,97,99,101,32]⟩:ByteArray) = ⟨#[32]⟩ ++ (⟨#[115,117,114,102,97,99,101]⟩ ++ ⟨#[32]⟩):=rfl
 have e:=zdo (zvG a1 a2 a3 a4 a5 a6 a7 a8 a9) ⟨#[32]⟩ 17 (Nat.le_refl _)
 rw [show (zvG a1 a2 a3 a4 a5 a6 a7 a8 a9).take 17 = zvG a1 a2 a3 a4 a5 a6 a7 a8 a9 from rfl] at e
 rw [<- e,za3 (i:=16) (j:=17) rfl (by decide) (x:=a9) rfl,za3 (i:=15) (j:=16) rfl (by decide) (x:=a8) rfl,za3 (i:=14) (j:=15) rfl (by decide) (x:=⟨#[115,117,114,102,97,99,101]⟩) rfl,za3 (i:=13) (j:=14) rfl (by decide) (x:=a7) rfl,za3 (i:=12) (j:=13) rfl (by decide) (x:=⟨#[109,105,115,115,105,110,103]⟩) rfl,za3 (i:=11) (j:=12) rfl (by decide) (x:=a6) rfl,za3 (i:=10) (j:=11) rfl (by decide) (x:=⟨#[100,101,112,116,104]⟩) rfl,za3 (i:=9) (j:=10) rfl (by decide) (x:=a5) rfl,za3 (i:=8) (j:=9) rfl (by decide) (x:=⟨#[104,111,108,101,115]⟩) rfl,za3 (i:=7) (j:=8) rfl (by decide) (x:=a4) rfl,za3 (i:=6) (j:=7) rfl (by decide) (x:=⟨#[101,117,108,101,114]⟩) rfl,za3 (i:=5) (j:=6) rfl (by decide) (x:=a3) rfl,za3 (i:=4) (j:=5) rfl (by decide) (x:=⟨#[104]⟩) rfl,za3 (i:=3) (j:=4) rfl (by decide) (x:=a2) rfl,za3 (i:=2) (j:=3) rfl (by decide) (x:=⟨#[99,111,117,110,116,115]⟩) rfl,za3 (i:=1) (j:=2) rfl (by decide) (x:=a1) rfl,show zcz (zvG a1 a2 a3 a4 a5 a6 a7 a8 a9) ⟨#[32]⟩ 1 = ⟨#[100,105,109]⟩ from rfl]
 simp only [l0,l1,l2,l3,l4,l5,l6,l7,ByteArray.append_assoc]
theorem zz3 {a1 a2 a3 a4 a5 a6 a7 a8 a9:ByteArray} (h:∀ a ∈ [a1,a2,a3,a4,a5,a6,a7,a8,a9],a.size <= 3136):(zgz (zvG a1 a2 a3 a4 a5 a6 a7 a8 a9) ⟨#[32]⟩).size <= 60000:=by
 have hm:∀ w ∈ zvG a1 a2 a3 a4 a5 a6 a7 a8 a9,w.size <= 3136:=fun w hw=>by
  unfold zvG at hw
  simp only [List.mem_cons,List.not_mem_nil,or_false] at hw
  rcases hw with rfl | rfl | rfl | rfl | rfl | rfl | rfl | rfl | rfl | rfl | rfl | rfl | rfl | rfl | rfl | rfl | rfl <;> first | decide | exact h _ sp
 have j1:=zns (m:=3136) (l:=zvG a1 a2 a3 a4 a5 a6 a7 a8 a9) (sep:=⟨#[32]⟩) (fun i hi=>hm _ (zaj ⟨#[]⟩ hi)) (Nat.le_refl 1) 17 (Nat.le_refl _)
 have e:=zdo (zvG a1 a2 a3 a4 a5 a6 a7 a8 a9) ⟨#[32]⟩ 17 (Nat.le_refl _)
 rw [show (zvG a1 a2 a3 a4 a5 a6 a7 a8 a9).take 17 = zvG a1 a2 a3 a4 a5 a6 a7 a8 a9 from rfl] at e
 rw [e] at j1
 omega
noncomputable def zM9 (n:Int) (xs:List Int):List ByteArray:=zvG (zbx (zdC n xs)) (zfR (zfD (zah xs))) (zfR (hV xs)) (zbx (euN xs)) (zfR (zdD (zah xs) 2)) (zbx (zm8 n xs 2)) (zGo n xs) (zEK n xs) (zEP n xs)
theorem zGu (n:Int) (xs:List Int):∀ a ∈ [zbx (zdC n xs),zfR (zfD (zah xs)),zfR (hV xs),zbx (euN xs),zfR (zdD (zah xs) 2),zbx (zm8 n xs 2),zGo n xs,zEK n xs,zEP n xs],a.size <= 3136:=fun a ha=>by
 have hd7:=zbp (zah xs)
 have b1:=zlj n xs
 have b4:=zyy xs
 have b6:=zIc n xs 2
 have s1:=zb7 (n:=zdC n xs) om om
 have s2:=ziY (zpI (zah xs)) (by rw [zb1];omega)
 have s3:=ziY (zvF xs) (by rw [zld];omega)
 have s4:=zb7 (n:=euN xs) om om
 have s5:=ziY (zpJ (zah xs) 2) (by rw [za2];omega)
 have s6:=zb7 (n:=zm8 n xs 2) om om
 have s7:=zz0 n xs
 have s8:=zz1 n xs
 have s9:=zz2 n xs
 simp only [List.mem_cons,List.not_mem_nil,or_false] at ha
 rcases ha with rfl | rfl | rfl | rfl | rfl | rfl | rfl | rfl | rfl <;> omega
noncomputable def zIe (n:Int) (xs:List Int):ByteArray:=if zaC n xs = true then zgz (zM9 n xs) ⟨#[32]⟩ else ⟨#[]⟩
theorem zc5 (n:Int) (xs:List Int):AC Tryz.prog 8 [.ag [int n,zaz xs]] (.im (str (zIe n xs))):=by
 refine xac [.tmp 2] Tryz.func8 fun hl=>?_
 refine xg0 ?_
 refine zaa (zao n xs) ?_
 refine xg0 ?_
 unfold zIe
 refine ⟨fun hc=>by rw [if_neg (by intro h;rw [h] at hc;cases hc)],fun hc=>⟨kr,zaa (zdp n xs) ?_⟩⟩
 have hc:zaC n xs = true:=by simpa using hc
 rw [if_pos hc]
 obtain ⟨h1,h6,_⟩:=zaK.1 hc
 obtain ⟨m,rfl⟩:∃ m:Nat,n = m:=⟨n.toNat,om⟩
 have b1:=zlj m xs
 have b2:=zpI (zah xs)
 have b2l:=zb1 (zah xs)
 have hd7:=zbp (zah xs)
 have b3:=zvF xs
 have b3l:=zld xs
 have b4:=zyy xs
 have b5:=zpJ (zah xs) 2
 have b5l:=za2 (zah xs) 2
 have b6:=zIc m xs 2
 have hE:=zg2 m xs hc
 change AC _ _ _ (.im (int (euN xs))) at hE
 have hD:=znR m xs 2
 rw [zpH] at hD
 have hF:=zeX m xs
 rw [show fcR m xs = zfD (zah xs) from if_pos hc] at hF
 refine xg0 ?_
 refine zaa (zbk om om) ?_
 refine xg0 ?_
 refine zaa hF ?_
 refine xg0 ?_
 refine zaa (zbM _ om b2) ?_
 refine xg0 ?_
 refine zaa (zle m xs hc) ?_
 refine xg0 ?_
 refine zaa (zbM _ om b3) ?_
 refine xg0 ?_
 refine zaa hE ?_
 refine xg0 ?_
 refine zaa (zbk om om) ?_
 refine xg0 ?_
 refine zaa (zfq m xs 2 hc rfl) ?_
 refine xg0 ?_
 refine zaa (zbM _ om b5) ?_
 refine xg0 ?_
 refine zaa hD ?_
 refine xg0 ?_
 refine zaa (zbk om om) ?_
 refine xg0 ?_
 refine zaa (zet m xs) ?_
 refine xg0 ?_
 refine zaa (zhO m xs hc) ?_
 refine xg0 ?_
 refine zaa (zfw m xs) ?_
 refine xg0 ?_
 refine ⟨kr,?_⟩
 have hsz:=zz3 (a1:=zbx (zdC m xs)) (a2:=zfR (zfD (zah xs))) (a3:=zfR (hV xs)) (a4:=zbx (euN xs)) (a5:=zfR (zdD (zah xs) 2)) (a6:=zbx (zm8 m xs 2)) (a7:=zGo m xs) (a8:=zEK m xs) (a9:=zEP m xs) (zGu m xs)
 refine zaa (zdn (zM9 m xs) ⟨#[32]⟩ (show 17 <= _ by decide) (Nat.le_trans hsz (by decide))) ?_
 exact xd0
theorem zfI (n:Int) (xs:List Int):AC Tryz.prog 6 [.ag [int n,zaz xs]] (.im (str (zIe n xs))):=by
 refine xac [.tmp 2] Tryz.func6 fun hl=>?_
 refine xg0 ?_
 refine zaa (zat n xs) ?_
 refine xg0 ?_
 unfold zIe
 refine ⟨fun hc=>by rw [if_neg (by intro h;rw [h] at hc;cases hc)],fun hc=>⟨kr,zaa (zbQ n xs) ?_⟩⟩
 have hc:zaC n xs = true:=by simpa using hc
 rw [if_pos hc]
 obtain ⟨h1,h6,_⟩:=zaK.1 hc
 obtain ⟨m,rfl⟩:∃ m:Nat,n = m:=⟨n.toNat,om⟩
 have b1:=zlj m xs
 have b2:=zpI (zah xs)
 have b2l:=zb1 (zah xs)
 have hd7:=zbp (zah xs)
 have b3:=zvF xs
 have b3l:=zld xs
 have b4:=zyy xs
 have b5:=zpJ (zah xs) 2
 have b5l:=za2 (zah xs) 2
 have b6:=zIc m xs 2
 have hE:=zg3 m xs hc
 change AC _ _ _ (.im (int (euN xs))) at hE
 have hD:=zhl m xs 2
 have hF:=zco m xs
 rw [zpL hc] at hF
 have hsz:=zGu m xs
 simp only [List.mem_cons,List.not_mem_nil,or_false,forall_eq_or_imp,forall_eq] at hsz
 obtain ⟨s1,s2,s3,s4,s5,s6,s7,s8,s9⟩:=hsz
 unfold zM9
 rw [zId]
 refine xg0 ?_
 refine zaa (zbc om om) ?_
 refine xg0 ?_
 refine ⟨(by simp only [ByteArray.size_append,szl,List.size_toArray,List.length_cons,List.length_nil];omega),(by simp only [ByteArray.size_append,szl,List.size_toArray,List.length_cons,List.length_nil];omega),zaa hF ?_⟩
 refine xg0 ?_
 refine zaa (zcr _ om b2) ?_
 refine xg0 ?_
 refine ⟨(by simp only [ByteArray.size_append,szl,List.size_toArray,List.length_cons,List.length_nil];omega),(by simp only [ByteArray.size_append,szl,List.size_toArray,List.length_cons,List.length_nil];omega),zaa (zfT m xs hc) ?_⟩
 refine xg0 ?_
 refine zaa (zcr _ om b3) ?_
 refine xg0 ?_
 refine ⟨(by simp only [ByteArray.size_append,szl,List.size_toArray,List.length_cons,List.length_nil];omega),(by simp only [ByteArray.size_append,szl,List.size_toArray,List.length_cons,List.length_nil];omega),zaa hE ?_⟩
 refine xg0 ?_
 refine zaa (zbc om om) ?_
 refine xg0 ?_
 refine ⟨(by simp only [ByteArray.size_append,szl,List.size_toArray,List.length_cons,List.length_nil];omega),kr,kr,(by simp only [ByteArray.size_append,szl,List.size_toArray,List.length_cons,List.length_nil];omega),zaa (zfr m xs 2 hc rfl) ?_⟩
 refine xg0 ?_
 refine zaa (zcr _ om b5) ?_
 refine xg0 ?_
 refine ⟨(by simp only [ByteArray.size_append,szl,List.size_toArray,List.length_cons,List.length_nil];omega),(by simp only [ByteArray.size_append,szl,List.size_toArray,List.length_cons,List.length_nil];omega),zaa hD ?_⟩
 refine xg0 ?_
 refine zaa (zbc om om) ?_
 refine xg0 ?_
 refine ⟨(by simp only [ByteArray.size_append,szl,List.size_toArray,List.length_cons,List.length_nil];omega),(by simp only [ByteArray.size_append,szl,List.size_toArray,List.length_cons,List.length_nil];omega),zaa (zes m xs) ?_⟩
 refine xg0 ?_
 refine ⟨(by simp only [ByteArray.size_append,szl,List.size_toArray,List.length_cons,List.length_nil];omega),kr,kr,(by simp only [ByteArray.size_append,szl,List.size_toArray,List.length_cons,List.length_nil];omega),zaa (zhP m xs hc) ?_⟩
 refine xg0 ?_
 refine ⟨(by simp only [ByteArray.size_append,szl,List.size_toArray,List.length_cons,List.length_nil];omega),(by simp only [ByteArray.size_append,szl,List.size_toArray,List.length_cons,List.length_nil];omega),zaa (zfx m xs) ?_⟩
 refine xg0 ?_
 exact (by simp only [ByteArray.size_append,szl,List.size_toArray,List.length_cons,List.length_nil];omega)
theorem zIb:∀ (k u:Nat),u < k->Go.Lib.decDigits u ≠ []/\∀ d ∈ Go.Lib.decDigits u,d ≠ 45
 | 0,_,h=>om
 | k + 1,u,h=>by
   rw [Go.Lib.decDigits]
   by_cases h10:u < 10
   ·rw [dif_pos h10]
    refine ⟨sp,fun d hd=>?_⟩
    rw [List.mem_singleton.1 hd]
    have:∀ m:Fin 10,UInt8.ofNat (48 + m.val) ≠ 45:=by decide
    exact this ⟨u,h10⟩
   ·rw [dif_neg h10]
    refine ⟨sp,fun d hd=>?_⟩
    rcases List.mem_append.1 hd with hd | hd
    ·exact (zIb k (u / 10) om).2 d hd
    ·rw [List.mem_singleton.1 hd]
     have:∀ m:Fin 10,UInt8.ofNat (48 + m.val) ≠ 45:=by decide
     exact this ⟨u % 10,Nat.mod_lt _ (by decide)⟩
theorem zzZ (n:Int) (t:List UInt8):Go.Lib.itoa n ++ t ≠ [45]:=by
 unfold Go.Lib.itoa
 split
 ·obtain ⟨h1,_⟩:=zIb (n.natAbs + 1) n.natAbs (Nat.lt_succ_self _)
  intro h
  rw [List.cons_append] at h
  injection h with _ h
  exact h1 (List.append_eq_nil_iff.1 h).1
 ·obtain ⟨h1,h2⟩:=zIb (n.toNat + 1) n.toNat (Nat.lt_succ_self _)
  intro h
  cases hd:Go.Lib.decDigits n.toNat with
  | nil=>exact h1 hd
  | cons a r =>
    rw [hd,List.cons_append] at h
    injection h with h _
    exact h2 a (by rw [hd];simp) h
theorem zEH (l:List Int):(zfR l = ⟨#[45]⟩) ↔ l.length = 0:=by
 unfold zfR
 refine ⟨fun h=>?_,fun h=>by rw [if_pos h]⟩
 by_cases h0:l.length = 0
 ·exact h0
 rw [if_neg h0] at h
 cases l with
 | nil=>rfl
 | cons x r =>
   have h2:=congrArg (fun b:ByteArray=>b.data.toList) h
   unfold zgz at h2
   rw [List.map_cons,List.map_cons,Go.Lib.join_cons] at h2
   exact absurd (show Go.Lib.itoa x ++ _ = [45] from h2) (zzZ x _)
theorem zEI (n:Int) (xs:List Int):(zIe n xs = ⟨#[]⟩) ↔ zaC n xs = false:=by
 unfold zIe
 cases hc:zaC n xs with
 | false=>simp
 | true =>
   rw [if_pos rfl]
   refine ⟨fun h=>?_,fun h=>by cases h⟩
   have h2:=congrArg (fun b:ByteArray=>b.data.toList) h
   unfold zgz zM9 zvG at h2
   rw [List.map_cons,Go.Lib.join_cons] at h2
   cases h2
theorem zea (bs:List Int) (hbs:bs.length <= 9223372036854775806):ADr Tryz.prog 11 [.sl false 1 (kL .u8 bs)] (kcx fun n xs=>0 <= n/\n <= 7/\xs.length <= 450):=by
 refine xag [.cell 2 27] Tryz.func11 fun hl _ s hs hR=>?_
 refine xg2 hs hR ?_
 refine zgo (zfX bs) (.one (.sl _ _ _) .nil) fun h0=>?_
 refine xg2 hs hR ?_
 refine zaP (zhW bs hbs) .none (xs1 hR) (GvL.one (zb4 (xs1 hR)) (by repeat (first | exact GvL.nil | refine GvL.one (GvA.v _) ?_ | refine GvL.one (GvA.sl _ _ _) ?_))) rfl (fun _ h=>by cases h) fun rv i1 g1 ⟨n,xs,hrv,hq⟩=>?_
 subst hrv
 refine xg2 hs hR ?_
 exact ⟨_,_,⟨n,xs,rfl,hq⟩,.one (.ag (.cons (.im _) (.cons (.fr xs0 (by decide)) .nil))),sp⟩
theorem zeY (bs:List Int) (hbs:bs.length <= 9223372036854775806):ADr Tryz.prog 13 [.sl false 1 (kL .u8 bs)] (kcx fun n xs=>0 <= n/\n <= 7/\xs.length <= 450):=by
 refine xag [.cell 2 27] Tryz.func13 fun hl _ s hs hR=>?_
 refine xg2 hs hR ?_
 refine zgo (zfX bs) (.one (.sl _ _ _) .nil) fun h0=>?_
 refine xg2 hs hR ?_
 refine zaP (zhW bs hbs) .none (xs1 hR) (GvL.one (zb4 (xs1 hR)) (by repeat (first | exact GvL.nil | refine GvL.one (GvA.v _) ?_ | refine GvL.one (GvA.sl _ _ _) ?_))) rfl (fun _ h=>by cases h) fun rv i1 g1 ⟨n,xs,hrv,hq⟩=>?_
 subst hrv
 refine xg2 hs hR ?_
 exact ⟨_,_,⟨n,xs,rfl,hq⟩,.one (.ag (.cons (.im _) (.cons (.fr xs0 (by decide)) .nil))),sp⟩
theorem zzY (f:Nat->Bool) (h:∀ s,f s = false):zfD f = []:=by
 have e:f = fun _=>false:=funext h
 subst e
 decide +kernel
theorem zkc (n:Int) (xs:List Int):AC Tryz.prog 29 [.ag [int n,zaz xs]] (.fr 3 1 (iL (if zaC n xs = true then hV xs else []))):=by
 by_cases h:zaC n xs = true
 ·rw [if_pos h];exact zfT n xs h
 rw [if_neg h]
 have hFC:=zco n xs
 rw [zzY (za8 n xs) fun s=>by unfold za8;rw [show zaC n xs = false by simpa using h,Bool.false_and]] at hFC
 refine xac [.tmp 2] Tryz.func29 fun hl=>?_
 refine xg0 ?_
 refine zaa hFC ?_
 refine xg0 ?_
 have hw:IntKind.i64.wrap (-1) = -1:=by decide
 refine zag (fun (k:Nat) s=>(s.sl 3 = .own 9 1/\s.rw 9 = ⟨1,.sli 3 1 false []⟩/\s.sl 5 = int (-1)/\s.sl 6 = int k)/\(k = 0)) (fun k=>0 - k) (0) ⟨(xc1 hw),rfl⟩ ?_
 intro k sa ⟨Ha,hIa⟩
 subst hIa
 refine xg1 Ha ?_
 rfl
def ksl (P:List Int->Prop) (rv:RV):Prop:=∃ l,rv = .fr 3 1 (iL l)/\P l
def lsQ (l:List Int):Prop:=l.length <= 1048576/\∀ x ∈ l,inI x
theorem zpG (bs:List Int) (hbs:bs.length <= 9223372036854775806):zzn Tryz.prog 49 TC bs ⟨0,.dead⟩ [] (ksl lsQ):=by
 intro i h
 refine xag [.tmp 2] Tryz.func49 fun hl _ s hs hR=>?_
 have e0:s.rw 1000000 = ⟨1,.box TC [.sl false 1 (kL .u8 bs),int i,int h]⟩:=by rw [hR];rfl
 have e1:s.rw 1000500 = ⟨0,.dead⟩:=by rw [hR];rfl
 have elo:∀ k,k < 1000000->s.rw k = ⟨0,.dead⟩:=fun k hk=>by rw [hR];exact zmR hk
 refine xg3 hs e0 elo ?_
 refine zaP (zaZ bs hbs 7 (by decide)) .none (xs2 e0 elo) (GvL.one (zb4 (xs2 e0 elo)) (by repeat (first | exact GvL.nil | refine GvL.one (GvA.v _) ?_ | refine GvL.one (GvA.sl _ _ _) ?_))) rfl (fun _ h=>by cases h) fun rv i1 g1 ⟨x,hrv,hx⟩=>?_
 subst hrv
 refine xg3 hs e0 elo ?_
 obtain ⟨m,rfl,hm⟩:∃ m:Nat,x = m/\m <= 6:=by
  obtain ⟨a,b⟩:=hx
  exact ⟨x.toNat,om,om⟩
 refine zag (fun (za:Nat × Nat × Nat × Int × List Int) s=>match za with | (k,v,j,g,L)=>(s.sl 0 = .ref 1000000 1 0/\s.rw 1000000 = ⟨1,.box TC [.sl false 1 (kL .u8 bs),int j,int g]⟩/\s.rw 1000500 = ⟨0,.dead⟩/\s.sl 3 = .own 6 v/\s.rw 6 = ⟨v,.sli 3 1 false (iL L)⟩/\s.sl 4 = int m/\s.sl 5 = int k)/\(k <= m/\L.length = k/\∀ y ∈ L,inI y)) (fun (k,v,j,g,L)=>m - k) ((0,1,i1,g1,[])) ⟨(xc3 hs e1 elo),⟨Nat.zero_le _,rfl,fun y hy=>by cases hy⟩⟩ ?_
 intro (k,v,j,g,L) sa ⟨Ha,hIa⟩
 obtain ⟨hk,hLl,hLm⟩:=hIa
 refine xg1 Ha ?_
 refine ⟨fun k1=>?_,fun k1=>?_⟩
 ·refine zaP (zaZ bs hbs 64 (by decide)) .none (xs1 Ha) (GvL.one (zb4 (xs1 Ha)) (by repeat (first | exact GvL.nil | refine GvL.one (GvA.v _) ?_ | refine GvL.one (GvA.sl _ _ _) ?_))) rfl (fun _ h=>by cases h) fun rv i2 g2 ⟨y,hrv,hy⟩=>?_
  subst hrv
  refine xg1 Ha ?_
  have hin:∀ z ∈ L ++ [y],inI z:=fun z hz=>by
   rcases List.mem_append.1 hz with hz | hz
   ·exact hLm z hz
   ·rw [List.mem_singleton.1 hz];obtain ⟨a,b⟩:=hy;unfold inI;omega
  exact ⟨om,zab ((k + 1,v + 1,i2,g2,L ++ [y])) ⟨(xc3 Ha Ha (zac k1 om)),⟨by dsimp only;omega,by simp;omega,hin⟩⟩⟩
 have hkm:k = m:=om
 have hlq:lsQ L:=⟨om,hLm⟩
 refine ⟨fun k2=>?_,fun k2=>?_⟩
 ·refine zaP (ze1 bs hbs 12 (by decide)) .none (xs1 Ha) (GvL.one (zb4 (xs1 Ha)) (by repeat (first | exact GvL.nil | refine GvL.one (GvA.v _) ?_ | refine GvL.one (GvA.sl _ _ _) ?_))) rfl (fun _ h=>by cases h) fun rv i2 g2 ⟨b,hrv⟩=>?_
  subst hrv
  refine xg1 Ha ?_
  refine ⟨fun k3=>?_,fun k3=>?_⟩
  ·refine zaP (zcA bs hbs [-1,64,63] (by decide) (by decide)) (.some (j:=27) (xs1 Ha) (zaU _)) (xs1 Ha) (.one (zb4 (xs1 Ha)) (.one (zmS (xr1 Ha)) .nil)) rfl (fun j hj=>by cases hj;exact ⟨rfl,rfl⟩) fun rv i3 g3 ⟨z,hrv,hz⟩=>?_
   subst hrv
   have hz:inI z:=by
    have hz:z ∈ [-1,64,63]:=hz
    simp at hz;unfold inI;omega
   refine xg1 Ha ?_
   have hset:lsQ (L.set 0 z):=⟨by simp;omega,fun w hw=>by
    rcases List.mem_or_eq_of_mem_set hw with h | h
    ·exact hLm w h
    ·rw [h];exact hz⟩
   exact ⟨om,om,_,i3,g3,_,⟨L.set 0 z,rfl,hset⟩,.one (.lf (.fr (xs1 Ha) (by decide))),sp,by simp -dsimp only [gr,simprocAttr,Ha] <;> rfl,by simp -dsimp only [gr,simprocAttr,Ha]⟩
  ·exact ⟨_,i2,g2,_,⟨L,rfl,hlq⟩,.one (.lf (.fr (xs1 Ha) (by decide))),sp,by simp -dsimp only [gr,simprocAttr,Ha] <;> rfl,by simp -dsimp only [gr,simprocAttr,Ha]⟩
 ·exact ⟨_,j,g,_,⟨L,rfl,hlq⟩,.one (.lf (.fr (xs1 Ha) (by decide))),sp,by simp -dsimp only [gr,simprocAttr,Ha] <;> rfl,by simp -dsimp only [gr,simprocAttr,Ha]⟩
theorem zfS (bs:List Int) (hbs:bs.length <= 9223372036854775806):ADr Tryz.prog 12 [.sl false 1 (kL .u8 bs)] (ksl lsQ):=by
 refine xag [.tmp 2] Tryz.func12 fun hl _ s hs hR=>?_
 refine xg2 hs hR ?_
 refine zgo (zfX bs) (.one (.sl _ _ _) .nil) fun h0=>?_
 refine xg2 hs hR ?_
 refine zaP (ze1 bs hbs 4 (by decide)) .none (xs1 hR) (GvL.one (zb4 (xs1 hR)) (by repeat (first | exact GvL.nil | refine GvL.one (GvA.v _) ?_ | refine GvL.one (GvA.sl _ _ _) ?_))) rfl (fun _ h=>by cases h) fun rv i1 g1 ⟨b,hrv⟩=>?_
 subst hrv
 refine xg2 hs hR ?_
 refine ⟨fun k1=>?_,fun k1=>?_⟩
 ·refine zaP (zpG bs hbs) .none (xs1 hR) (GvL.one (zb4 (xs1 hR)) (by repeat (first | exact GvL.nil | refine GvL.one (GvA.v _) ?_ | refine GvL.one (GvA.sl _ _ _) ?_))) rfl (fun _ h=>by cases h) fun rv i2 g2 ⟨l,hrv,hq⟩=>?_
  subst hrv
  refine xg2 hs hR ?_
  exact ⟨_,_,⟨l,rfl,hq⟩,.one (.lf (.fr xs0 (by decide))),sp⟩
 ·refine zaP (zhV bs hbs) .none (xs1 hR) (GvL.one (zb4 (xs1 hR)) (by repeat (first | exact GvL.nil | refine GvL.one (GvA.v _) ?_ | refine GvL.one (GvA.sl _ _ _) ?_))) rfl (fun _ h=>by cases h) fun rv i2 g2 ⟨n,xs,hrv,hq⟩=>?_
  subst hrv
  refine xg2 hs hR ?_
  refine zaa (zkc n xs) ?_
  have hl:lsQ (if zaC n xs = true then hV xs else []):=by
   split
   ·exact ⟨by have:=zld xs;have:=zbp (zah xs);omega,zvF xs⟩
   ·exact ⟨sp,fun x hx=>by cases hx⟩
  generalize (if zaC n xs = true then hV xs else []) = l at *
  refine xg2 hs hR ?_
  exact ⟨_,_,⟨l,rfl,hl⟩,.one (.lf (.fr xs0 (by decide))),sp⟩
end Go.Proofs.YtkledeboboplmaaGreatDoor
namespace Go.Proofs.YtkledeboboplmaaGreatDoor
open Go.Abs Go.Shelf
set_option linter.unusedSimpArgs false
set_option linter.unusedVariables false
noncomputable def zGp (n:Int) (xs:List Int):ByteArray:=if zaC n xs = true then zvC ((zqX n xs).getD []) else ⟨#[]⟩
theorem zhF (n:Int) (xs:List Int):AC Tryz.prog 21 [.ag [int n,zaz xs]] (.im (str (zGp n xs))):=by
 refine xac [.tmp 2] Tryz.func21 fun hl=>?_
 refine xg0 ?_
 refine zaa (zat n xs) ?_
 refine xg0 ?_
 unfold zGp
 refine ⟨fun hc=>?_,fun hc=>zaa (zd4 n xs) ?_⟩
 ·have hc:zaC n xs = false:=by simpa using hc
  rw [if_neg (by rw [hc];decide)]
 ·have hc:zaC n xs = true:=by simpa using hc
  rw [if_pos hc]
  have hfl:=zEd n xs
  generalize zqX n xs = o at *
  have hno:(!o.isSome) = true->o.getD [] = []:=fun h=>by
   cases o with
   | none=>rfl
   | some l=>cases h
  unfold zvC
  refine xg0 ?_
  refine ⟨fun h=>⟨fun h0=>?_,fun h0=>zaa (zc3 _ om) ?_⟩,fun h=>?_⟩
  ·rw [if_pos (by have:=beq_iff_eq.1 h0;omega)]
  ·rw [if_neg (by intro e;rw [e] at h0;simp at h0)]
   exact xd0
  ·rw [hno h];rfl
theorem zhG (n:Int) (xs:List Int):AC Tryz.prog 20 [.ag [int n,zaz xs]] (.im (str (zGp n xs))):=by
 refine xac [.tmp 2] Tryz.func20 fun hl=>?_
 refine xg0 ?_
 refine zaa (zao n xs) ?_
 refine xg0 ?_
 unfold zGp
 refine ⟨fun hc=>?_,fun hc=>zaa (zd5 n xs) ?_⟩
 ·have hc:zaC n xs = false:=by simpa using hc
  rw [if_neg (by rw [hc];decide)]
 ·have hc:zaC n xs = true:=by simpa using hc
  rw [if_pos hc]
  have hfl:=zEd n xs
  generalize zqX n xs = o at *
  have hno:(!o.isSome) = true->o.getD [] = []:=fun h=>by
   cases o with
   | none=>rfl
   | some l=>cases h
  unfold zvC
  refine xg0 ?_
  refine ⟨fun h=>⟨fun h0=>?_,fun h0=>zaa (zc2 _ om) ?_⟩,fun h=>?_⟩
  ·rw [if_pos (by have:=beq_iff_eq.1 h0;omega)]
  ·rw [if_neg (by intro e;rw [e] at h0;simp at h0)]
   exact xd0
  ·rw [hno h];rfl
end Go.Proofs.YtkledeboboplmaaGreatDoor
namespace Go.Proofs.YtkledeboboplmaaGreatDoor
open Go.Abs
set_option linter.unusedSimpArgs false
set_option linter.unusedVariables false
theorem zd9 (l:List Int):(zka l).size <= 7 * l.length:=by
 have h:=zgT (l:=l.map zcj) (sep:=⟨#[44]⟩) (fun i hi=>by
  have hi:i < l.length:=by simpa using hi
  have e:(l.map zcj).getD i ⟨#[]⟩ = zcj l[i]:=by simp [List.getD,hi]
  rw [e];exact zgS _) (Nat.le_refl 1) (l.map zcj).length (Nat.le_refl _)
 rw [zdo _ _ _ (Nat.le_refl _),List.take_length,List.length_map] at h
 exact h
theorem znt {n:Int} {xs:List Int} (h:zaC n xs = true):xs.length <= 448:=by
 rw [zuc h,zad];exact zk3 _ _
noncomputable def zvD (n:Int) (xs:List Int):ByteArray:=if zaC n xs = true then zbx n ++ ⟨#[58]⟩ ++ zka xs else ⟨#[]⟩
theorem zpF (n:Int) (xs:List Int):(zvD n xs).size <= 4000:=by
 unfold zvD
 split
 ·rename_i h
  obtain ⟨h1,h6,_⟩:=zaK.1 h
  have a:=zb7 (n:=n) om om
  have b:=zd9 xs
  have c:=znt h
  rw [ByteArray.size_append,ByteArray.size_append]
  show _ + 1 + _ <= 4000
  omega
 ·decide
theorem zeu (n:Int) (xs:List Int):AC Tryz.prog 56 [.ag [int n,zaz xs]] (.im (str (zvD n xs))):=by
 refine xac [.tmp 2] Tryz.func56 fun hl=>?_
 refine xg0 ?_
 refine zaa (zat n xs) ?_
 refine xg0 ?_
 unfold zvD
 refine ⟨fun hc=>?_,fun hc=>?_⟩
 ·have hc:zaC n xs = false:=by simpa using hc
  rw [if_neg (by rw [hc];decide)]
 ·have hc:zaC n xs = true:=by simpa using hc
  rw [if_pos hc]
  obtain ⟨h1,h6,_⟩:=zaK.1 hc
  have a:=zb7 (n:=n) om om
  have b:=zd9 xs
  have c:=znt hc
  have s1:(zbx n ++ ⟨#[58]⟩).size <= 21:=by rw [ByteArray.size_append];show _ + 1 <= 21;omega
  refine ⟨kr,zaa (zbc (n:=n) om om) ?_⟩
  refine xg0 ?_
  refine ⟨by show _ + 1 <= _;omega,zaa (zc3 xs om) ?_⟩
  refine xg0 ?_
  omega
theorem ziW (n:Int) (xs:List Int):AC Tryz.prog 54 [.ag [int n,zaz xs]] (.im (str (zvD n xs))):=by
 refine xac [.tmp 2] Tryz.func54 fun hl=>?_
 refine xg0 ?_
 refine zaa (zao n xs) ?_
 refine xg0 ?_
 unfold zvD
 refine ⟨fun hc=>?_,fun hc=>?_⟩
 ·have hc:zaC n xs = false:=by simpa using hc
  rw [if_neg (by rw [hc];decide)]
 ·have hc:zaC n xs = true:=by simpa using hc
  rw [if_pos hc]
  obtain ⟨h1,h6,_⟩:=zaK.1 hc
  have a:=zb7 (n:=n) om om
  have b:=zd9 xs
  have c:=znt hc
  have s1:(zbx n ++ ⟨#[58]⟩).size <= 21:=by rw [ByteArray.size_append];show _ + 1 <= 21;omega
  refine ⟨kr,zaa (zbk (n:=n) om om) ?_⟩
  refine xg0 ?_
  refine ⟨by show _ + 1 <= _;omega,zaa (zc2 xs om) ?_⟩
  refine xg0 ?_
  omega
def zvE (l:List Int):ByteArray:=if l.length = 0 then ⟨#[45]⟩ else zka l
theorem znu (l:List Int) (hN:l.length <= 500):AC Tryz.prog 53 [zaz l] (.im (str (zvE l))):=by
 refine xac [.tmp 2] Tryz.func53 fun hl=>?_
 refine xg0 ?_
 unfold zvE
 refine ⟨fun h0=>?_,fun h0=>zaa (zc2 l hN) ?_⟩
 ·rw [if_pos (by have:=beq_iff_eq.1 h0;omega)]
 ·rw [if_neg (by intro e;rw [e] at h0;simp at h0)]
  exact xd0
theorem zGq:∀ (m:Nat) (f:Nat->Bool) (l:List Nat),(zzW m f l).2.length <= l.length + m:=by
 intro m
 induction m with
 | zero=>intro f l;exact Nat.le_refl _
 | succ m ih =>
   intro f l
   rw [zzW]
   split
   ·exact Nat.le_add_right _ _
   ·have:=ih (rmF f (zeC (zbh f))) (l ++ [zeC (zbh f)])
    rw [List.length_append,List.length_singleton] at this
    omega
theorem zyw (xs:List Int):(zq8 xs).2.length <= 64:=by
 have:=zGq 64 (zah xs) []
 simpa [zq8] using this
theorem zb3 (s:St) (d e sz e2 sz2:Nat) (x y:Value) (c c2:List PV):zal s d (.tup [.ag [.im (.v x),.fr e sz c],.fr e2 sz2 c2,.im (.v y)]) =
 ((s.row (d + 1000) ⟨(s.rw (d + 1000)).ver + 1,.sli e2 sz2 false c2⟩).row d ⟨(s.rw d).ver + 1,.sli e sz false c⟩).put (some d) (.tup [.ag [.v x,.own d ((s.rw d).ver + 1)],.own (d + 1000) ((s.rw (d + 1000)).ver + 1),.v y]):=by
 unfold zal
 simp [zce,zby,leaves,zaw,zaY,zbO,zbl,zbI,zak,St.row,zhv]
 rfl
noncomputable def zGr (n:Int) (xs:List Int):ByteArray:=if zaC n xs = true then zvE (ofN (zq8 xs).2) ++ ⟨#[32]⟩ ++ zvD n (ofN (zcK (zq8 xs).1 true)) else ⟨#[]⟩
theorem zhH (n:Int) (xs:List Int):AC Tryz.prog 17 [.ag [int n,zaz xs]] (.im (str (zGr n xs))):=by
 refine xac [.tmp 2] Tryz.func17 fun hl=>?_
 refine xg0 ?_
 refine zaa (ziQ n xs) ?_
 unfold zGr
 by_cases hc:zaC n xs = true
 ·rw [hc]
  simp only [if_true]
  have hl1:=zyw xs
  have hol:=zad (zq8 xs).2
  have hsz:=zpF n (ofN (zcK (zq8 xs).1 true))
  generalize (ofN (zcK (zq8 xs).1 true)) = zs at *
  generalize ofN (zq8 xs).2 = st at *
  have hst:=zd9 st
  unfold zvE
  refine xg1 @zb3 ?_
  refine ⟨fun h0=>zaa (zeu n zs) ?_,fun h0=>⟨kr,zaa (zc3 st om) ?_⟩⟩
  ·rw [if_pos (by have:=beq_iff_eq.1 h0;omega)]
   refine xg1 @zb3 ?_
   refine ⟨by show 2 + _ <= _;omega,?_⟩
   refine ByteArray.ext ?_
   simp
  ·rw [if_neg (by intro e;rw [e] at h0;simp at h0)]
   refine xg1 @zb3 ?_
   have s1:(zka st ++ ⟨#[32]⟩).size <= 449:=by rw [ByteArray.size_append];show _ + 1 <= 449;omega
   refine ⟨by show _ + 1 <= _;omega,zaa (zeu n zs) ?_⟩
   refine xg1 @zb3 ?_
   omega
 ·have hc:zaC n xs = false:=by simpa using hc
  rw [hc]
  simp only [Bool.false_eq_true,if_false]
  exact xd1 @zb3
theorem zhI (n:Int) (xs:List Int):AC Tryz.prog 16 [.ag [int n,zaz xs]] (.im (str (zGr n xs))):=by
 refine xac [.tmp 2] Tryz.func16 fun hl=>?_
 refine xg0 ?_
 refine zaa (ziT n xs) ?_
 unfold zGr
 by_cases hc:zaC n xs = true
 ·rw [hc]
  simp only [if_true]
  have hl1:=zyw xs
  have hol:=zad (zq8 xs).2
  have hsz:=zpF n (ofN (zcK (zq8 xs).1 true))
  generalize (ofN (zcK (zq8 xs).1 true)) = zs at *
  generalize ofN (zq8 xs).2 = st at *
  have hst:(zvE st).size <= 448:=by
   unfold zvE
   split
   ·decide
   ·have:=zd9 st;omega
  refine xg1 @zb3 ?_
  refine ⟨kr,zaa (znu st om) ?_⟩
  refine xg1 @zb3 ?_
  have s1:(zvE st ++ ⟨#[32]⟩).size <= 449:=by rw [ByteArray.size_append];show _ + 1 <= 449;omega
  refine ⟨by show _ + 1 <= _;omega,zaa (ziW n zs) ?_⟩
  refine xg1 @zb3 ?_
  omega
 ·have hc:zaC n xs = false:=by simpa using hc
  rw [hc]
  simp only [Bool.false_eq_true,if_false]
  exact xd1 @zb3
theorem zGt (a b:ByteArray):(a.toList == b.toList) = decide (a = b):=by
 rw [Bool.eq_iff_iff,beq_iff_eq,decide_eq_true_iff,Go.Lib.toList_data,Go.Lib.toList_data]
 exact ⟨fun h=>ByteArray.ext (Array.toList_inj.1 h),fun h=>by rw [h]⟩
set_option maxHeartbeats 4000000 in
theorem zkb (bs:List Int):AC Tryz.prog 4 [.sl false 1 (kL .u8 bs)] (.im (bool true)):=by
 refine xac [.tmp 2] Tryz.func4 fun hl=>?_
 refine xg0 ?_
 refine zaa (zzw bs) ?_
 refine xg0 ?_
 intro hsm
 have hbs:bs.length <= 9223372036854775806:=om
 refine zqE (zea bs hbs) (.one (.sl _ _ _) .nil) fun rv ⟨n,xs,hrv,hq⟩=>?_
 subst hrv
 refine xg0 ?_
 refine zqE (zfS bs hbs) (.one (.sl _ _ _) .nil) fun rv ⟨l,hrv,hl1,hl2⟩=>?_
 subst hrv
 refine xg0 ?_
 refine zqE (zeY bs hbs) (.one (.sl _ _ _) .nil) fun rv ⟨m,ys,hrv,hr⟩=>?_
 subst hrv
 refine xg0 ?_
 refine ⟨kr,zaa (zc5 n xs) ?_⟩
 simp -dsimp only [↓gp,gq,simprocAttr,gT,bne_self_eq_false,beq_self_eq_true,zaQ,zbY,zbr,zbZ]
 refine zaa (zfI n xs) ?_
 simp -dsimp only [↓gp,gq,simprocAttr,gT,bne_self_eq_false,beq_self_eq_true,zaQ,zbY,zbr,zbZ]
 refine zaa (zbM l hl1 hl2) ?_
 simp -dsimp only [↓gp,gq,simprocAttr,gT,bne_self_eq_false,beq_self_eq_true,zaQ,zbY,zbr,zbZ]
 refine zaa (zcr l hl1 hl2) ?_
 simp -dsimp only [↓gp,gq,simprocAttr,gT,bne_self_eq_false,beq_self_eq_true,zaQ,zbY,zbr,zbZ]
 refine zaa (zhI m ys) ?_
 simp -dsimp only [↓gp,gq,simprocAttr,gT,bne_self_eq_false,beq_self_eq_true,zaQ,zbY,zbr,zbZ]
 refine zaa (zhH m ys) ?_
 simp -dsimp only [↓gp,gq,simprocAttr,gT,bne_self_eq_false,beq_self_eq_true,zaQ,zbY,zbr,zbZ]
 refine zaa (zet n xs) ?_
 simp -dsimp only [↓gp,gq,simprocAttr,gT,bne_self_eq_false,beq_self_eq_true,zaQ,zbY,zbr,zbZ]
 refine zaa (zes n xs) ?_
 simp -dsimp only [↓gp,gq,simprocAttr,gT,bne_self_eq_false,beq_self_eq_true,zaQ,zbY,zbr,zbZ]
 refine zaa (zhG n xs) ?_
 simp -dsimp only [↓gp,gq,simprocAttr,gT,bne_self_eq_false,beq_self_eq_true,zaQ,zbY,zbr,zbZ]
 refine zaa (zhF n xs) ?_
 simp -dsimp only [↓gp,gq,simprocAttr,gT,bne_self_eq_false,beq_self_eq_true,zaQ,zbY,zbr,zbZ]
 refine zaa (zfw n xs) ?_
 simp -dsimp only [↓gp,gq,simprocAttr,gT,bne_self_eq_false,beq_self_eq_true,zaQ,zbY,zbr,zbZ]
 refine zaa (zfx n xs) ?_
 simp -dsimp only [↓gp,gq,simprocAttr,gT,bne_self_eq_false,beq_self_eq_true,zaQ,zbY,zbr,zbZ]
 refine ⟨kr,zaa (zc5 n xs) ?_⟩
 simp -dsimp only [↓gp,gq,simprocAttr,gT,bne_self_eq_false,beq_self_eq_true,zaQ,zbY,zbr,zbZ]
 refine zaa (zat n xs) ?_
 simp -dsimp only [↓gp,gq,simprocAttr,gT,bne_self_eq_false,beq_self_eq_true,zaQ,zbY,zbr,zbZ]
 have hde:((zIe n xs).toList == (⟨#[]⟩:ByteArray).toList) = !zaC n xs:=by
  rw [zGt,Bool.eq_iff_iff,decide_eq_true_iff,zEI,Bool.not_eq_true']
 have hcd:((zfR l).toList == (⟨#[45]⟩:ByteArray).toList) = ((l.length:Int) == 0):=by
  rw [zGt,Bool.eq_iff_iff,decide_eq_true_iff,zEH,beq_iff_eq];omega
 have hnn:(!((!zaC n xs) == zaC n xs)) = true:=by cases zaC n xs <;> rfl
 rw [hde,hnn]
 refine ⟨fun _=>zaa (zbM l hl1 hl2) ?_,fun h=>by cases h⟩
 simp -dsimp only [↓gp,gq,simprocAttr,gT,bne_self_eq_false,beq_self_eq_true,zaQ,zbY,zbr,zbZ,hcd]
end Go.Proofs.YtkledeboboplmaaGreatDoor

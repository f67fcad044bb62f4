/- DERIVED by an AI agent. -/
import Derived.Test.YtkledeboboplmaaGreatDoorQ6
import Derived.Test.YtkledeboboplmaaGreatDoorQ3
import Derived.Lib.ItoaNum
import Derived.Test.YtkledeboboplmaaGreatDoorA13
namespace Go.Proofs.YtkledeboboplmaaGreatDoor
open Go.Abs
set_option linter.unusedSimpArgs false
set_option linter.unusedVariables false
def sg2 (k:Nat):Int:=2 * ((k % 2:Nat):Int) - 1
def zxG (L:List Nat) (j:Nat):Int:=((L.take j).map fun s=>sg2 (zat s)).sum
def zgX (l:List Int):Nat→Int | 0=>0 | k + 1=>zgX l k + sg2 k * l.getD k 0
theorem zr6 (k:Nat):-1 ≤ sg2 k∧sg2 k ≤ 1∧(k % 2 = 1→sg2 k = 1)∧(k % 2 = 0→sg2 k = -1):=by unfold sg2;omega
theorem zr7 {L:List Nat} {j:Nat} (h:j < L.length):zxG L (j + 1) = zxG L j + sg2 (zat (L.getD j 0)):=by
 unfold zxG;rw [zau 0 h];simp
theorem zA6 (L:List Nat):∀ j,j ≤ L.length→-(j:Int) ≤ zxG L j∧zxG L j ≤ j:=by
 intro j
 induction j with
 | zero=>intro _;simp [zxG]
 | succ j ih =>
   intro h
   have h1:=ih (by omega)
   have h2:=zr6 (zat (L.getD j 0))
   rw [zr7 (by omega)]
   omega
theorem zA7 (L:List Nat) (s:Nat):∀ d,zgX (zj8 (L ++ [s]) d) d = zgX (zj8 L d) d + if zat s < d then sg2 (zat s) else 0:=by
 have key:∀ n d,d ≤ n→zgX (zj8 (L ++ [s]) n) d = zgX (zj8 L n) d + if zat s < d then sg2 (zat s) else 0:=by
  intro n d
  induction d with
  | zero=>intro _;simp [zgX]
  | succ d ih =>
    intro h
    rw [zgX,zgX,ih (by omega),zfN _ (by omega),zfN _ (by omega),zsl]
    by_cases h1:zat s = d
    ·rw [if_pos h1,if_pos (show zat s < d + 1 by omega),if_neg (show ¬ zat s < d by omega),h1,show (((zsk L d + 1:Nat):Int)) = (zsk L d:Int) + 1 by omega,Int.mul_add]
     omega
    ·rw [if_neg h1]
     by_cases h2:zat s < d
     ·rw [if_pos h2,if_pos (show zat s < d + 1 by omega),Nat.add_zero];omega
     ·rw [if_neg h2,if_neg (show ¬ zat s < d + 1 by omega),Nat.add_zero];omega
 exact fun d=>key d d (Nat.le_refl _)
theorem zFy {d:Nat}:∀ (R L:List Nat),(∀ s ∈ L ++ R,zat s < d)→zgX (zj8 (L ++ R) d) d = zgX (zj8 L d) d + (R.map fun s=>sg2 (zat s)).sum
 | [],L,_=>by simp
 | x :: R,L,h=>by
   have e:L ++ x :: R = (L ++ [x]) ++ R:=by simp
   rw [e] at h ⊢
   rw [zFy R (L ++ [x]) h,zA7,if_pos (h x (by simp)),List.map_cons,List.sum_cons]
   omega
theorem zDo (d:Nat):∀ n,n ≤ d→zgX (zj8 [] d) n = 0:=by
 intro n
 induction n with
 | zero=>intro _;rfl
 | succ n ih =>
   intro h
   rw [zgX,ih (by omega),zfN _ (by omega)]
   simp [zsk]
theorem zpd {n:Int} {xs:List Int} (h:zaL n xs = true):zbh n xs = zag xs:=by funext s;unfold zbh;rw [h,Bool.true_and]
theorem zFz (f:Nat→Bool):zgX (zfj f) (za8 f) = zxG (zbb f) (zbb f).length:=by
 have hd:∀ s ∈ [] ++ zbb f,zat s < za8 f:=fun s hs=>by
  obtain ⟨h1,h2⟩:=zaU.1 (by simpa using hs)
  exact zeP 64 s h1 h2
 have:=zFy (d:=za8 f) (zbb f) [] hd
 rw [List.nil_append,zDo _ _ (Nat.le_refl _),Int.zero_add] at this
 unfold zfj zxG
 rw [this,List.take_length]
theorem zgt (n:Int) (xs:List Int) (h:zaL n xs = true):AC Tryz.prog 40 [.ag [int n,zax xs]] (.im (int (zgX (zfj (zag xs)) (za8 (zag xs))))):=by
 refine AC.go (rs:=[.tmp 2]) zaD mixed Tryz.func40 rfl rfl rfl (by kernel_rfl) fun hl=>?_
 simp -dsimp only [↓gp,gq,simprocAttr,gT]
 refine zab (zaq n xs) ?_
 simp -dsimp only [↓gp,gq,simprocAttr,gT,h]
 refine zab (zaW n xs (zb4 h)) ?_
 simp -dsimp only [↓gp,gq,simprocAttr,gT]
 refine zab (zd0 _) ?_
 have hfl:=zbQ (zag xs)
 have hd7:=zbj (zag xs)
 have hFq:∀ i,i < (zfj (zag xs)).length→0 ≤ (zfj (zag xs)).getD i 0∧(zfj (zag xs)).getD i 0 ≤ 64:=fun i hi=>by
  rw [zeq _ (by omega)]
  exact zxQ xs i
 have hE:∀ k,k ≤ (zfj (zag xs)).length→-(64 * (k:Int)) ≤ zgX (zfj (zag xs)) k∧zgX (zfj (zag xs)) k ≤ 64 * (k:Int):=by
  intro k
  induction k with
  | zero=>intro _;exact ⟨Int.le_refl _,Int.le_refl _⟩
  | succ k ih =>
    intro hk
    have h1:=ih (by omega)
    have h2:=hFq k (by omega)
    rw [zgX]
    rcases Nat.mod_two_eq_zero_or_one k with h3 | h3
    ·rw [(zr6 k).2.2.2 h3];omega
    ·rw [(zr6 k).2.2.1 h3];omega
 rw [← hfl]
 generalize zfj (zag xs) = F at *
 simp -dsimp only [↓gp,gq,simprocAttr,gT]
 refine zah (fun (k:Nat) s=>s.sl 1 = .ref 1 1 0∧s.rw 1 = ⟨1,.box 27 [int n,zax xs]⟩∧s.sl 3 = int (zgX F k)∧s.sl 11 = .own 11 1∧s.rw 11 = ⟨1,.sli 3 1 false (iL F)⟩∧s.sl 12 = int F.length∧s.sl 13 = int k∧(k ≤ F.length)) (fun k=>F.length - k) (0) (by refine ⟨?_,?_,?_,?_,?_,?_,?_,Nat.zero_le _⟩ <;> (first | (simp -dsimp only [gr,simprocAttr];first | done | rfl | (simp;done)) | assumption | rfl)) ?_
 intro k sa ⟨h1a,r1a,h3a,h11a,r11a,h12a,h13a,hIa⟩
 have hm:(k:Int).tmod 2 = ((k % 2:Nat):Int):=by rw [zcV (by omega)];omega
 simp -dsimp only [↓gp,gq,simprocAttr,gT,h1a,r1a,h3a,h11a,r11a,h12a,h13a,hm]
 refine ⟨fun h1=>⟨h1,h1,fun h2=>?_,fun h2=>?_⟩,fun h1=>?_⟩
 ·have e1:=hE k (by omega)
  have e2:=hFq k h1
  have e3:=(zr6 k).2.2.1 (by have:=beq_iff_eq.1 h2;omega)
  have e:zgX F (k + 1) = zgX F k + F.getD k 0:=by rw [zgX,e3];omega
  have hw:IntKind.i64.wrap (zgX F k + F.getD k 0) = zgX F (k + 1):=by rw [e];exact zai (by omega) (by omega)
  exact zac (k + 1) (by refine ⟨?_,?_,?_,?_,?_,?_,?_,by omega⟩ <;> (first | (simp -dsimp only [gr,simprocAttr,h1a,r1a,h3a,h11a,r11a,h12a,h13a,zaa h1 (by omega),hw];first | done | rfl | (simp;done)) | assumption | rfl)) (by first | omega | (simp only;omega) | (dsimp only;omega) | (show _ < _;simp;omega))
 ·have e1:=hE k (by omega)
  have e2:=hFq k h1
  have e3:=(zr6 k).2.2.2 (by have:=beq_eq_false_iff_ne.1 h2;omega)
  have e:zgX F (k + 1) = zgX F k - F.getD k 0:=by rw [zgX,e3];omega
  have hw:IntKind.i64.wrap (zgX F k - F.getD k 0) = zgX F (k + 1):=by rw [e];exact zai (by omega) (by omega)
  exact zac (k + 1) (by refine ⟨?_,?_,?_,?_,?_,?_,?_,by omega⟩ <;> (first | (simp -dsimp only [gr,simprocAttr,h1a,r1a,h3a,h11a,r11a,h12a,h13a,zaa h1 (by omega),hw];first | done | rfl | (simp;done)) | assumption | rfl)) (by first | omega | (simp only;omega) | (dsimp only;omega) | (show _ < _;simp;omega))
 ·rw [show k = F.length by omega]
theorem zgu (n:Int) (xs:List Int) (h:zaL n xs = true):AC Tryz.prog 30 [.ag [int n,zax xs]] (.im (int (zgX (zfj (zag xs)) (za8 (zag xs))))):=by
 refine AC.go (rs:=[.tmp 2]) zaD mixed Tryz.func30 rfl rfl rfl (by kernel_rfl) fun hl=>?_
 simp -dsimp only [↓gp,gq,simprocAttr,gT]
 refine zab (zcf n xs) ?_
 rw [zpd h,zFz]
 have hol:=zad (zbb (zag xs))
 have holen:=zcJ (zag xs)
 have hmem:=fun i (hi:i < (zbb (zag xs)).length)=>(zaU.1 (zaj 0 hi)).1
 generalize zbb (zag xs) = L at *
 simp -dsimp only [↓gp,gq,simprocAttr,gT]
 refine zah (fun (k:Nat) s=>s.sl 1 = .ref 1 1 0∧s.rw 1 = ⟨1,.box 27 [int n,zax xs]⟩∧s.sl 3 = int (zxG L k)∧s.sl 4 = .own 7 1∧s.rw 7 = ⟨1,.sli 3 1 false (iL (ofN L))⟩∧s.sl 5 = int k∧(k ≤ L.length)) (fun k=>L.length - k) (0) (by refine ⟨?_,?_,?_,?_,?_,?_,Nat.zero_le _⟩ <;> (first | (simp -dsimp only [gr,simprocAttr];first | done | rfl | (simp;done)) | assumption | rfl)) ?_
 intro k sa ⟨h1a,r1a,h3a,h4a,r7a,h5a,hIa⟩
 simp -dsimp only [↓gp,gq,simprocAttr,gT,h1a,r1a,h3a,h4a,r7a,h5a,hol]
 refine ⟨fun h1=>⟨h1,h1,?_⟩,fun h1=>?_⟩
 ·have h64:=hmem k h1
  rw [zaG h1]
  refine zab (zaM _ (by omega)) ?_
  have e1:=zA6 L k (by omega)
  have hm:(zat (L.getD k 0):Int).tmod 2 = ((zat (L.getD k 0) % 2:Nat):Int):=by rw [zcV (by omega)];omega
  have hlt:zat (L.getD k 0) % 2 < 2:=Nat.mod_lt _ (by decide)
  have w1:IntKind.i64.wrap (2 * ((zat (L.getD k 0) % 2:Nat):Int)) = 2 * ((zat (L.getD k 0) % 2:Nat):Int):=zai (by omega) (by omega)
  have w2:IntKind.i64.wrap (zxG L k + 2 * ((zat (L.getD k 0) % 2:Nat):Int)) = zxG L k + 2 * ((zat (L.getD k 0) % 2:Nat):Int):=zai (by omega) (by omega)
  have w3:IntKind.i64.wrap (zxG L k + 2 * ((zat (L.getD k 0) % 2:Nat):Int) - 1) = zxG L (k + 1):=by
   rw [zr7 h1];unfold sg2;rw [zai (by omega) (by omega)];omega
  simp -dsimp only [↓gp,gq,simprocAttr,gT,h1a,r1a,h3a,h4a,r7a,h5a,hm,w1,w2,w3]
  exact zac (k + 1) (by refine ⟨?_,?_,?_,?_,?_,?_,by omega⟩ <;> (first | (simp -dsimp only [gr,simprocAttr,h1a,r1a,h3a,h4a,r7a,h5a,zaa h1 (by omega)];first | done | rfl | (simp;done)) | assumption | rfl)) (by first | omega | (simp only;omega) | (dsimp only;omega) | (show _ < _;simp;omega))
 ·rw [show k = L.length by omega]
noncomputable def hV (xs:List Int):List Int:=(List.range (za8 (zag xs))).map fun k=>lnA (lnC xs) (za8 (zag xs) - 1) (k + 1) k
theorem zob (xs:List Int):(hV xs).length = za8 (zag xs):=by simp [hV]
theorem zA8 {xs:List Int} {k:Nat} (h:k < za8 (zag xs)):(hV xs).take (k + 1) = (hV xs).take k ++ [lnA (lnC xs) (za8 (zag xs) - 1) (k + 1) k]:=by
 rw [zau 0 (by rw [zob];exact h)]
 congr 2
 unfold hV
 rw [List.getD_eq_getElem?_getD,List.getElem?_map,List.getElem?_range h];rfl
theorem zM8 (xs:List Int):∀ x ∈ hV xs,-8960 ≤ x∧x ≤ 8960:=fun x hx=>by
 unfold hV at hx
 obtain ⟨k,hk,rfl⟩:=List.mem_map.1 hx
 have hk:=List.mem_range.1 hk
 have hd:=zbj (zag xs)
 have:=zh2 (zxQ xs) (n:=za8 (zag xs) - 1) (t:=k) (by omega) (by omega) (k + 1)
 omega
theorem zjs (xs:List Int):AC Tryz.prog 96 [zax (zfj (zag xs))] (.fr 3 1 (iL (hV xs))):=by
 refine AC.go (rs:=[.tmp 2]) zaD mixed Tryz.func96 rfl rfl rfl (by kernel_rfl) fun hl=>?_
 have hfl:=zbQ (zag xs)
 have hd7:=zbj (zag xs)
 have hFq:∀ i,i < za8 (zag xs)→(zfj (zag xs)).getD i 0 = lnC xs i:=fun i hi=>by rw [zeq _ hi];rfl
 have hvl:=zob xs
 have htk:=fun k=>zA8 (xs:=xs) (k:=k)
 generalize zfj (zag xs) = F at *
 generalize hD:za8 (zag xs) = D at *
 generalize hV xs = V at *
 have hw0:IntKind.i64.wrap ((F.length:Int) - 1) = (D:Int) - 1:=by rw [zai (by omega) (by omega)];omega
 simp -dsimp only [↓gp,gq,simprocAttr,gT,hw0]
 refine zah (fun (za:Nat × Nat) s=>match za with | (k,v)=>s.sl 0 = zax F∧s.sl 3 = int ((D:Int) - 1)∧s.sl 4 = .own 4 v∧s.rw 4 = ⟨v,.sli 3 1 false (iL (V.take k))⟩∧s.sl 5 = int k∧(k ≤ D)) (fun (k,v)=>D - k) ((0,1)) (by refine ⟨?_,?_,?_,?_,?_,Nat.zero_le _⟩ <;> (first | (simp -dsimp only [gr,simprocAttr];first | done | rfl | (simp;done)) | assumption | rfl)) ?_
 intro (k,v) sa ⟨h0a,h3a,h4a,r4a,h5a,hIa⟩
 simp -dsimp only [↓gp,gq,simprocAttr,gT,h0a,h3a,h4a,r4a,h5a]
 refine ⟨fun h=>?_,fun h=>?_⟩
 ·refine zah (fun (i:Nat) s=>s.sl 0 = zax F∧s.sl 3 = int ((D:Int) - 1)∧s.sl 4 = .own 4 v∧s.rw 4 = ⟨v,.sli 3 1 false (iL (V.take k))⟩∧s.sl 5 = int k∧s.sl 6 = int (lnA (lnC xs) (D - 1) i k)∧s.sl 7 = int i∧(i ≤ k + 1)) (fun i=>k + 1 - i) (0) (by refine ⟨?_,?_,?_,?_,?_,?_,?_,Nat.zero_le _⟩ <;> (first | (simp -dsimp only [gr,simprocAttr,h0a,h3a,h4a,r4a,h5a];first | done | rfl | (simp;done)) | assumption | rfl)) ?_
  intro i sb ⟨h0b,h3b,h4b,r4b,h5b,h6b,h7b,hIb⟩
  simp -dsimp only [↓gp,gq,simprocAttr,gT,h0b,h3b,h4b,r4b,h5b,h6b,h7b]
  refine ⟨fun h2=>?_,fun h2=>?_⟩
  ·have hch:zcK ((D:Int) - 1 - i) ((k:Int) - i) = (bin (D - 1 - i) (k - i):Nat):=by unfold zcK;rw [if_pos ⟨by omega,by omega,by omega⟩,show ((D:Int) - 1 - i).toNat = D - 1 - i by omega,show ((k:Int) - i).toNat = k - i by omega]
   have hbl:=zpt (n:=D - 1 - i) (k:=k - i) (by omega) (by omega)
   have hcb:=zxQ xs i
   obtain ⟨t1,t2,t3,t4⟩:=ztU hcb (b:=(bin (D - 1 - i) (k - i):Nat)) ⟨by omega,by omega⟩ (k - i)
   have hsm:=zh2 (zxQ xs) (n:=D - 1) (t:=k) (by omega) (by omega) i
   have hA:lnA (lnC xs) (D - 1) (i + 1) k = lnA (lnC xs) (D - 1) i k + sgI (k - i) (lnC xs i * (bin (D - 1 - i) (k - i):Nat)):=by
    rw [zps,if_pos h2]
   have w1:IntKind.i64.wrap ((D:Int) - 1 - i) = (D:Int) - 1 - i:=zai (by omega) (by omega)
   have w2:IntKind.i64.wrap ((k:Int) - i) = (k:Int) - i:=zai (by omega) (by omega)
   have hm:((k:Int) - i).tmod 2 = (((k - i) % 2:Nat):Int):=by rw [show (k:Int) - i = ((k - i:Nat):Int) by omega,zcV (by omega)];omega
   have hFi:=hFq i (by omega)
   generalize hB:((bin (D - 1 - i) (k - i):Nat):Int) = B at *
   generalize hC:lnC xs i = C at *
   have v3:IntKind.i64.wrap (C * B) = C * B:=zai (by omega) (by omega)
   have v4:IntKind.i64.wrap (0 - C * B) = -(C * B):=by rw [zai (by omega) (by omega)];omega
   refine ⟨by kernel_rfl,by omega,by omega,zab (zpv _ _ (by omega)) ?_⟩
   simp -dsimp only [↓gp,gq,simprocAttr,gT,h0b,h3b,h4b,r4b,h5b,h6b,h7b,w1,w2,hch,hFi,hm,v3,v4]
   refine ⟨fun h3=>?_,fun h3=>?_⟩
   ·have e:sgI (k - i) (C * B) = -(C * B):=if_neg (by have:=beq_iff_eq.1 h3;omega)
    have hw:IntKind.i64.wrap (lnA (lnC xs) (D - 1) i k + -(C * B)) = lnA (lnC xs) (D - 1) (i + 1) k:=by rw [hA,e];rw [e] at t3 t4;exact zai (by omega) (by omega)
    exact zac (i + 1) (by refine ⟨?_,?_,?_,?_,?_,?_,?_,by omega⟩ <;> (first | (simp -dsimp only [gr,simprocAttr,h0b,h3b,h4b,r4b,h5b,h6b,h7b,v4,hw,zaa (show i < 7 by omega) (by omega)];first | done | rfl | (simp;done)) | assumption | rfl)) (by first | omega | (simp only;omega) | (dsimp only;omega) | (show _ < _;simp;omega))
   ·have e:sgI (k - i) (C * B) = C * B:=if_pos (by have:=beq_eq_false_iff_ne.1 h3;omega)
    have hw:IntKind.i64.wrap (lnA (lnC xs) (D - 1) i k + C * B) = lnA (lnC xs) (D - 1) (i + 1) k:=by rw [hA,e];rw [e] at t3 t4;exact zai (by omega) (by omega)
    exact zac (i + 1) (by refine ⟨?_,?_,?_,?_,?_,?_,?_,by omega⟩ <;> (first | (simp -dsimp only [gr,simprocAttr,h0b,h3b,h4b,r4b,h5b,h6b,h7b,hw,zaa (show i < 7 by omega) (by omega)];first | done | rfl | (simp;done)) | assumption | rfl)) (by first | omega | (simp only;omega) | (dsimp only;omega) | (show _ < _;simp;omega))
  ·have hi:i = k + 1:=by omega
   subst hi
   have e:=htk k (by omega)
   have hl2:(V.take k).length ≤ 7:=by simp;omega
   exact ⟨by omega,zac ((k + 1,v + 1)) (by refine ⟨?_,?_,?_,?_,?_,by dsimp only;omega⟩ <;> (first | (simp -dsimp only [gr,simprocAttr,h0a,h3a,h4a,r4a,h5a,h0b,h3b,h4b,r4b,h5b,h6b,h7b,e,zaa (show k < 7 by omega) (by omega)];first | done | rfl | (simp;done)) | assumption | rfl)) (by first | omega | (simp only;omega) | (dsimp only;omega) | (show _ < _;simp;omega))⟩
 ·have hk:k = D:=by omega
  rw [hk,← hvl,List.take_length]
theorem zlI (n:Int) (xs:List Int) (h:zaL n xs = true):AC Tryz.prog 39 [.ag [int n,zax xs]] (.fr 3 1 (iL (hV xs))):=by
 refine AC.go (rs:=[.tmp 2]) zaD mixed Tryz.func39 rfl rfl rfl (by kernel_rfl) fun hl=>?_
 simp -dsimp only [↓gp,gq,simprocAttr,gT]
 refine zab (zeu n xs) ?_
 rw [show fcR n xs = zfj (zag xs) from if_pos h]
 simp -dsimp only [↓gp,gq,simprocAttr,gT]
 refine zab (zjs xs) ?_
 simp -dsimp only [↓gp,gq,simprocAttr,gT]
theorem zlJ (n:Int) (xs:List Int) (h:zaL n xs = true):AC Tryz.prog 29 [.ag [int n,zax xs]] (.fr 3 1 (iL (hV xs))):=by
 refine AC.go (rs:=[.tmp 2]) zaD mixed Tryz.func29 rfl rfl rfl (by kernel_rfl) fun hl=>?_
 have hfl:=zbQ (zag xs)
 have hd7:=zbj (zag xs)
 have hFq:∀ i,i < za8 (zag xs)→(zfj (zag xs)).getD i 0 = lnC xs i:=fun i hi=>by rw [zeq _ hi];rfl
 have hvl:=zob xs
 have htk:=fun k=>zA8 (xs:=xs) (k:=k)
 have hFC:=zcW n xs
 rw [zpd h] at hFC
 generalize zfj (zag xs) = F at *
 generalize hD:za8 (zag xs) = D at *
 generalize hV xs = V at *
 have hw0:IntKind.i64.wrap ((F.length:Int) - 1) = (D:Int) - 1:=by rw [zai (by omega) (by omega)];omega
 simp -dsimp only [↓gp,gq,simprocAttr,gT,hw0]
 refine zab hFC ?_
 simp -dsimp only [↓gp,gq,simprocAttr,gT,hw0]
 refine zah (fun (za:Nat × Nat) s=>match za with | (k,v)=>s.sl 1 = .ref 1 1 0∧s.rw 1 = ⟨1,.box 27 [int n,zax xs]⟩∧s.sl 3 = .own 9 v∧s.rw 9 = ⟨v,.sli 3 1 false (iL (V.take k))⟩∧s.sl 4 = .own 11 1∧s.rw 11 = ⟨1,.sli 3 1 false (iL F)⟩∧s.sl 5 = int ((D:Int) - 1)∧s.sl 6 = int k∧(k ≤ D)) (fun (k,v)=>D - k) ((0,1)) (by refine ⟨?_,?_,?_,?_,?_,?_,?_,?_,Nat.zero_le _⟩ <;> (first | (simp -dsimp only [gr,simprocAttr];first | done | rfl | (simp;done)) | assumption | rfl)) ?_
 intro (k,v) sa ⟨h1a,r1a,h3a,r9a,h4a,r11a,h5a,h6a,hIa⟩
 simp -dsimp only [↓gp,gq,simprocAttr,gT,h1a,r1a,h3a,r9a,h4a,r11a,h5a,h6a]
 refine ⟨fun h=>?_,fun h=>?_⟩
 ·refine zah (fun (i:Nat) s=>s.sl 1 = .ref 1 1 0∧s.rw 1 = ⟨1,.box 27 [int n,zax xs]⟩∧s.sl 3 = .own 9 v∧s.rw 9 = ⟨v,.sli 3 1 false (iL (V.take k))⟩∧s.sl 4 = .own 11 1∧s.rw 11 = ⟨1,.sli 3 1 false (iL F)⟩∧s.sl 5 = int ((D:Int) - 1)∧s.sl 6 = int k∧s.sl 7 = int (lnA (lnC xs) (D - 1) i k)∧s.sl 8 = int i∧(i ≤ k + 1)) (fun i=>k + 1 - i) (0) (by refine ⟨?_,?_,?_,?_,?_,?_,?_,?_,?_,?_,Nat.zero_le _⟩ <;> (first | (simp -dsimp only [gr,simprocAttr,h1a,r1a,h3a,r9a,h4a,r11a,h5a,h6a];first | done | rfl | (simp;done)) | assumption | rfl)) ?_
  intro i sb ⟨h1b,r1b,h3b,r9b,h4b,r11b,h5b,h6b,h7b,h8b,hIb⟩
  simp -dsimp only [↓gp,gq,simprocAttr,gT,h1b,r1b,h3b,r9b,h4b,r11b,h5b,h6b,h7b,h8b]
  refine ⟨fun h2=>?_,fun h2=>?_⟩
  ·have hch:zcK ((D:Int) - 1 - i) ((k:Int) - i) = (bin (D - 1 - i) (k - i):Nat):=by unfold zcK;rw [if_pos ⟨by omega,by omega,by omega⟩,show ((D:Int) - 1 - i).toNat = D - 1 - i by omega,show ((k:Int) - i).toNat = k - i by omega]
   have hbl:=zpt (n:=D - 1 - i) (k:=k - i) (by omega) (by omega)
   have hcb:=zxQ xs i
   obtain ⟨t1,t2,t3,t4⟩:=ztU hcb (b:=(bin (D - 1 - i) (k - i):Nat)) ⟨by omega,by omega⟩ (k - i)
   have hsm:=zh2 (zxQ xs) (n:=D - 1) (t:=k) (by omega) (by omega) i
   have hA:lnA (lnC xs) (D - 1) (i + 1) k = lnA (lnC xs) (D - 1) i k + sgI (k - i) (lnC xs i * (bin (D - 1 - i) (k - i):Nat)):=by
    rw [zps,if_pos h2]
   have w1:IntKind.i64.wrap ((D:Int) - 1 - i) = (D:Int) - 1 - i:=zai (by omega) (by omega)
   have w2:IntKind.i64.wrap ((k:Int) - i) = (k:Int) - i:=zai (by omega) (by omega)
   have hm:((k:Int) - i).tmod 2 = (((k - i) % 2:Nat):Int):=by rw [show (k:Int) - i = ((k - i:Nat):Int) by omega,zcV (by omega)];omega
   have hFi:=hFq i (by omega)
   have hlt:(k - i) % 2 < 2:=Nat.mod_lt _ (by decide)
   have v1:IntKind.i64.wrap (2 * (((k - i) % 2:Nat):Int)) = 2 * (((k - i) % 2:Nat):Int):=zai (by omega) (by omega)
   have v2:IntKind.i64.wrap (1 - 2 * (((k - i) % 2:Nat):Int)) = 1 - 2 * (((k - i) % 2:Nat):Int):=zai (by omega) (by omega)
   generalize hB:((bin (D - 1 - i) (k - i):Nat):Int) = B at *
   generalize hC:lnC xs i = C at *
   have hs:(1 - 2 * (((k - i) % 2:Nat):Int)) * C * B = sgI (k - i) (C * B):=by
    unfold sgI
    rcases Nat.mod_two_eq_zero_or_one (k - i) with h | h
    ·rw [h,if_pos rfl];simp
    ·rw [h,if_neg (by decide)];simp [Int.neg_mul]
   have v0:IntKind.i64.wrap ((1 - 2 * (((k - i) % 2:Nat):Int)) * C) = (1 - 2 * (((k - i) % 2:Nat):Int)) * C:=by
    rcases Nat.mod_two_eq_zero_or_one (k - i) with h | h <;> rw [h] <;> exact zai (by simp;omega) (by simp;omega)
   have v4:IntKind.i64.wrap (sgI (k - i) (C * B)) = sgI (k - i) (C * B):=zai (by omega) (by omega)
   have v5:IntKind.i64.wrap (lnA (lnC xs) (D - 1) i k + sgI (k - i) (C * B)) = lnA (lnC xs) (D - 1) (i + 1) k:=by rw [hA];exact zai (by omega) (by omega)
   refine ⟨by kernel_rfl,by omega,by omega,zab (zpu _ _ (by omega)) ?_⟩
   simp -dsimp only [↓gp,gq,simprocAttr,gT,h1b,r1b,h3b,r9b,h4b,r11b,h5b,h6b,h7b,h8b,w1,w2,hch,hFi,hm,v0,v1,v2,hs,v4,v5]
   exact zac (i + 1) (by refine ⟨?_,?_,?_,?_,?_,?_,?_,?_,?_,?_,by omega⟩ <;> (first | (simp -dsimp only [gr,simprocAttr,h1b,r1b,h3b,r9b,h4b,r11b,h5b,h6b,h7b,h8b,v5,zaa (show i < 7 by omega) (by omega)];first | done | rfl | (simp;done)) | assumption | rfl)) (by first | omega | (simp only;omega) | (dsimp only;omega) | (show _ < _;simp;omega))
  ·have hi:i = k + 1:=by omega
   subst hi
   have e:=htk k (by omega)
   have hl2:(V.take k).length ≤ 7:=by simp;omega
   exact ⟨by omega,zac ((k + 1,v + 1)) (by refine ⟨?_,?_,?_,?_,?_,?_,?_,?_,by dsimp only;omega⟩ <;> (first | (simp -dsimp only [gr,simprocAttr,h1a,r1a,h3a,r9a,h4a,r11a,h5a,h6a,h1b,r1b,h3b,r9b,h4b,r11b,h5b,h6b,h7b,h8b,e,zaa (show k < 7 by omega) (by omega)];first | done | rfl | (simp;done)) | assumption | rfl)) (by first | omega | (simp only;omega) | (dsimp only;omega) | (show _ < _;simp;omega))⟩
 ·have hk:k = D:=by omega
  rw [hk,← hvl,List.take_length]
def stC (r f:Int):Bool:=decide ((zat (r.toNat &&& f.toNat):Int) = (zat r.toNat:Int) - 1)
noncomputable def chJ (xs:List Int) (r:Int) (L:List Int):Nat→List Int
 | 0=>L
 | j + 1=>if (!decide (xs.getD j 0 ∈ chJ xs r L j) && stC r (xs.getD j 0)) = true then chJ xs r L j ++ [xs.getD j 0] else chJ xs r L j
noncomputable def chO (xs:List Int):Nat→Nat→List Int→List Int
 | 0,_,L=>L
 | n + 1,k,L=>if k < L.length then chO xs n (k + 1) (chJ xs (L.getD k 0) L xs.length) else L
noncomputable def chB (n:Int) (xs:List Int):Bool:=puB n xs && decide (0 < xs.length) && decide ((chO xs (xs.length + 1) 0 [xs.getD 0 0]).length = xs.length)
def zDl (xs L:List Int):Prop:=L.Nodup∧∀ x ∈ L,x ∈ xs
theorem zFv:∀ (L xs:List Int),L.Nodup→(∀ x ∈ L,x ∈ xs)→L.length ≤ xs.length
 | [],_,_,_=>Nat.zero_le _
 | x :: L,xs,hn,hs=>by
   have hx:=hs x (by simp)
   obtain ⟨h1,h2⟩:=List.nodup_cons.1 hn
   have ih:=zFv L (xs.erase x) h2 fun y hy=>(List.mem_erase_of_ne fun e=>h1 (by rw [← e];exact hy)).2 (hs y (by simp [hy]))
   rw [List.length_erase_of_mem hx] at ih
   have:=List.length_pos_of_mem hx
   rw [List.length_cons];omega
theorem zj6 {xs L:List Int} (h:zDl xs L):L.length ≤ xs.length:=zFv L xs h.1 h.2
theorem zDm {xs L:List Int} (h:zDl xs L) {x:Int} (hx:x ∈ xs) (hn:¬ x ∈ L):zDl xs (L ++ [x]) :=
 ⟨List.nodup_append.2 ⟨h.1,by simp,fun a ha b hb e=>by rw [List.mem_singleton.1 hb] at e;exact hn (e ▸ ha)⟩,fun y hy=>by
  rcases List.mem_append.1 hy with hy | hy
  ·exact h.2 y hy
  ·rw [List.mem_singleton.1 hy];exact hx⟩
theorem zFw {xs L:List Int} {r:Int} (h:zDl xs L):∀ j,j ≤ xs.length→zDl xs (chJ xs r L j)∧L.length ≤ (chJ xs r L j).length∧∀ k,k < L.length→(chJ xs r L j).getD k 0 = L.getD k 0:=by
 intro j
 induction j with
 | zero=>exact fun _=>⟨h,Nat.le_refl _,fun _ _=>rfl⟩
 | succ j ih =>
   intro hj
   obtain ⟨a,b,c⟩:=ih (by omega)
   rw [chJ]
   split
   ·rename_i hc
    rw [Bool.and_eq_true,Bool.not_eq_true',decide_eq_false_iff_not] at hc
    refine ⟨zDm a (zaj 0 (by omega)) hc.1,by rw [List.length_append];omega,fun k hk=>?_⟩
    rw [← c k hk,List.getD_eq_getElem?_getD,List.getElem?_append_left (by omega),← List.getD_eq_getElem?_getD]
   ·exact ⟨a,b,c⟩
theorem zDn {r f:Int} (hr:0 ≤ r∧r < 64) (hf:0 ≤ f∧f < 64) (h:zat f.toNat = zat r.toNat):(zms (zco .i64 f r) == 1) = stC r f:=by
 have e:zco .i64 f r = ((f.toNat ^^^ (f.toNat &&& r.toNat):Nat):Int):=by
  rw [← zbi (by omega) (by omega)];congr 1 <;> omega
 have h1:f.toNat &&& r.toNat < 64:=Nat.lt_of_le_of_lt Nat.and_le_left (by omega)
 have h2:f.toNat ^^^ (f.toNat &&& r.toNat) < 64:=Nat.xor_lt_two_pow (n:=6) (by omega) h1
 have h3:=zGY f.toNat (by omega) (f.toNat &&& r.toNat) h1 (by rw [← Nat.and_assoc,Nat.and_self])
 rw [e,zc3 h2]
 unfold stC
 rw [Nat.and_comm r.toNat,Bool.eq_iff_iff,beq_iff_eq,decide_eq_true_iff]
 omega
theorem zwm {L:List Int} {f:Int} (hf:0 ≤ f∧f < 64):zaB (inF (L ++ [f])) 64 = zaB (inF L) 64 ||| 2 ^ f.toNat:=by
 rw [zok _ (by omega)]
 refine zcz fun s _=>?_
 rw [zsr,zsr,Bool.eq_iff_iff,Bool.or_eq_true,decide_eq_true_iff,decide_eq_true_iff,beq_iff_eq,List.mem_append,List.mem_singleton]
 exact or_congr Iff.rfl ⟨fun h=>by omega,fun h=>by omega⟩
theorem zFx {n:Int} {xs:List Int} (h:puB n xs = true):zaL n xs = true∧∀ x ∈ xs,∀ y ∈ xs,zat x.toNat = zat y.toNat:=by
 unfold puB at h
 rw [Bool.and_eq_true,List.all_eq_true] at h
 exact ⟨h.1,fun x hx y hy=>(of_decide_eq_true (h.2 x hx)).trans (of_decide_eq_true (h.2 y hy)).symm⟩
theorem zA5 (xs:List Int) {n k:Nat} {L:List Int} (h:L.length ≤ k):chO xs n k L = L:=by
 cases n with
 | zero=>rfl
 | succ n=>rw [chO,if_neg (by omega)]
theorem ze7 (n:Int) (xs:List Int):AC Tryz.prog 156 [.ag [int n,zax xs]] (.im (bool (chB n xs))):=by
 refine AC.go (rs:=[.tmp 2]) zaD mixed Tryz.func156 rfl rfl rfl (by kernel_rfl) fun hl=>?_
 simp -dsimp only [↓gp,gq,simprocAttr,gT]
 refine zab (zeS n xs) ?_
 simp -dsimp only [↓gp,gq,simprocAttr,gT]
 have hno:puB n xs = false→chB n xs = false:=fun h=>by unfold chB;rw [h];rfl
 refine ⟨fun hp=>⟨fun h0=>?_,fun h0=>?_⟩,fun hp=>by rw [hno (by simpa using hp)]⟩
 ·unfold chB;rw [decide_eq_false (show ¬ 0 < xs.length by have:=beq_iff_eq.1 h0;omega),Bool.and_false];rfl
 have hp:puB n xs = true:=by simpa using hp
 have hpos:0 < xs.length:=Nat.pos_of_ne_zero fun e=>by rw [e] at h0;cases h0
 obtain ⟨hcx,hpp⟩:=zFx hp
 have hok:=zb4 hcx
 have hxl:=zdZ hcx
 have hx0:=hok _ (zaj 0 hpos)
 have hB:chB n xs = decide ((chO xs (xs.length + 1) 0 [xs.getD 0 0]).length = xs.length):=by
  unfold chB;rw [hp,decide_eq_true hpos,Bool.true_and,Bool.true_and]
 have hun:IntKind.u64.wrap (xs.getD 0 0) = xs.getD 0 0:=by
  rw [show xs.getD 0 0 = (((xs.getD 0 0).toNat:Nat):Int) by omega];exact zaV (by omega)
 have hsh:zip .u64 1 (xs.getD 0 0) = ((zaB (inF [xs.getD 0 0]) 64:Nat):Int):=by
  rw [show zip .u64 1 (xs.getD 0 0) = zip .u64 1 (((xs.getD 0 0).toNat:Nat):Int) by congr 1;omega,zwl (by omega)]
  have:=zwm (L:=[]) hx0
  rw [List.nil_append] at this
  rw [this,show zaB (inF []) 64 = 0 from (zcz (w':=fun _=>false) (fun s _=>by rw [zsr];simp)).trans zlY,Nat.zero_or]
 have hs0:zDl xs [xs.getD 0 0]:=⟨by simp,fun x hx=>by rw [List.mem_singleton.1 hx];exact zaj 0 hpos⟩
 have hiL:iL [xs.getD 0 0] = [int (xs.getD 0 0)]:=rfl
 simp -dsimp only [↓gp,gq,simprocAttr,gT,hun,hsh]
 refine ⟨by omega,hpos,by omega,hpos,by omega,?_⟩
 refine zah (fun (za:Nat × Nat × List Int) s=>match za with | (k,v,L)=>s.sl 1 = .ref 1 1 0∧s.rw 1 = ⟨1,.box 27 [int n,zax xs]⟩∧s.sl 3 = .own 21 v∧s.rw 21 = ⟨v,.sli 3 1 false (iL L)⟩∧s.sl 4 = u64 (zaB (inF L) 64:Nat)∧s.sl 5 = int k∧(k ≤ L.length∧zDl xs L∧chO xs (xs.length + 1 - k) k L = chO xs (xs.length + 1) 0 [xs.getD 0 0])) (fun (k,v,L)=>xs.length + 1 - k) ((0,1,[xs.getD 0 0])) (by refine ⟨?_,?_,?_,?_,?_,?_,⟨Nat.zero_le _,hs0,rfl⟩⟩ <;> (first | (simp -dsimp only [gr,simprocAttr,hun,hsh,hiL];first | done | rfl | (simp;done)) | assumption | rfl)) ?_
 intro (k,v,L) sa ⟨h1a,r1a,h3a,r21a,h4a,h5a,hIa⟩
 obtain ⟨hk,hsub,hch⟩:=hIa
 have hLl:=zj6 hsub
 simp -dsimp only [↓gp,gq,simprocAttr,gT,h1a,r1a,h3a,r21a,h4a,h5a]
 refine ⟨fun h1=>?_,fun h1=>?_⟩
 ·have hr:=hok _ (hsub.2 _ (zaj 0 h1))
  rw [show xs.length + 1 - k = (xs.length + 1 - (k + 1)) + 1 by omega,chO,if_pos h1] at hch
  have hJ:=fun j (hj:j ≤ xs.length)=>zFw (r:=L.getD k 0) hsub j hj
  have hJs:∀ j,chJ xs (L.getD k 0) L (j + 1) = if (!decide (xs.getD j 0 ∈ chJ xs (L.getD k 0) L j) && stC (L.getD k 0) (xs.getD j 0)) = true then chJ xs (L.getD k 0) L j ++ [xs.getD j 0] else chJ xs (L.getD k 0) L j:=fun j=>rfl
  have hJ0:chJ xs (L.getD k 0) L 0 = L:=rfl
  have hrm:=hsub.2 _ (zaj 0 h1)
  generalize hrr:L.getD k 0 = r at *
  refine zah (fun (zb:Nat × Nat) s=>match zb with | (j,u)=>s.sl 1 = .ref 1 1 0∧s.rw 1 = ⟨1,.box 27 [int n,zax xs]⟩∧s.sl 3 = .own 21 u∧s.rw 21 = ⟨u,.sli 3 1 false (iL (chJ xs r L j))⟩∧s.sl 4 = u64 (zaB (inF (chJ xs r L j)) 64:Nat)∧s.sl 5 = int k∧s.sl 35 = zax xs∧s.sl 36 = int xs.length∧s.sl 37 = int j∧(j ≤ xs.length)) (fun (j,u)=>xs.length - j) ((0,v)) (by refine ⟨?_,?_,?_,?_,?_,?_,?_,?_,?_,Nat.zero_le _⟩ <;> (first | (simp -dsimp only [gr,simprocAttr,h1a,r1a,h3a,r21a,h4a,h5a,hJ0];first | done | rfl | (simp;done)) | assumption | rfl)) ?_
  intro (j,u) sb ⟨h1b,r1b,h3b,r21b,h4b,h5b,h35b,h36b,h37b,hIb⟩
  obtain ⟨j1,j2,j3⟩:=hJ j hIb
  have hj3:=j3 k h1
  rw [hrr] at hj3
  have hml:=zj6 j1
  have hJj:=hJs j
  generalize hM:chJ xs r L j = M at *
  simp -dsimp only [↓gp,gq,simprocAttr,gT,h1b,r1b,h3b,r21b,h4b,h5b,h35b,h36b,h37b]
  refine ⟨fun h2=>?_,fun h2=>?_⟩
  ·have hxj:=hok _ (zaj 0 h2)
   have hxm:=zaj 0 h2
   have hlt:=zbk (inF M) 64
   have hc:=zbu (zaB (inF M) 64) (xs.getD j 0).toNat (by omega) (by omega)
   rw [za6 _ (by omega),zsr,show (((xs.getD j 0).toNat:Nat):Int) = xs.getD j 0 by omega] at hc
   have hst:=zDn hr hxj (hpp _ hxm _ hrm)
   have hxn:xs.getD j 0 = (((xs.getD j 0).toNat:Nat):Int):=by omega
   have hu2:IntKind.u64.wrap (xs.getD j 0) = xs.getD j 0:=by rw [hxn];exact zaV (by omega)
   have h2s:(2:Nat) ^ (xs.getD j 0).toNat < 18446744073709551616:=by
    have:(2:Nat) ^ (xs.getD j 0).toNat < 2 ^ 64:=Nat.pow_lt_pow_right (by omega) (by omega)
    omega
   have hor:ior .u64 (zaB (inF M) 64:Nat) (zip .u64 1 (xs.getD j 0)) = ((zaB (inF (M ++ [xs.getD j 0])) 64:Nat):Int):=by
    rw [show zip .u64 1 (xs.getD j 0) = zip .u64 1 (((xs.getD j 0).toNat:Nat):Int) by congr 1,zwl (by omega),zDg (by omega) h2s,zwm hxj]
   have hiM:iL M ++ [int (xs.getD j 0)] = iL (M ++ [xs.getD j 0]):=by simp [iL]
   generalize hx:xs.getD j 0 = x at *
   refine ⟨h2,h2,zab hc ?_⟩
   simp -dsimp only [↓gp,gq,simprocAttr,gT,h1b,r1b,h3b,r21b,h4b,h5b,h35b,h36b,h37b]
   refine ⟨fun h3=>⟨by omega,by omega,zab (zaA _) ?_⟩,fun h3=>?_⟩
   ·have h3:decide (x ∈ M) = false:=by simpa using h3
    rw [hj3]
    simp -dsimp only [↓gp,gq,simprocAttr,gT,h1b,r1b,h3b,r21b,h4b,h5b,h35b,h36b,h37b,hst,hu2,hor]
    rw [h3,Bool.not_false,Bool.true_and] at hJj
    refine ⟨fun h4=>?_,fun h4=>?_⟩
    ·rw [if_pos h4] at hJj
     exact ⟨hxj.1,by omega,zac ((j + 1,u + 1)) (by refine ⟨?_,?_,?_,?_,?_,?_,?_,?_,?_,by dsimp only;omega⟩ <;> (first | (simp -dsimp only [gr,simprocAttr,h1b,r1b,h3b,r21b,h4b,h5b,h35b,h36b,h37b,h1b,r1b,h3b,r21b,h4b,h5b,h35b,h36b,h37b,hu2,hor,hJj,hiM,zaa h2 (by omega)];first | done | rfl | (simp;done)) | assumption | rfl)) (by first | omega | (simp only;omega) | (dsimp only;omega) | (show _ < _;simp;omega))⟩
    ·rw [if_neg (by rw [h4];decide)] at hJj
     exact zac ((j + 1,u)) (by refine ⟨?_,?_,?_,?_,?_,?_,?_,?_,?_,by dsimp only;omega⟩ <;> (first | (simp -dsimp only [gr,simprocAttr,h1b,r1b,h3b,r21b,h4b,h5b,h35b,h36b,h37b,h1b,r1b,h3b,r21b,h4b,h5b,h35b,h36b,h37b,hJj,zaa h2 (by omega)];first | done | rfl | (simp;done)) | assumption | rfl)) (by first | omega | (simp only;omega) | (dsimp only;omega) | (show _ < _;simp;omega))
   ·have h3:decide (x ∈ M) = true:=by simpa using h3
    rw [h3,Bool.not_true,Bool.false_and,if_neg (by decide)] at hJj
    exact zac ((j + 1,u)) (by refine ⟨?_,?_,?_,?_,?_,?_,?_,?_,?_,by dsimp only;omega⟩ <;> (first | (simp -dsimp only [gr,simprocAttr,h1b,r1b,h3b,r21b,h4b,h5b,h35b,h36b,h37b,h1b,r1b,h3b,r21b,h4b,h5b,h35b,h36b,h37b,hJj,zaa h2 (by omega)];first | done | rfl | (simp;done)) | assumption | rfl)) (by first | omega | (simp only;omega) | (dsimp only;omega) | (show _ < _;simp;omega))
  ·have hj:j = xs.length:=by omega
   have hch:chO xs (xs.length + 1 - (k + 1)) (k + 1) M = chO xs (xs.length + 1) 0 [xs.getD 0 0]:=by rw [← hM,hj];exact hch
   exact zac ((k + 1,u,M)) (by refine ⟨?_,?_,?_,?_,?_,?_,⟨by dsimp only;omega,j1,hch⟩⟩ <;> (first | (simp -dsimp only [gr,simprocAttr,h1a,r1a,h3a,r21a,h4a,h5a,h1b,r1b,h3b,r21b,h4b,h5b,h35b,h36b,h37b,zaa (show k < 64 by omega) (by omega)];first | done | rfl | (simp;done)) | assumption | rfl)) (by first | omega | (simp only;omega) | (dsimp only;omega) | (show _ < _;simp;omega))
 ·rw [zA5 xs (by omega)] at hch
  rw [hB,← hch,Bool.eq_iff_iff,decide_eq_true_iff,beq_iff_eq]
  omega
theorem ze8 (n:Int) (xs:List Int):AC Tryz.prog 144 [.ag [int n,zax xs]] (.im (bool (chB n xs))):=by
 refine AC.go (rs:=[.tmp 2]) zaD mixed Tryz.func144 rfl rfl rfl (by kernel_rfl) fun hl=>?_
 simp -dsimp only [↓gp,gq,simprocAttr,gT]
 refine zab (zeR n xs) ?_
 simp -dsimp only [↓gp,gq,simprocAttr,gT]
 have hno:puB n xs = false→chB n xs = false:=fun h=>by unfold chB;rw [h];rfl
 refine ⟨fun hp=>⟨fun h0=>?_,fun h0=>?_⟩,fun hp=>by rw [hno (by simpa using hp)]⟩
 ·unfold chB;rw [decide_eq_false (show ¬ 0 < xs.length by have:=beq_iff_eq.1 h0;omega),Bool.and_false];rfl
 have hp:puB n xs = true:=by simpa using hp
 have hpos:0 < xs.length:=Nat.pos_of_ne_zero fun e=>by rw [e] at h0;cases h0
 obtain ⟨hcx,hpp⟩:=zFx hp
 have hok:=zb4 hcx
 have hxl:=zdZ hcx
 have hx0:=hok _ (zaj 0 hpos)
 have hB:chB n xs = decide ((chO xs (xs.length + 1) 0 [xs.getD 0 0]).length = xs.length):=by
  unfold chB;rw [hp,decide_eq_true hpos,Bool.true_and,Bool.true_and]
 have hs0:zDl xs [xs.getD 0 0]:=⟨by simp,fun x hx=>by rw [List.mem_singleton.1 hx];exact zaj 0 hpos⟩
 have hiL:iL [xs.getD 0 0] = [int (xs.getD 0 0)]:=rfl
 refine ⟨by omega,hpos,?_⟩
 refine zah (fun (za:Nat × Nat × List Int) s=>match za with | (k,v,L)=>s.sl 1 = .ref 1 1 0∧s.rw 1 = ⟨1,.box 27 [int n,zax xs]⟩∧s.sl 3 = .own 19 v∧s.rw 19 = ⟨v,.sli 3 1 false (iL L)⟩∧s.sl 4 = int k∧(k ≤ L.length∧zDl xs L∧chO xs (xs.length + 1 - k) k L = chO xs (xs.length + 1) 0 [xs.getD 0 0])) (fun (k,v,L)=>xs.length + 1 - k) ((0,1,[xs.getD 0 0])) (by refine ⟨?_,?_,?_,?_,?_,⟨Nat.zero_le _,hs0,rfl⟩⟩ <;> (first | (simp -dsimp only [gr,simprocAttr,hiL];first | done | rfl | (simp;done)) | assumption | rfl)) ?_
 intro (k,v,L) sa ⟨h1a,r1a,h3a,r19a,h4a,hIa⟩
 obtain ⟨hk,hsub,hch⟩:=hIa
 have hLl:=zj6 hsub
 simp -dsimp only [↓gp,gq,simprocAttr,gT,h1a,r1a,h3a,r19a,h4a]
 refine ⟨fun h1=>?_,fun h1=>?_⟩
 ·have hr:=hok _ (hsub.2 _ (zaj 0 h1))
  rw [show xs.length + 1 - k = (xs.length + 1 - (k + 1)) + 1 by omega,chO,if_pos h1] at hch
  have hJ:=fun j (hj:j ≤ xs.length)=>zFw (r:=L.getD k 0) hsub j hj
  have hJs:∀ j,chJ xs (L.getD k 0) L (j + 1) = if (!decide (xs.getD j 0 ∈ chJ xs (L.getD k 0) L j) && stC (L.getD k 0) (xs.getD j 0)) = true then chJ xs (L.getD k 0) L j ++ [xs.getD j 0] else chJ xs (L.getD k 0) L j:=fun j=>rfl
  have hJ0:chJ xs (L.getD k 0) L 0 = L:=rfl
  have hrm:=hsub.2 _ (zaj 0 h1)
  generalize hrr:L.getD k 0 = r at *
  refine zah (fun (zb:Nat × Nat) s=>match zb with | (j,u)=>s.sl 1 = .ref 1 1 0∧s.rw 1 = ⟨1,.box 27 [int n,zax xs]⟩∧s.sl 3 = .own 19 u∧s.rw 19 = ⟨u,.sli 3 1 false (iL (chJ xs r L j))⟩∧s.sl 4 = int k∧s.sl 5 = int j∧(j ≤ xs.length)) (fun (j,u)=>xs.length - j) ((0,v)) (by refine ⟨?_,?_,?_,?_,?_,?_,Nat.zero_le _⟩ <;> (first | (simp -dsimp only [gr,simprocAttr,h1a,r1a,h3a,r19a,h4a,hJ0];first | done | rfl | (simp;done)) | assumption | rfl)) ?_
  intro (j,u) sb ⟨h1b,r1b,h3b,r19b,h4b,h5b,hIb⟩
  obtain ⟨j1,j2,j3⟩:=hJ j hIb
  have hj3:=j3 k h1
  rw [hrr] at hj3
  have hml:=zj6 j1
  have hJj:=hJs j
  generalize hM:chJ xs r L j = M at *
  simp -dsimp only [↓gp,gq,simprocAttr,gT,h1b,r1b,h3b,r19b,h4b,h5b]
  refine ⟨fun h2=>?_,fun h2=>?_⟩
  ·have hxj:=hok _ (zaj 0 h2)
   have hiM:iL M ++ [int (xs.getD j 0)] = iL (M ++ [xs.getD j 0]):=by simp [iL]
   generalize hx:xs.getD j 0 = x at *
   have han:zfE .i64 r x = ((r.toNat &&& x.toNat:Nat):Int):=by
    rw [← zbc (by omega) (by omega)];congr 1 <;> omega
   have hal:r.toNat &&& x.toNat < 64:=Nat.lt_of_le_of_lt Nat.and_le_left (by omega)
   have hpl:=zb3 (s:=r.toNat) (by omega)
   have hw1:IntKind.i64.wrap ((zat r.toNat:Int) - 1) = (zat r.toNat:Int) - 1:=zai (by omega) (by omega)
   have hst:(((zat (r.toNat &&& x.toNat):Nat):Int) == (zat r.toNat:Int) - 1) = stC r x:=by
    unfold stC;rw [Bool.eq_iff_iff,beq_iff_eq,decide_eq_true_iff]
   refine ⟨by kernel_rfl,h2,h2,zab (zdN _ _) ?_⟩
   simp -dsimp only [↓gp,gq,simprocAttr,gT,h1b,r1b,h3b,r19b,h4b,h5b,hj3,hx,han]
   refine ⟨fun h3=>⟨by omega,by omega,h2,h2,zab (zaM _ (by omega)) ?_⟩,fun h3=>?_⟩
   ·have h3:decide (x ∈ M) = false:=by simpa using h3
    simp -dsimp only [↓gp,gq,simprocAttr,gT,h1b,r1b,h3b,r19b,h4b,h5b,hj3,hx,han]
    refine ⟨by omega,by omega,zab (zcc hr.1 (by omega)) ?_⟩
    simp -dsimp only [↓gp,gq,simprocAttr,gT,h1b,r1b,h3b,r19b,h4b,h5b,hj3,hx,han,hw1,hst]
    rw [h3,Bool.not_false,Bool.true_and] at hJj
    refine ⟨fun h4=>?_,fun h4=>?_⟩
    ·rw [if_pos h4] at hJj
     exact ⟨h2,h2,by omega,zac ((j + 1,u + 1)) (by refine ⟨?_,?_,?_,?_,?_,?_,by dsimp only;omega⟩ <;> (first | (simp -dsimp only [gr,simprocAttr,h1b,r1b,h3b,r19b,h4b,h5b,h1b,r1b,h3b,r19b,h4b,h5b,hx,hJj,hiM,zaa h2 (by omega)];first | done | rfl | (simp;done)) | assumption | rfl)) (by first | omega | (simp only;omega) | (dsimp only;omega) | (show _ < _;simp;omega))⟩
    ·rw [if_neg (by rw [h4];decide)] at hJj
     exact zac ((j + 1,u)) (by refine ⟨?_,?_,?_,?_,?_,?_,by dsimp only;omega⟩ <;> (first | (simp -dsimp only [gr,simprocAttr,h1b,r1b,h3b,r19b,h4b,h5b,h1b,r1b,h3b,r19b,h4b,h5b,hJj,zaa h2 (by omega)];first | done | rfl | (simp;done)) | assumption | rfl)) (by first | omega | (simp only;omega) | (dsimp only;omega) | (show _ < _;simp;omega))
   ·have h3:decide (x ∈ M) = true:=by simpa using h3
    rw [h3,Bool.not_true,Bool.false_and,if_neg (by decide)] at hJj
    exact zac ((j + 1,u)) (by refine ⟨?_,?_,?_,?_,?_,?_,by dsimp only;omega⟩ <;> (first | (simp -dsimp only [gr,simprocAttr,h1b,r1b,h3b,r19b,h4b,h5b,h1b,r1b,h3b,r19b,h4b,h5b,hJj,zaa h2 (by omega)];first | done | rfl | (simp;done)) | assumption | rfl)) (by first | omega | (simp only;omega) | (dsimp only;omega) | (show _ < _;simp;omega))
  ·have hj:j = xs.length:=by omega
   have hch:chO xs (xs.length + 1 - (k + 1)) (k + 1) M = chO xs (xs.length + 1) 0 [xs.getD 0 0]:=by rw [← hM,hj];exact hch
   exact zac ((k + 1,u,M)) (by refine ⟨?_,?_,?_,?_,?_,⟨by dsimp only;omega,j1,hch⟩⟩ <;> (first | (simp -dsimp only [gr,simprocAttr,h1a,r1a,h3a,r19a,h4a,h1b,r1b,h3b,r19b,h4b,h5b,zaa (show k < 64 by omega) (by omega)];first | done | rfl | (simp;done)) | assumption | rfl)) (by first | omega | (simp only;omega) | (dsimp only;omega) | (show _ < _;simp;omega))
 ·rw [zA5 xs (by omega)] at hch
  rw [hB,← hch,Bool.eq_iff_iff,decide_eq_true_iff,beq_iff_eq]
  omega
def usO:List Int→Nat→Nat
 | xs,0=>0
 | xs,k + 1=>usO xs k ||| (xs.getD k 0).toNat
theorem zGy (xs:List Int) (i:Nat):∀ k,k ≤ xs.length→(usO xs k).testBit i = (xs.take k).any fun x=>x.toNat.testBit i:=by
 intro k
 induction k with
 | zero=>intro _;simp [usO]
 | succ k ih =>
   intro h
   rw [usO,Nat.testBit_or,ih (by omega),zau 0 (by omega),List.any_append];simp
theorem zFu {xs:List Int} (h:okS xs):∀ k,k ≤ xs.length→usO xs k < 64:=by
 intro k
 induction k with
 | zero=>intro _;simp [usO]
 | succ k ih =>
   intro hk
   have:=h _ (zaj 0 (show k < xs.length by omega))
   exact Nat.or_lt_two_pow (n:=6) (ih (by omega)) (by omega)
theorem zGz (x p:Nat):(x &&& 2 ^ p == 2 ^ p) = x.testBit p:=by
 rw [Bool.eq_iff_iff,beq_iff_eq]
 refine ⟨fun h=>?_,fun h=>Nat.eq_of_testBit_eq fun i=>?_⟩
 ·have e:(x &&& 2 ^ p).testBit p = true:=by rw [h,Nat.testBit_two_pow_self]
  rw [Nat.testBit_and,Bool.and_eq_true] at e
  exact e.1
 ·rw [Nat.testBit_and]
  by_cases e:p = i
  ·subst e;rw [h];simp
  ·rw [Nat.testBit_two_pow_of_ne e,Bool.and_false]
theorem zGA (xs:List Int) (p:Nat):(usO xs xs.length).testBit p = zag xs (2 ^ p):=by
 rw [zGy xs p _ (Nat.le_refl _),List.take_length]
 unfold zag
 congr 1
 funext x
 exact (zGz _ _).symm
theorem zis (n:Int) (xs:List Int) (h:zaL n xs = true):AC Tryz.prog 158 [.ag [int n,zax xs]] (.im (int (usO xs xs.length:Nat))):=by
 refine AC.go (rs:=[.tmp 2]) zaD mixed Tryz.func158 rfl rfl rfl (by kernel_rfl) fun hl=>?_
 have hok:=zb4 h
 have hxl:=zdZ h
 simp -dsimp only [↓gp,gq,simprocAttr,gT]
 refine zab (zaq n xs) ?_
 have hz:usO xs 0 = 0:=rfl
 simp -dsimp only [↓gp,gq,simprocAttr,gT,h]
 refine zah (fun (k:Nat) s=>s.sl 1 = .ref 1 1 0∧s.rw 1 = ⟨1,.box 27 [int n,zax xs]⟩∧s.sl 3 = int (usO xs k:Nat)∧s.sl 10 = zax xs∧s.sl 11 = int xs.length∧s.sl 12 = int k∧(k ≤ xs.length)) (fun k=>xs.length - k) (0) (by refine ⟨?_,?_,?_,?_,?_,?_,Nat.zero_le _⟩ <;> (first | (simp -dsimp only [gr,simprocAttr,hz];first | done | rfl | (simp;done)) | assumption | rfl)) ?_
 intro k sa ⟨h1a,r1a,h3a,h10a,h11a,h12a,hIa⟩
 simp -dsimp only [↓gp,gq,simprocAttr,gT,h1a,r1a,h3a,h10a,h11a,h12a]
 refine ⟨fun h1=>⟨h1,h1,?_⟩,fun h1=>?_⟩
 ·have hx:=hok _ (zaj 0 h1)
  have hu:=zFu hok k (by omega)
  have hor:ior .i64 (usO xs k:Nat) (xs.getD k 0) = ((usO xs (k + 1):Nat):Int):=by
   rw [show xs.getD k 0 = (((xs.getD k 0).toNat:Nat):Int) by omega,zlE (by omega) (by omega)];rfl
  exact zac (k + 1) (by refine ⟨?_,?_,?_,?_,?_,?_,by omega⟩ <;> (first | (simp -dsimp only [gr,simprocAttr,h1a,r1a,h3a,h10a,h11a,h12a,hor,zaa h1 (by omega)];first | done | rfl | (simp;done)) | assumption | rfl)) (by first | omega | (simp only;omega) | (dsimp only;omega) | (show _ < _;simp;omega))
 ·rw [show k = xs.length by omega]
theorem zpc (m:Nat) (xs:List Int) (p:Nat) (h:zaL (m:Int) xs = true) (hp:p < m):AC Tryz.prog 159 [.ag [int m,zax xs],int (2 ^ p:Nat)] (.tup [.ag [.im (int m),.fr 3 1 (iL (lkX xs p))],.im (bool true)]):=by
 refine AC.go (rs:=[.cell 4 27,.tmp 5]) zaD mixed Tryz.func159 rfl rfl rfl (by kernel_rfl) fun hl=>?_
 obtain ⟨h1,h6,_⟩:=zaP.1 h
 have hb:=p64 (show p < 6 by omega)
 have hpm:2 ^ p < 2 ^ m:=Nat.pow_lt_pow_right (by decide) hp
 have hin:zcA m (2 ^ p:Nat) = true:=by
  unfold zcA;rw [decide_eq_true_iff,zgI];exact ⟨by omega,h6,Int.natCast_nonneg _,Int.ofNat_lt.2 hpm⟩
 simp -dsimp only [↓gp,gq,simprocAttr,gT]
 refine zab (zaq m xs) ?_
 simp -dsimp only [↓gp,gq,simprocAttr,gT,h]
 refine zab (zbX m _) ?_
 simp -dsimp only [↓gp,gq,simprocAttr,gT,h,hin]
 refine ⟨by kernel_rfl,zab (zaW m xs (zb4 h)) ?_⟩
 simp -dsimp only [↓gp,gq,simprocAttr,gT]
 refine zab (zdr (zag xs) _ hb) ?_
 rw [zGC h (by omega)]
 simp -dsimp only [↓gp,gq,simprocAttr,gT]
 refine zab (zjE m _ (zBm _)) ?_
 rw [zwq (zlM h (by omega))]
 simp -dsimp only [↓gp,gq,simprocAttr,gT]
 kernel_rfl
theorem zlH (n:Int) (xs:List Int) (p:Int) (h:zaL n xs = true) (hpos:0 < xs.length) (hp:isP p = true):AC Tryz.prog 41 [.ag [int n,zax xs],int p] (.fr 3 1 (iL (zdj (zag xs) p))):=by
 refine AC.go (rs:=[.tmp 4]) zaD mixed Tryz.func41 rfl rfl rfl (by kernel_rfl) fun hl=>?_
 have h0:((xs.length:Int) == 0) = false:=by rw [beq_eq_false_iff_ne];omega
 simp -dsimp only [↓gp,gq,simprocAttr,gT]
 refine zab (zaq n xs) ?_
 simp -dsimp only [↓gp,gq,simprocAttr,gT,h,h0]
 refine zab (zbR p) ?_
 simp -dsimp only [↓gp,gq,simprocAttr,gT,hp]
 refine zab (zaW n xs (zb4 h)) ?_
 simp -dsimp only [↓gp,gq,simprocAttr,gT]
 refine zab (zgv _ p hp) ?_
 simp -dsimp only [↓gp,gq,simprocAttr,gT]
noncomputable def lnB (n:Int) (xs:List Int) (p:Nat):Bool:=chB n (lkX xs p) && zmj n (lkX xs p)
noncomputable def zj5 (n:Int) (xs:List Int):Bool:=decide (zdi n xs = 2) && (zmj n xs && (chB n xs && (List.range 6).all fun p=>!zag xs (2 ^ p) || lnB n xs p))
theorem zA4 {q:Nat→Bool} {l:List Nat} {p:Nat} (hp:p ∈ l) (h:q p = false):l.all q = false:=by
 rw [List.all_eq_false];exact ⟨p,hp,by rw [h];decide⟩
theorem ze5 (m:Nat) (xs:List Int) (h:zaL (m:Int) xs = true):AC Tryz.prog 100 [.ag [int m,zax xs]] (.im (bool (zj5 m xs))):=by
 refine AC.go (rs:=[.tmp 2]) zaD mixed Tryz.func100 rfl rfl rfl (by kernel_rfl) fun hl=>?_
 obtain ⟨h1,h6,_⟩:=zaP.1 h
 have hok:=zb4 h
 have hxl:=zdZ h
 simp -dsimp only [↓gp,gq,simprocAttr,gT]
 refine zab (zdc m xs) ?_
 simp -dsimp only [↓gp,gq,simprocAttr,gT]
 refine ⟨fun d1=>zab (zdL m xs (by omega)) ?_,fun d1=>by unfold zj5;rw [decide_eq_false (bne_iff_ne.1 d1)];rfl⟩
 have hs1:zj5 m xs = (zmj m xs && (chB m xs && (List.range 6).all fun p=>!zag xs (2 ^ p) || lnB m xs p)):=by
  unfold zj5;rw [decide_eq_true (show zdi m xs = 2 by simpa using d1),Bool.true_and]
 simp -dsimp only [↓gp,gq,simprocAttr,gT]
 refine ⟨fun d2=>zab (ze7 m xs) ?_,fun d2=>by rw [hs1,show zmj m xs = false by simpa using d2];rfl⟩
 have hs2:zj5 m xs = (chB m xs && (List.range 6).all fun p=>!zag xs (2 ^ p) || lnB m xs p):=by
  rw [hs1,show zmj m xs = true by simpa using d2,Bool.true_and]
 simp -dsimp only [↓gp,gq,simprocAttr,gT]
 refine ⟨fun d3=>by rw [hs2,show chB m xs = false by simpa using d3];rfl,fun d3=>zab (zis m xs h) ?_⟩
 have hs3:zj5 m xs = (List.range 6).all fun p=>!zag xs (2 ^ p) || lnB m xs p:=by
  rw [hs2,show chB m xs = true by simpa using d3,Bool.true_and]
 have hu64:=zFu hok xs.length (Nat.le_refl _)
 have hmem:∀ p,p ∈ zmM (usO xs xs.length) 6 ↔ p < 6∧zag xs (2 ^ p) = true:=fun p=>by
  unfold zmM;rw [List.mem_filter,List.mem_range,zGA]
 have hpm:∀ p,p < 6→zag xs (2 ^ p) = true→p < m:=fun p hp hf=>by
  have:=(zmh h).2 _ (p64 hp) hf
  rw [Int.toNat_natCast] at this
  exact (Nat.pow_lt_pow_iff_right (by decide)).1 this
 simp -dsimp only [↓gp,gq,simprocAttr,gT]
 refine zab (zfc _ hu64) ?_
 have hpl:=zkg (usO xs xs.length) 6
 have hol:=zad (zmM (usO xs xs.length) 6)
 generalize zmM (usO xs xs.length) 6 = L at *
 simp -dsimp only [↓gp,gq,simprocAttr,gT,hol]
 refine zah (fun (j:Nat) s=>s.sl 1 = .ref 1 1 0∧s.rw 1 = ⟨1,.box 27 [int m,zax xs]⟩∧s.sl 22 = .own 22 1∧s.rw 22 = ⟨1,.sli 3 1 false (iL (ofN L))⟩∧s.sl 23 = int L.length∧s.sl 24 = int j∧(j ≤ L.length∧∀ t,t < j→lnB m xs (L.getD t 0) = true)) (fun j=>L.length - j) (0) (by refine ⟨?_,?_,?_,?_,?_,?_,⟨Nat.zero_le _,fun t ht=>absurd ht (Nat.not_lt_zero t)⟩⟩ <;> (first | (simp -dsimp only [gr,simprocAttr,hol];first | done | rfl | (simp;done)) | assumption | rfl)) ?_
 intro j sa ⟨h1a,r1a,h22a,r22a,h23a,h24a,hIa⟩
 obtain ⟨hj,hall⟩:=hIa
 simp -dsimp only [↓gp,gq,simprocAttr,gT,h1a,r1a,h22a,r22a,h23a,h24a,hol]
 refine ⟨fun k1=>⟨k1,k1,?_⟩,fun k1=>?_⟩
 ·obtain ⟨hp6,hf⟩:=(hmem _).1 (zaj 0 k1)
  have hpm':=hpm _ hp6 hf
  have hsn:∀ t,t < j + 1→lnB m xs (L.getD j 0) = true→lnB m xs (L.getD t 0) = true:=fun t ht hb=>by
   rcases Nat.lt_succ_iff_lt_or_eq.1 ht with ht | rfl
   ·exact hall t ht
   ·exact hb
  have hfin:lnB m xs (L.getD j 0) = false→zj5 m xs = false:=fun hb=>by
   rw [hs3];exact zA4 (List.mem_range.2 hp6) (by rw [hb,hf];rfl)
  rw [zaG k1]
  generalize L.getD j 0 = p at *
  have hun:IntKind.u64.wrap (p:Int) = (p:Int):=zaV (by omega)
  have hsh:zip .i64 1 (p:Int) = ((2 ^ p:Nat):Int):=zbf (by omega)
  simp -dsimp only [↓gp,gq,simprocAttr,gT,h1a,r1a,h22a,r22a,h23a,h24a,hun,hsh]
  refine zab (zpc m xs p h hpm') ?_
  have hll:=zdZ (zlM h hp6)
  unfold lnB at hsn hfin
  generalize lkX xs p = Y at *
  simp -dsimp only [↓gp,gq,simprocAttr,gT,h1a,r1a,h22a,r22a,h23a,h24a]
  refine zab (ze7 m Y) ?_
  simp -dsimp only [↓gp,gq,simprocAttr,gT,h1a,r1a,h22a,r22a,h23a,h24a]
  refine ⟨fun e1=>zab (zdL m Y (by omega)) ?_,fun e1=>hfin (by rw [show chB m Y = false by simpa using e1];rfl)⟩
  simp -dsimp only [↓gp,gq,simprocAttr,gT,h1a,r1a,h22a,r22a,h23a,h24a]
  refine ⟨fun e2=>hfin (by rw [show zmj m Y = false by simpa using e2,Bool.and_false]),fun e2=>?_⟩
  have e3:(chB m Y && zmj m Y) = true:=by rw [show chB m Y = true by simpa using e1,show zmj m Y = true by simpa using e2];rfl
  exact zac (j + 1) (by refine ⟨?_,?_,?_,?_,?_,?_,⟨by omega,fun t ht=>hsn t ht e3⟩⟩ <;> (first | (simp -dsimp only [gr,simprocAttr,h1a,r1a,h22a,r22a,h23a,h24a,hol,zaa k1 (by omega)];first | done | rfl | (simp;done)) | assumption | rfl)) (by first | omega | (simp only;omega) | (dsimp only;omega) | (show _ < _;simp;omega))
 ·rw [hs3,List.all_eq_true.2 fun p hp=>?_]
  have hp6:=List.mem_range.1 hp
  cases hf:zag xs (2 ^ p) with
  | false=>rfl
  | true =>
    obtain ⟨t,ht,e⟩:=zaR 0 ((hmem p).2 ⟨hp6,hf⟩)
    have:=hall t (by omega)
    rw [e] at this
    rw [this];rfl
theorem ze6 (m:Nat) (xs:List Int) (h:zaL (m:Int) xs = true):AC Tryz.prog 89 [.ag [int m,zax xs]] (.im (bool (zj5 m xs))):=by
 refine AC.go (rs:=[.tmp 2]) zaD mixed Tryz.func89 rfl rfl rfl (by kernel_rfl) fun hl=>?_
 obtain ⟨h1,h6,_⟩:=zaP.1 h
 have hok:=zb4 h
 have hxl:=zdZ h
 simp -dsimp only [↓gp,gq,simprocAttr,gT]
 refine zab (zbH m xs) ?_
 simp -dsimp only [↓gp,gq,simprocAttr,gT]
 refine ⟨fun d1=>zab (zdM m xs (by omega)) ?_,fun d1=>by unfold zj5;rw [decide_eq_false (bne_iff_ne.1 d1)];rfl⟩
 have hs1:zj5 m xs = (zmj m xs && (chB m xs && (List.range 6).all fun p=>!zag xs (2 ^ p) || lnB m xs p)):=by
  unfold zj5;rw [decide_eq_true (show zdi m xs = 2 by simpa using d1),Bool.true_and]
 simp -dsimp only [↓gp,gq,simprocAttr,gT]
 refine ⟨fun d2=>zab (ze8 m xs) ?_,fun d2=>by rw [hs1,show zmj m xs = false by simpa using d2];rfl⟩
 have hs2:zj5 m xs = (chB m xs && (List.range 6).all fun p=>!zag xs (2 ^ p) || lnB m xs p):=by
  rw [hs1,show zmj m xs = true by simpa using d2,Bool.true_and]
 simp -dsimp only [↓gp,gq,simprocAttr,gT]
 refine ⟨fun d3=>by rw [hs2,show chB m xs = false by simpa using d3];rfl,fun d3=>?_⟩
 have hs3:zj5 m xs = (List.range 6).all fun p=>!zag xs (2 ^ p) || lnB m xs p:=by
  rw [hs2,show chB m xs = true by simpa using d3,Bool.true_and]
 have hpm:∀ p,p < 6→zag xs (2 ^ p) = true→p < m:=fun p hp hf=>by
  have:=(zmh h).2 _ (p64 hp) hf
  rw [Int.toNat_natCast] at this
  exact (Nat.pow_lt_pow_iff_right (by decide)).1 this
 refine zah (fun (j:Nat) s=>s.sl 1 = .ref 1 1 0∧s.rw 1 = ⟨1,.box 27 [int m,zax xs]⟩∧s.sl 3 = int j∧(j ≤ m∧∀ t,t < j→(!zag xs (2 ^ t) || lnB m xs t) = true)) (fun j=>m - j) (0) (by refine ⟨?_,?_,?_,⟨Nat.zero_le _,fun t ht=>absurd ht (Nat.not_lt_zero t)⟩⟩ <;> (first | (simp -dsimp only [gr,simprocAttr];first | done | rfl | (simp;done)) | assumption | rfl)) ?_
 intro j sa ⟨h1a,r1a,h3a,hIa⟩
 obtain ⟨hj,hall⟩:=hIa
 have hun:IntKind.u64.wrap (j:Int) = (j:Int):=zaV (by omega)
 simp -dsimp only [↓gp,gq,simprocAttr,gT,h1a,r1a,h3a,hun]
 refine ⟨fun k1=>?_,fun k1=>?_⟩
 ·have hj6:j < 6:=by omega
  have hb:=p64 hj6
  have hsh:zip .i64 1 (j:Int) = ((2 ^ j:Nat):Int):=zbf (by omega)
  have hsn:(!zag xs (2 ^ j) || lnB m xs j) = true→∀ t,t < j + 1→(!zag xs (2 ^ t) || lnB m xs t) = true:=fun hb t ht=>by
   rcases Nat.lt_succ_iff_lt_or_eq.1 ht with ht | rfl
   ·exact hall t ht
   ·exact hb
  have hfin:(!zag xs (2 ^ j) || lnB m xs j) = false→zj5 m xs = false:=fun hb=>by
   rw [hs3];exact zA4 (List.mem_range.2 hj6) hb
  rw [hsh]
  refine zab (zdd m xs _ hok hb) ?_
  simp -dsimp only [↓gp,gq,simprocAttr,gT,h1a,r1a,h3a,hun,hsh]
  refine ⟨fun f1=>?_,fun f1=>?_⟩
  ·exact zac (j + 1) (by refine ⟨?_,?_,?_,⟨by omega,hsn (by rw [f1];rfl)⟩⟩ <;> (first | (simp -dsimp only [gr,simprocAttr,h1a,r1a,h3a,zaa k1 (by omega)];first | done | rfl | (simp;done)) | assumption | rfl)) (by first | omega | (simp only;omega) | (dsimp only;omega) | (show _ < _;simp;omega))
  have f1:zag xs (2 ^ j) = true:=by simpa using f1
  rw [f1,Bool.not_true,Bool.false_or] at hsn hfin
  refine zab (zds m xs _ hb hok (by omega)) ?_
  have hll:=zdZ (zlM h hj6)
  unfold lnB at hsn hfin
  rw [show ofN (zd9 (inF (zl5 xs (2 ^ j))) true) = lkX xs j from rfl]
  generalize lkX xs j = Y at *
  simp -dsimp only [↓gp,gq,simprocAttr,gT,h1a,r1a,h3a]
  refine zab (ze8 m Y) ?_
  simp -dsimp only [↓gp,gq,simprocAttr,gT,h1a,r1a,h3a]
  refine ⟨fun e1=>zab (zdM m Y (by omega)) ?_,fun e1=>hfin (by rw [show chB m Y = false by simpa using e1];rfl)⟩
  simp -dsimp only [↓gp,gq,simprocAttr,gT,h1a,r1a,h3a]
  refine ⟨fun e2=>hfin (by rw [show zmj m Y = false by simpa using e2,Bool.and_false]),fun e2=>?_⟩
  have e3:(chB m Y && zmj m Y) = true:=by rw [show chB m Y = true by simpa using e1,show zmj m Y = true by simpa using e2];rfl
  exact zac (j + 1) (by refine ⟨?_,?_,?_,⟨by omega,hsn e3⟩⟩ <;> (first | (simp -dsimp only [gr,simprocAttr,h1a,r1a,h3a,zaa k1 (by omega)];first | done | rfl | (simp;done)) | assumption | rfl)) (by first | omega | (simp only;omega) | (dsimp only;omega) | (show _ < _;simp;omega))
 ·rw [hs3,List.all_eq_true.2 fun p hp=>?_]
  have hp6:=List.mem_range.1 hp
  cases hf:zag xs (2 ^ p) with
  | false=>rfl
  | true =>
    have:=hall p (by have:=hpm p hp6 hf;omega)
    rwa [hf] at this
open Nat (reduceEqDiff reduceMod reduceAdd reduceLT reduceLeDiff reduceSub reduceMul)
theorem zHx {u:Nat} (h:u ≠ 0):Go.Lib.decDigits u = (if u / 10 = 0 then [] else Go.Lib.decDigits (u / 10)) ++ [UInt8.ofNat (48 + u % 10)]:=by
 rw [Go.Lib.decDigits]
 by_cases h10:u < 10
 ·rw [dif_pos h10,if_pos (by omega),Nat.mod_eq_of_lt h10];rfl
 ·rw [dif_neg h10,if_neg (by omega)]
theorem zCr:∀ (k u:Nat),u < 10 ^ (k + 1)→(Go.Lib.decDigits u).length ≤ k + 1:=by
 intro k
 induction k with
 | zero=>intro u h;rw [Go.Lib.decDigits,dif_pos (by omega)];simp
 | succ k ih =>
   intro u h
   rw [Go.Lib.decDigits]
   by_cases h10:u < 10
   ·rw [dif_pos h10];simp
   ·rw [dif_neg h10,List.length_append]
    have:u / 10 < 10 ^ (k + 1):=by rw [Nat.pow_succ] at h;omega
    have:=ih _ this
    simp;omega
def zby (n:Int):ByteArray:=⟨(Go.Lib.itoa n).toArray⟩
theorem zc0 {n:Int} (h0:-9223372036854775808 ≤ n) (h1:n ≤ 9223372036854775807):(zby n).size ≤ 20:=by
 have e:(zby n).size = (Go.Lib.itoa n).length:=by simp [zby,ByteArray.size]
 rw [e,Go.Lib.itoa]
 split
 ·have:=zCr 18 n.natAbs (by omega)
  simp;omega
 ·have:=zCr 18 n.toNat (by omega)
  omega
def dgB (d:Nat):ByteArray:=⟨#[UInt8.ofNat (48 + d)]⟩
theorem zFU {d:Nat} (h:d < 10) {x:Int} (hx:x = (d:Int)):([IntKind.u8.wrap (IntKind.i64.wrap (48 + x))].foldl (fun r n=>r.push (UInt8.ofNat n.toNat)) ByteArray.empty) = dgB d:=by
 subst hx
 have:∀ m:Fin 10,([IntKind.u8.wrap (IntKind.i64.wrap (48 + (m.val:Nat)))].foldl (fun r n=>r.push (UInt8.ofNat n.toNat)) ByteArray.empty) = dgB m.val:=by decide +kernel
 exact this ⟨d,h⟩
theorem zbg {n:Int} (h0:-9223372036854775808 ≤ n) (h1:n ≤ 9223372036854775807):AC Tryz.prog 26 [int n] (.im (str (zby n))):=by
 refine AC.go (rs:=[.tmp 2]) zaD mixed Tryz.func26 rfl rfl rfl (by kernel_rfl) fun hl=>?_
 by_cases hz:n = 0
 ·subst hz
  simp (maxSteps:=9^7) -dsimp only [↓gp,gq,reduceCtorEq,reduceEqDiff,reduceLT,reduceLeDiff,reduceAdd,reduceMul,reduceSub,Nat.reduceBEq,Int.reduceToNat,Int.reduceLE,Int.reduceLT,Int.reduceNeg,reduceMod,gT,show ((0:Int) == 0) = true from rfl]
  decide +kernel
 have e0:(n == 0) = false:=beq_eq_false_iff_ne.2 hz
 simp (maxSteps:=9^7) -dsimp only [↓gp,gq,reduceCtorEq,reduceEqDiff,reduceLT,reduceLeDiff,reduceAdd,reduceMul,reduceSub,Nat.reduceBEq,Int.reduceToNat,Int.reduceLE,Int.reduceLT,Int.reduceNeg,reduceMod,gT,e0]
 refine zah (fun (za:Int × ByteArray) s=>match za with | (m,o)=>s.sl 0 = int m∧s.sl 3 = bool (decide (n < 0))∧s.sl 4 = str o∧((if m = 0 then [] else Go.Lib.decDigits m.natAbs) ++ o.data.toList = Go.Lib.decDigits n.natAbs∧(n < 0→m ≤ 0)∧(0 ≤ n→0 ≤ m)∧m.natAbs ≤ 9223372036854775808∧o.size ≤ 19)) (fun (m,o)=>m.natAbs) ((n,⟨#[]⟩)) (by refine ⟨?_,?_,?_,⟨by rw [if_neg hz];simp,fun h=>Int.le_of_lt h,fun h=>h,by omega,by decide⟩⟩ <;> (first | (simp (maxSteps:=9^7) -dsimp only [gr,reduceEqDiff,reduceLT,reduceAdd,reduceMod,Nat.reduceBEq];first | done | rfl | (simp;done)) | assumption | rfl)) ?_
 intro (m,o) sa ⟨h0a,h3a,h4a,hIa⟩
 obtain ⟨hd,hs1,hs2,hbd,hsz⟩:=hIa
 by_cases hm:m = 0
 ·subst hm
  rw [if_pos rfl,List.nil_append] at hd
  simp (maxSteps:=9^7) -dsimp only [↓gp,gq,reduceCtorEq,reduceEqDiff,reduceLT,reduceLeDiff,reduceAdd,reduceMul,reduceSub,Nat.reduceBEq,Int.reduceToNat,Int.reduceLE,Int.reduceLT,Int.reduceNeg,reduceMod,gT,h0a,h3a,h4a,show ((0:Int) != 0) = false from rfl]
  have ho:o = ⟨(Go.Lib.decDigits n.natAbs).toArray⟩:=by
   rw [← hd]
  subst ho
  unfold zby Go.Lib.itoa
  refine ⟨fun h=>⟨?_,?_⟩,fun h=>?_⟩
  ·show 1 + _ ≤ _
   omega
  ·rw [if_pos h]
   refine ByteArray.ext ?_
   simp
  ·rw [if_neg h,show n.toNat = n.natAbs by omega]
 ·have hne:(m != 0) = true:=by rw [bne_iff_ne];exact hm
  have hst:=zHx (u:=m.natAbs) (by omega)
  rw [if_neg hm,hst] at hd
  have hr:m.tmod 10 = if m < 0 then -((m.natAbs % 10:Nat):Int) else ((m.natAbs % 10:Nat):Int):=by
   split
   ·rename_i h
    obtain ⟨a,rfl⟩:∃ a:Nat,m = -(a:Int):=⟨m.natAbs,by omega⟩
    rw [Int.neg_tmod,Int.natAbs_neg,Int.natAbs_natCast];rfl
   ·rename_i h
    obtain ⟨a,rfl⟩:∃ a:Nat,m = (a:Int):=⟨m.natAbs,by omega⟩
    rw [Int.natAbs_natCast];rfl
  have hq:m.tdiv 10 = if m < 0 then -((m.natAbs / 10:Nat):Int) else ((m.natAbs / 10:Nat):Int):=by
   split
   ·rename_i h
    obtain ⟨a,rfl⟩:∃ a:Nat,m = -(a:Int):=⟨m.natAbs,by omega⟩
    rw [Int.neg_tdiv,Int.natAbs_neg,Int.natAbs_natCast];rfl
   ·rename_i h
    obtain ⟨a,rfl⟩:∃ a:Nat,m = (a:Int):=⟨m.natAbs,by omega⟩
    rw [Int.natAbs_natCast];rfl
  have hw10:IntKind.i64.wrap (m.tdiv 10) = m.tdiv 10:=by rw [hq];exact zai (by split <;> omega) (by split <;> omega)
  simp (maxSteps:=9^7) -dsimp only [↓gp,gq,reduceCtorEq,reduceEqDiff,reduceLT,reduceLeDiff,reduceAdd,reduceMul,reduceSub,Nat.reduceBEq,Int.reduceToNat,Int.reduceLE,Int.reduceLT,Int.reduceNeg,reduceMod,gT,h0a,h3a,h4a,zjG,zx9,zEe,hne,hw10]
  have hd9:=Nat.mod_lt m.natAbs (show 0 < 10 by decide)
  generalize hdd:m.natAbs % 10 = d at *
  have hlen:=congrArg List.length hd
  have hnl:=zCr 18 n.natAbs (by omega)
  have ho:o.data.toList.length = o.size:=Array.length_toList
  rw [List.length_append,List.length_append,List.length_singleton,ho] at hlen
  have hds:(dgB d ++ o).size = 1 + o.size:=by rw [ByteArray.size_append];rfl
  have hd1:(dgB d).size = 1:=rfl
  have hnew:(if m.tdiv 10 = 0 then [] else Go.Lib.decDigits (m.tdiv 10).natAbs) ++ (dgB d ++ o).data.toList = Go.Lib.decDigits n.natAbs:=by
   rw [← hd]
   have e1:(m.tdiv 10).natAbs = m.natAbs / 10:=by rw [hq];split <;> omega
   have e2:(m.tdiv 10 = 0) ↔ (m.natAbs / 10 = 0):=by rw [← e1];omega
   have e3:(dgB d ++ o).data.toList = [UInt8.ofNat (48 + d)] ++ o.data.toList:=by simp [dgB]
   rw [e1,e3,← List.append_assoc]
   by_cases h:m.natAbs / 10 = 0
   ·rw [if_pos h,if_pos (e2.2 h)]
   ·rw [if_neg h,if_neg (fun h2=>h (e2.1 h2))]
  have hdec:(m.tdiv 10).natAbs < m.natAbs:=by rw [hq];split <;> omega
  have hsg:(n < 0→m.tdiv 10 ≤ 0)∧(0 ≤ n→0 ≤ m.tdiv 10)∧(m.tdiv 10).natAbs ≤ 9223372036854775808:=by
   rw [hq]
   refine ⟨fun h=>?_,fun h=>?_,?_⟩ <;> split <;> omega
  refine ⟨by decide,fun hn=>?_,fun hn=>?_⟩
  ·have hk:=zFU (d:=d) hd9 (x:=IntKind.i64.wrap (0 - m.tmod 10)) (by rw [hr,zai (by split <;> omega) (by split <;> omega)];split <;> omega)
   rw [hk]
   refine ⟨by omega,by decide,zac (m.tdiv 10,dgB d ++ o) ⟨by simp (maxSteps:=9^7) -dsimp only [gr,reduceEqDiff,reduceLT,reduceAdd,reduceMod,Nat.reduceBEq,hw10],by simp (maxSteps:=9^7) -dsimp only [gr,reduceEqDiff,reduceLT,reduceAdd,reduceMod,Nat.reduceBEq,h3a],by simp (maxSteps:=9^7) -dsimp only [gr,reduceEqDiff,reduceLT,reduceAdd,reduceMod,Nat.reduceBEq,hk],hnew,hsg.1,hsg.2.1,hsg.2.2,by show (dgB d ++ o).size ≤ 19;omega⟩ hdec⟩
  ·have hk:=zFU (d:=d) hd9 (x:=m.tmod 10) (by rw [hr] at hn ⊢;split at hn <;> split <;> omega)
   rw [hk]
   refine ⟨by omega,by decide,zac (m.tdiv 10,dgB d ++ o) ⟨by simp (maxSteps:=9^7) -dsimp only [gr,reduceEqDiff,reduceLT,reduceAdd,reduceMod,Nat.reduceBEq,hw10],by simp (maxSteps:=9^7) -dsimp only [gr,reduceEqDiff,reduceLT,reduceAdd,reduceMod,Nat.reduceBEq,h3a],by simp (maxSteps:=9^7) -dsimp only [gr,reduceEqDiff,reduceLT,reduceAdd,reduceMod,Nat.reduceBEq,hk],hnew,hsg.1,hsg.2.1,hsg.2.2,by show (dgB d ++ o).size ≤ 19;omega⟩ hdec⟩
end Go.Proofs.YtkledeboboplmaaGreatDoor
namespace Go.Proofs.YtkledeboboplmaaGreatDoor
open Go.Abs Go.Shelf
set_option linter.unusedSimpArgs false
set_option linter.unusedVariables false
def zKy:Go.Shelf.Ren where
 f:=fun x=>match x with | 171=>92 | 243=>147 | 246=>186 | 283=>209 | 284=>210 | 285=>211 | 286=>212 | 129=>225 | 317=>228 | 318=>229 | 319=>230 | 320=>231 | 337=>239 | 338=>240 | n=>n
 t:=fun x=>match x with | 3=>3 | 9=>9 | 2=>2 | 4=>4 | 171=>153 | 0=>0 | 53=>70 | 37=>31 | 5=>5 | 173=>155 | 212=>164 | 51=>145 | 20=>20 | 213=>165 | 46=>96 | 232=>175 | 233=>176 | n=>n
 g:=fun x=>match x with | 17=>1 | 18=>2 | 19=>3 | n=>n
theorem zHw:LaysM.n171 Tryz.prog zKy where
 mixed:=mixed
 f129:=(show Tryz.prog.funcs[225]? = some _ from Tryz.func225).trans (congrArg some (by kernel_rfl))
 f171:=(show Tryz.prog.funcs[92]? = some _ from Tryz.func92).trans (congrArg some (by kernel_rfl))
 f243:=(show Tryz.prog.funcs[147]? = some _ from Tryz.func147).trans (congrArg some (by kernel_rfl))
 f246:=(show Tryz.prog.funcs[186]? = some _ from Tryz.func186).trans (congrArg some (by kernel_rfl))
 f283:=(show Tryz.prog.funcs[209]? = some _ from Tryz.func209).trans (congrArg some (by kernel_rfl))
 f284:=(show Tryz.prog.funcs[210]? = some _ from Tryz.func210).trans (congrArg some (by kernel_rfl))
 f285:=(show Tryz.prog.funcs[211]? = some _ from Tryz.func211).trans (congrArg some (by kernel_rfl))
 f286:=(show Tryz.prog.funcs[212]? = some _ from Tryz.func212).trans (congrArg some (by kernel_rfl))
 f317:=(show Tryz.prog.funcs[228]? = some _ from Tryz.func228).trans (congrArg some (by kernel_rfl))
 f318:=(show Tryz.prog.funcs[229]? = some _ from Tryz.func229).trans (congrArg some (by kernel_rfl))
 f319:=(show Tryz.prog.funcs[230]? = some _ from Tryz.func230).trans (congrArg some (by kernel_rfl))
 f320:=(show Tryz.prog.funcs[231]? = some _ from Tryz.func231).trans (congrArg some (by kernel_rfl))
 f337:=(show Tryz.prog.funcs[239]? = some _ from Tryz.func239).trans (congrArg some (by kernel_rfl))
 f338:=(show Tryz.prog.funcs[240]? = some _ from Tryz.func240).trans (congrArg some (by kernel_rfl))
 t0:=Tryz.underlying0
 a0:=Tryz.isAgg0
 z0:=Tryz.sizeOf0
 v0:=Tryz.zeroValue0
 t2:=Tryz.underlying2
 a2:=Tryz.isAgg2
 z2:=Tryz.sizeOf2
 v2:=Tryz.zeroValue2
 t3:=Tryz.underlying3
 a3:=Tryz.isAgg3
 z3:=Tryz.sizeOf3
 v3:=Tryz.zeroValue3
 t4:=Tryz.underlying4
 a4:=Tryz.isAgg4
 z4:=Tryz.sizeOf4
 v4:=Tryz.zeroValue4
 t5:=Tryz.underlying5
 a5:=Tryz.isAgg5
 z5:=Tryz.sizeOf5
 v5:=Tryz.zeroValue5
 t9:=Tryz.underlying9
 a9:=Tryz.isAgg9
 z9:=Tryz.sizeOf9
 v9:=Tryz.zeroValue9
 t20:=Tryz.underlying20
 a20:=Tryz.isAgg20
 z20:=Tryz.sizeOf20
 v20:=Tryz.zeroValue20
 t37:=Tryz.underlying31
 a37:=Tryz.isAgg31
 z37:=Tryz.sizeOf31
 v37:=Tryz.zeroValue31
 t46:=Tryz.underlying96
 a46:=Tryz.isAgg96
 z46:=Tryz.sizeOf96
 v46:=Tryz.zeroValue96
 t51:=Tryz.underlying145
 a51:=Tryz.isAgg145
 z51:=Tryz.sizeOf145
 v51:=Tryz.zeroValue145
 t53:=Tryz.underlying70
 a53:=Tryz.isAgg70
 z53:=Tryz.sizeOf70
 v53:=Tryz.zeroValue70
 t171:=Tryz.underlying153
 a171:=Tryz.isAgg153
 z171:=Tryz.sizeOf153
 v171:=Tryz.zeroValue153
 t173:=Tryz.underlying155
 a173:=Tryz.isAgg155
 z173:=Tryz.sizeOf155
 v173:=Tryz.zeroValue155
 t212:=Tryz.underlying164
 a212:=Tryz.isAgg164
 z212:=Tryz.sizeOf164
 v212:=Tryz.zeroValue164
 t213:=Tryz.underlying165
 a213:=Tryz.isAgg165
 z213:=Tryz.sizeOf165
 t232:=Tryz.underlying175
 a232:=Tryz.isAgg175
 z232:=Tryz.sizeOf175
 v232:=Tryz.zeroValue175
 t233:=Tryz.underlying176
 a233:=Tryz.isAgg176
 z233:=Tryz.sizeOf176
 v233:=Tryz.zeroValue176
 g17:=by kernel_rfl
 g18:=by kernel_rfl
 g19:=by kernel_rfl
 i0:=by kernel_rfl
 i2:=by kernel_rfl
 i3:=by kernel_rfl
 i4:=by kernel_rfl
 i5:=by kernel_rfl
 i9:=by kernel_rfl
 i20:=by kernel_rfl
 i37:=by kernel_rfl
 i46:=by kernel_rfl
 i51:=by kernel_rfl
 i53:=by kernel_rfl
 i171:=by kernel_rfl
 i173:=by kernel_rfl
 i212:=by kernel_rfl
 i232:=by kernel_rfl
 i233:=by kernel_rfl
 m17:=by kernel_rfl
 m18:=by kernel_rfl
 m19:=by kernel_rfl
theorem zmP {n:Int} (h0:-9223372036854775808 ≤ n) (h1:n ≤ 9223372036854775807):AC Tryz.prog 92 [int n] (.im (str (zby n))) :=
 zGr zHw ⟨_,Tryz.func92,by kernel_rfl,by kernel_rfl⟩ (fun _ h=>h) h0 h1
theorem zbr {n:Int} (h0:-9223372036854775808 ≤ n) (h1:n ≤ 9223372036854775807):AC Tryz.prog 36 [int n] (.im (str (zby n))):=by
 refine AC.go (rs:=[.tmp 2]) zaD mixed Tryz.func36 rfl rfl rfl (by kernel_rfl) fun hl=>?_
 simp -dsimp only [↓gp,gq,simprocAttr,gT]
 refine zab (zmP h0 h1) ?_
 simp -dsimp only [↓gp,gq,simprocAttr,gT]
end Go.Proofs.YtkledeboboplmaaGreatDoor
namespace Go.Proofs.YtkledeboboplmaaGreatDoor
open Go.Abs
set_option linter.unusedSimpArgs false
set_option linter.unusedVariables false
def inI (n:Int):Prop:=-9223372036854775808 ≤ n∧n ≤ 9223372036854775807
def zgV (l:List Int):ByteArray:=if l.length = 0 then ⟨#[45]⟩ else zgU (l.map zby) ⟨#[44]⟩
theorem zmm {m:Nat} {l:List ByteArray} {sep:ByteArray} (h:∀ i,i < l.length→(l.getD i ⟨#[]⟩).size ≤ m) (hs:sep.size ≤ 1):∀ i,i ≤ l.length→(zci l sep i).size ≤ (m + 1) * i:=by
 intro i
 induction i with
 | zero=>intro _;exact Nat.le_refl _
 | succ i ih =>
   intro hi
   have h1:=ih (by omega)
   have h2:=h i (by omega)
   have e:(m + 1) * (i + 1) = (m + 1) * i + (m + 1):=Nat.mul_succ _ _
   unfold zci
   rw [ByteArray.size_append]
   split
   ·omega
   ·rw [ByteArray.size_append];omega
theorem zpE {l:List Int} (hl:∀ x ∈ l,inI x):∀ i,i ≤ (l.map zby).length→(zci (l.map zby) ⟨#[44]⟩ i).size ≤ 21 * i :=
 zmm (fun i hi=>by
  have hi:i < l.length:=by simpa using hi
  have e:(l.map zby).getD i ⟨#[]⟩ = zby l[i]:=by simp [List.getD,hi]
  rw [e]
  have:=hl l[i] (List.getElem_mem hi)
  exact zc0 this.1 this.2) (Nat.le_refl 1)
theorem zcY (l:List Int) (hN:l.length ≤ 1048576) (hin:∀ x ∈ l,inI x):AC Tryz.prog 15 [zax l] (.im (str (zgV l))):=by
 refine AC.go (rs:=[.tmp 2]) zaD mixed Tryz.func15 rfl rfl rfl (by kernel_rfl) fun hl=>?_
 simp -dsimp only [↓gp,gq,simprocAttr,gT]
 refine zah (fun (za:Nat × Nat) s=>match za with | (k,v)=>s.sl 0 = zax l∧s.sl 3 = .own 5 v∧s.rw 5 = ⟨v,.sli 9 1 false (sL ((l.take k).map zby))⟩∧s.sl 4 = int k∧(k ≤ l.length)) (fun (k,v)=>l.length - k) ((0,1)) (by refine ⟨?_,?_,?_,?_,by omega⟩ <;> (first | (simp -dsimp only [gr,simprocAttr];first | done | rfl | (simp;done)) | assumption | rfl)) ?_
 intro (k,v) sa ⟨h0a,h3a,r5a,h4a,hIa⟩
 have hsl:(sL ((l.take k).map zby)).length = k:=by simp [sL];omega
 simp -dsimp only [↓gp,gq,simprocAttr,gT,h0a,h3a,r5a,h4a,hsl]
 refine ⟨fun h=>?_,fun h=>?_⟩
 ·have hx:=hin _ (zaj 0 h)
  refine ⟨h,h,zab (zbg hx.1 hx.2) ?_⟩
  simp -dsimp only [↓gp,gq,simprocAttr,gT,h0a,h3a,r5a,h4a]
  have e:(l.take (k + 1)).map zby = (l.take k).map zby ++ [zby (l.getD k 0)]:=by rw [zau 0 h];simp
  refine ⟨by rw [List.length_map,List.length_take];omega,zac ((k + 1,v + 1)) (by refine ⟨?_,?_,?_,?_,by dsimp only;omega⟩ <;> (first | (simp -dsimp only [gr,simprocAttr,h0a,h3a,r5a,h4a,zaa h (show l.length ≤ 9223372036854775807 by omega),e];first | done | rfl | (simp;done)) | assumption | rfl)) (by first | omega | (simp only;omega) | (dsimp only;omega) | (show _ < _;simp;omega))⟩
 ·obtain rfl:k = l.length:=by omega
  rw [List.take_length]
  unfold zgV
  refine ⟨fun h0=>?_,fun h0=>?_⟩
  ·rw [if_pos (by have:=beq_iff_eq.1 h0;omega)]
  ·rw [if_neg (by intro e;rw [e] at h0;simp at h0)]
   have hjs:=zpE hin
   refine zab (zgT (l.map zby) ⟨#[44]⟩ (by rw [List.length_map];omega) (fun i hi=>?_)) ?_
   ·have:=hjs i hi
    rw [List.length_map] at hi
    have h1:(⟨#[44]⟩:ByteArray).size = 1:=rfl
    omega
   ·have e:=zdt (l.map zby) ⟨#[44]⟩ (l.map zby).length (Nat.le_refl _)
    rw [List.take_length] at e
    rw [e]
    simp -dsimp only [↓gp,gq,simprocAttr,gT,h0a,h3a,r5a,h4a]
theorem zcZ (l:List Int) (hN:l.length ≤ 1048576) (hin:∀ x ∈ l,inI x):AC Tryz.prog 14 [zax l] (.im (str (zgV l))):=by
 refine AC.go (rs:=[.tmp 2]) zaD mixed Tryz.func14 rfl rfl rfl (by kernel_rfl) fun hl=>?_
 simp -dsimp only [↓gp,gq,simprocAttr,gT]
 unfold zgV
 refine ⟨fun h0=>?_,fun h0=>⟨by omega,by omega,?_⟩⟩
 ·rw [if_pos (by have:=beq_iff_eq.1 h0;omega)]
 ·rw [if_neg (by intro e;rw [e] at h0;simp at h0)]
  have hz:sL ((l.take 0).map zby) = []:=rfl
  refine zah (fun (za:Nat × Nat) s=>match za with | (k,v)=>s.sl 3 = .own 11 v∧s.rw 11 = ⟨v,.sli 9 1 false (sL ((l.take k).map zby))⟩∧s.sl 12 = zax l∧s.sl 13 = int l.length∧s.sl 14 = int k∧(k ≤ l.length)) (fun (k,v)=>l.length - k) ((0,1)) (by refine ⟨?_,?_,?_,?_,?_,by omega⟩ <;> (first | (simp -dsimp only [gr,simprocAttr,hz,List.replicate];first | done | rfl | (simp;done)) | assumption | rfl)) ?_
  intro (k,v) sa ⟨h3a,r11a,h12a,h13a,h14a,hIa⟩
  simp -dsimp only [↓gp,gq,simprocAttr,gT,h3a,r11a,h12a,h13a,h14a]
  refine ⟨fun h=>?_,fun h=>?_⟩
  ·have hx:=hin _ (zaj 0 h)
   refine ⟨h,h,zab (zbr hx.1 hx.2) ?_⟩
   simp -dsimp only [↓gp,gq,simprocAttr,gT,h3a,r11a,h12a,h13a,h14a]
   have e:(l.take (k + 1)).map zby = (l.take k).map zby ++ [zby (l.getD k 0)]:=by rw [zau 0 h];simp
   refine ⟨by rw [List.length_map,List.length_take];omega,zac ((k + 1,v + 1)) (by refine ⟨?_,?_,?_,?_,?_,by dsimp only;omega⟩ <;> (first | (simp -dsimp only [gr,simprocAttr,h3a,r11a,h12a,h13a,h14a,zaa h (show l.length ≤ 9223372036854775807 by omega),e];first | done | rfl | (simp;done)) | assumption | rfl)) (by first | omega | (simp only;omega) | (dsimp only;omega) | (show _ < _;simp;omega))⟩
  ·obtain rfl:k = l.length:=by omega
   rw [List.take_length]
   have hjs:=zpE hin (l.map zby).length (Nat.le_refl _)
   rw [zdt _ _ _ (Nat.le_refl _),List.take_length,List.length_map] at hjs
   refine zab (zc5 (l.map zby) ⟨#[44]⟩ (by rw [List.length_map];omega) (by omega)) ?_
   simp -dsimp only [↓gp,gq,simprocAttr,gT,h3a,r11a,h12a,h13a,h14a]
theorem zDj (p:Int) {xs:List Int} (h:xs.length = 0):zdj (zag xs) p = []:=by
 have e:xs = []:=List.length_eq_zero_iff.1 h
 subst e
 rfl
theorem ze3 (n:Int) (xs:List Int) (p:Int) (h:zaL n xs = true) (hp:isP p = true):AC Tryz.prog 41 [.ag [int n,zax xs],int p] (.fr 3 1 (iL (zdj (zag xs) p))):=by
 by_cases hpos:0 < xs.length
 ·exact zlH n xs p h hpos hp
 have h0:((xs.length:Int) == 0) = true:=by rw [beq_iff_eq];omega
 rw [zDj p (by omega)]
 refine AC.go (rs:=[.tmp 4]) zaD mixed Tryz.func41 rfl rfl rfl (by kernel_rfl) fun hl=>?_
 simp -dsimp only [↓gp,gq,simprocAttr,gT]
 refine zab (zaq n xs) ?_
 simp -dsimp only [↓gp,gq,simprocAttr,gT,h,h0]
 rfl
theorem ze4 (n:Int) (xs:List Int) (p:Int) (h:zaL n xs = true) (hp:isP p = true):AC Tryz.prog 31 [.ag [int n,zax xs],int p] (.fr 3 1 (iL (zdj (zag xs) p))):=by
 have:=zfM n xs p
 rwa [zpd h,show zJ0 (zag xs) p = zdj (zag xs) p from if_pos hp] at this
noncomputable def orB (n:Int) (xs:List Int):Bool:=zj5 n xs && ((zdj (zag xs) 3).getD ((zdj (zag xs) 3).length - 1) 0 == 1)
theorem zA3 {n:Int} {xs:List Int} (h:zj5 n xs = true):0 < (zdj (zag xs) 3).length∧(zdj (zag xs) 3).length ≤ 7:=by
 unfold zj5 at h
 rw [Bool.and_eq_true,Bool.and_eq_true,Bool.and_eq_true,decide_eq_true_iff] at h
 obtain ⟨h1,_,h3,_⟩:=h
 have hF:zjf n xs = true:=Classical.byContradiction fun hc=>by rw [show zdi n xs = -2 from if_neg hc] at h1;cases h1
 have:=zlZ hF
 have:=zbj (zag xs)
 rw [zaY]
 omega
theorem zgJ (m:Nat) (xs:List Int) (h:zaL (m:Int) xs = true):AC Tryz.prog 101 [.ag [int m,zax xs]] (.im (bool (orB m xs))):=by
 refine AC.go (rs:=[.tmp 2]) zaD mixed Tryz.func101 rfl rfl rfl (by kernel_rfl) fun hl=>?_
 simp -dsimp only [↓gp,gq,simprocAttr,gT]
 refine zab (ze5 m xs h) ?_
 simp -dsimp only [↓gp,gq,simprocAttr,gT]
 unfold orB
 refine ⟨fun hs=>by rw [show zj5 m xs = false by simpa using hs];rfl,fun hs=>zab (ze3 m xs 3 h rfl) ?_⟩
 have hs:zj5 m xs = true:=by simpa using hs
 obtain ⟨a,b⟩:=zA3 hs
 rw [hs,Bool.true_and]
 generalize zdj (zag xs) 3 = H at *
 have hw:IntKind.i64.wrap ((H.length:Int) - 1) = ((H.length - 1:Nat):Int):=by rw [zai (by omega) (by omega)];omega
 simp -dsimp only [↓gp,gq,simprocAttr,gT,hw]
 omega
theorem zgK (m:Nat) (xs:List Int) (h:zaL (m:Int) xs = true):AC Tryz.prog 90 [.ag [int m,zax xs]] (.im (bool (orB m xs))):=by
 refine AC.go (rs:=[.tmp 2]) zaD mixed Tryz.func90 rfl rfl rfl (by kernel_rfl) fun hl=>?_
 simp -dsimp only [↓gp,gq,simprocAttr,gT]
 refine zab (ze4 m xs 3 h rfl) ?_
 have hsp:=zA3 (n:=m) (xs:=xs)
 unfold orB
 generalize zdj (zag xs) 3 = H at *
 simp -dsimp only [↓gp,gq,simprocAttr,gT]
 refine zab (ze6 m xs h) ?_
 simp -dsimp only [↓gp,gq,simprocAttr,gT]
 refine ⟨fun hs=>?_,fun hs=>by rw [hs];rfl⟩
 obtain ⟨a,b⟩:=hsp hs
 have hw:IntKind.i64.wrap ((H.length:Int) - 1) = ((H.length - 1:Nat):Int):=by rw [zai (by omega) (by omega)];omega
 simp -dsimp only [↓gp,gq,simprocAttr,gT,hw]
 exact ⟨by omega,by omega,by rw [hs,Bool.true_and]⟩
noncomputable def euN (xs:List Int):Int:=zgX (zfj (zag xs)) (za8 (zag xs))
theorem zxF (xs:List Int):-448 ≤ euN xs∧euN xs ≤ 448:=by
 unfold euN
 rw [zFz]
 have:=zA6 (zbb (zag xs)) _ (Nat.le_refl _)
 have:=zcJ (zag xs)
 omega
noncomputable def zDk (n:Int) (xs:List Int):ByteArray:=if zj5 n xs = true then (if euN xs = 1 then ⟨#[115,112,104,101,114,101]⟩ else (if orB n xs = true then ⟨#[111,114,105,101,110,116,97,98,108,101,32]⟩ else ⟨#[111,116,104,101,114,32]⟩) ++ zby (1 - euN xs)) else ⟨#[110,111]⟩
theorem zhG (m:Nat) (xs:List Int) (h:zaL (m:Int) xs = true):AC Tryz.prog 43 [.ag [int m,zax xs]] (.im (str (zDk m xs))):=by
 refine AC.go (rs:=[.tmp 2]) zaD mixed Tryz.func43 rfl rfl rfl (by kernel_rfl) fun hl=>?_
 simp -dsimp only [↓gp,gq,simprocAttr,gT]
 refine zab (ze5 m xs h) ?_
 simp -dsimp only [↓gp,gq,simprocAttr,gT]
 unfold zDk
 have hE:=zgt m xs h
 change AC _ _ _ (.im (int (euN xs))) at hE
 have hb:=zxF xs
 have hw:IntKind.i64.wrap (1 - euN xs) = 1 - euN xs:=zai (by omega) (by omega)
 have hsz:=zc0 (n:=1 - euN xs) (by omega) (by omega)
 refine ⟨fun hs=>by rw [if_neg (by rw [show zj5 m xs = false by simpa using hs];decide)],fun hs=>zab hE ?_⟩
 rw [if_pos (show zj5 m xs = true by simpa using hs)]
 simp -dsimp only [↓gp,gq,simprocAttr,gT,hw]
 refine ⟨fun h1=>by rw [if_pos (beq_iff_eq.1 h1)],fun h1=>zab (zgJ m xs h) ?_⟩
 rw [if_neg (beq_eq_false_iff_ne.1 h1)]
 simp -dsimp only [↓gp,gq,simprocAttr,gT,hw]
 refine ⟨fun h2=>zab hE ?_,fun h2=>zab hE ?_⟩
 ·rw [if_pos h2]
  simp -dsimp only [↓gp,gq,simprocAttr,gT,hw]
  refine zab (zbr (by omega) (by omega)) ?_
  simp -dsimp only [↓gp,gq,simprocAttr,gT,hw]
  show 11 + (zby (1 - euN xs)).size ≤ _
  omega
 ·rw [if_neg (by rw [h2];decide)]
  simp -dsimp only [↓gp,gq,simprocAttr,gT,hw]
  refine zab (zbr (by omega) (by omega)) ?_
  simp -dsimp only [↓gp,gq,simprocAttr,gT,hw]
  show 6 + (zby (1 - euN xs)).size ≤ _
  omega
theorem zhH (m:Nat) (xs:List Int) (h:zaL (m:Int) xs = true):AC Tryz.prog 33 [.ag [int m,zax xs]] (.im (str (zDk m xs))):=by
 refine AC.go (rs:=[.tmp 2]) zaD mixed Tryz.func33 rfl rfl rfl (by kernel_rfl) fun hl=>?_
 simp -dsimp only [↓gp,gq,simprocAttr,gT]
 refine zab (ze6 m xs h) ?_
 simp -dsimp only [↓gp,gq,simprocAttr,gT]
 unfold zDk
 have hE:=zgu m xs h
 change AC _ _ _ (.im (int (euN xs))) at hE
 have hb:=zxF xs
 have hw:IntKind.i64.wrap (1 - euN xs) = 1 - euN xs:=zai (by omega) (by omega)
 have hsz:=zc0 (n:=1 - euN xs) (by omega) (by omega)
 refine ⟨fun hs=>by rw [if_neg (by rw [show zj5 m xs = false by simpa using hs];decide)],fun hs=>zab hE ?_⟩
 rw [if_pos (show zj5 m xs = true by simpa using hs)]
 simp -dsimp only [↓gp,gq,simprocAttr,gT,hw]
 refine ⟨fun h1=>by rw [if_pos (beq_iff_eq.1 h1)],fun h1=>zab (zgK m xs h) ?_⟩
 rw [if_neg (beq_eq_false_iff_ne.1 h1)]
 simp -dsimp only [↓gp,gq,simprocAttr,gT,hw]
 refine ⟨fun h2=>?_,fun h2=>?_⟩
 ·rw [if_pos h2]
  refine ⟨by decide,zab hE ?_⟩
  simp -dsimp only [↓gp,gq,simprocAttr,gT,hw]
  refine zab (zbg (by omega) (by omega)) ?_
  have e:(ByteArray.mk #[111,114,105,101,110,116,97,98,108,101]) ++ (ByteArray.mk #[32]) = ByteArray.mk #[111,114,105,101,110,116,97,98,108,101,32]:=by rfl
  simp -dsimp only [↓gp,gq,simprocAttr,gT,hw,e]
  show 11 + (zby (1 - euN xs)).size ≤ _
  omega
 ·rw [if_neg (by rw [h2];decide)]
  refine ⟨by decide,zab hE ?_⟩
  simp -dsimp only [↓gp,gq,simprocAttr,gT,hw]
  refine zab (zbg (by omega) (by omega)) ?_
  have e:(ByteArray.mk #[111,116,104,101,114]) ++ (ByteArray.mk #[32]) = ByteArray.mk #[111,116,104,101,114,32]:=by rfl
  simp -dsimp only [↓gp,gq,simprocAttr,gT,hw,e]
  show 6 + (zby (1 - euN xs)).size ≤ _
  omega
def zEc (l:List Int):ByteArray:=if l.length = 0 then ⟨#[110,111,110,101]⟩ else zwL l
noncomputable def zEd (n:Int) (xs:List Int):ByteArray:=if zaL n xs = true then zEc (ofN (zka n xs)) else ⟨#[]⟩
theorem zh6 (n:Int) (xs:List Int):AC Tryz.prog 19 [.ag [int n,zax xs]] (.im (str (zEd n xs))):=by
 refine AC.go (rs:=[.tmp 2]) zaD mixed Tryz.func19 rfl rfl rfl (by kernel_rfl) fun hl=>?_
 simp -dsimp only [↓gp,gq,simprocAttr,gT]
 refine zab (zaE n xs) ?_
 simp -dsimp only [↓gp,gq,simprocAttr,gT]
 unfold zEd
 refine ⟨fun hc=>?_,fun hc=>zab (zdX n xs) ?_⟩
 ·have hc:zaL n xs = false:=by simpa using hc
  rw [if_neg (by rw [hc];decide)]
 ·have hc:zaL n xs = true:=by simpa using hc
  rw [if_pos hc]
  have hml:=zhX n xs
  have hol:=zad (zka n xs)
  generalize ofN (zka n xs) = l at *
  unfold zEc
  simp -dsimp only [↓gp,gq,simprocAttr,gT]
  refine ⟨fun h0=>?_,fun h0=>zab (zml l (by omega)) ?_⟩
  ·rw [if_pos (by have:(l.length:Int) = 0:=by simpa using h0
                  omega)]
  ·rw [if_neg (by intro e;rw [e] at h0;simp at h0)]
   simp -dsimp only [↓gp,gq,simprocAttr,gT]
theorem zh7 (n:Int) (xs:List Int):AC Tryz.prog 18 [.ag [int n,zax xs]] (.im (str (zEd n xs))):=by
 refine AC.go (rs:=[.tmp 2]) zaD mixed Tryz.func18 rfl rfl rfl (by kernel_rfl) fun hl=>?_
 simp -dsimp only [↓gp,gq,simprocAttr,gT]
 refine zab (zaq n xs) ?_
 simp -dsimp only [↓gp,gq,simprocAttr,gT]
 unfold zEd
 refine ⟨fun hc=>?_,fun hc=>zab (zdY n xs) ?_⟩
 ·have hc:zaL n xs = false:=by simpa using hc
  rw [if_neg (by rw [hc];decide)]
 ·have hc:zaL n xs = true:=by simpa using hc
  rw [if_pos hc]
  have hml:=zhX n xs
  have hol:=zad (zka n xs)
  generalize ofN (zka n xs) = l at *
  unfold zEc
  simp -dsimp only [↓gp,gq,simprocAttr,gT]
  refine ⟨fun h0=>?_,fun h0=>zab (zmk l (by omega)) ?_⟩
  ·rw [if_pos (by have:(l.length:Int) = 0:=by simpa using h0
                  omega)]
  ·rw [if_neg (by intro e;rw [e] at h0;simp at h0)]
   simp -dsimp only [↓gp,gq,simprocAttr,gT]
theorem zo9 (n:Int) (xs:List Int) (p:Int):(if zjf n xs = true∧isP p = true then zFF (zag xs) p else -1) = zl3 n xs p:=by
 by_cases hp:isP p = true
 ·by_cases h:zjf n xs = true
  ·obtain ⟨m,q,d,_,rfl,rfl,h1,h6,hd,e1,e2,e3⟩:=ztH h hp
   rw [if_pos ⟨h,hp⟩,e1,e2]
  ·rw [if_neg fun e=>h e.1]
   cases hc:zaL n xs with
   | false=>exact (if_neg fun h=>by rw [h.1] at hc;cases hc).symm
   | true =>
     have hx:=zl0 hc h
     subst hx
     rw [zl3,if_pos ⟨hc,hp⟩];rfl
 ·rw [if_neg fun e=>hp e.2]
  exact (if_neg fun h=>hp h.2).symm
theorem zGw (n:Int) (xs:List Int) (p:Int):-1 ≤ zl3 n xs p∧zl3 n xs p ≤ 6:=by
 by_cases hp:isP p = true
 ·by_cases h:zjf n xs = true
  ·obtain ⟨m,q,d,_,rfl,rfl,h1,h6,hd,e1,e2,e3⟩:=ztH h hp
   have:=zbj (zag xs)
   omega
  ·rw [← zo9,if_neg fun e=>h e.1];omega
 ·rw [← zo9,if_neg fun e=>hp e.2];omega
theorem szl (a:Array UInt8):(ByteArray.mk a).size = a.size:=rfl
theorem zir {l:List Int} (hl:∀ x ∈ l,inI x) (h7:l.length ≤ 7):(zgV l).size ≤ 147:=by
 unfold zgV
 split
 ·decide
 ·have:=zpE hl (l.map zby).length (Nat.le_refl _)
  rw [zdt _ _ _ (Nat.le_refl _),List.take_length,List.length_map] at this
  omega
theorem zAY (n:Int) (xs:List Int):(zEd n xs).size ≤ 3136:=by
 unfold zEd
 split
 ·unfold zEc
  split
  ·decide
  ·have hml:=zhX n xs
   have hol:=zad (zka n xs)
   generalize ofN (zka n xs) = l at *
   have hjs:=ziL (l:=l.map zct) (sep:=⟨#[44]⟩) (fun i hi=>by
    have hi:i < l.length:=by simpa using hi
    have:(l.map zct).getD i ⟨#[]⟩ = zct l[i]:=by simp [List.getD,hi]
    rw [this];exact ziK _) (Nat.le_refl 1) (l.map zct).length (Nat.le_refl _)
   rw [zdt _ _ _ (Nat.le_refl _),List.take_length,List.length_map] at hjs
   unfold zwL
   omega
 ·decide
theorem zAZ (n:Int) (xs:List Int):(zDk n xs).size ≤ 31:=by
 have hb:=zxF xs
 have hsz:=zc0 (n:=1 - euN xs) (by omega) (by omega)
 unfold zDk
 split
 ·split
  ·decide
  ·split
   ·rw [ByteArray.size_append,szl];simp only [List.size_toArray,List.length_cons,List.length_nil];omega
   ·rw [ByteArray.size_append,szl];simp only [List.size_toArray,List.length_cons,List.length_nil];omega
 ·decide
theorem zA0 (n:Int) (xs:List Int):(zDp n xs).size ≤ 91:=by
 unfold zDp
 split
 ·split
  ·decide
  ·obtain ⟨j1,j2⟩:=zpe n xs
   have:=j1 _ (Nat.le_refl _)
   have:=(zFA n xs).1
   rw [j2] at *
   omega
 ·decide
theorem zpa (f:Nat→Bool):∀ x ∈ zfj f,inI x:=fun x hx=>by
 obtain ⟨i,hi,rfl⟩:=zaR 0 hx
 rw [zbQ] at hi
 rw [zeq f hi]
 have:=zbA f i (Nat.le_refl 64)
 unfold inI;omega
theorem zA1 (xs:List Int):∀ x ∈ hV xs,inI x:=fun x hx=>by
 have:=zM8 xs x hx
 unfold inI;omega
theorem zpb (f:Nat→Bool) (p:Int):∀ x ∈ zdj f p,inI x:=fun x hx=>by
 obtain ⟨i,hi,rfl⟩:=zaR 0 hx
 have:=zBD f p i
 unfold inI;omega
theorem zaZ {l:List ByteArray} {sep:ByteArray} {i j:Nat} (hj:j = i + 1) (hi:i ≠ 0) {x:ByteArray} (h:l.getD i ⟨#[]⟩ = x):zci l sep j = zci l sep i ++ sep ++ x:=by
 rw [hj,zci,if_neg hi,h]
def zxE (a1 a2 a3 a4 a5 a6 a7 a8 a9:ByteArray):List ByteArray:=[⟨#[100,105,109]⟩,a1,⟨#[99,111,117,110,116,115]⟩,a2,⟨#[104]⟩,a3,⟨#[101,117,108,101,114]⟩,a4,⟨#[104,111,108,101,115]⟩,a5,⟨#[100,101,112,116,104]⟩,a6,⟨#[109,105,115,115,105,110,103]⟩,a7,⟨#[115,117,114,102,97,99,101]⟩,a8,a9]
theorem zGx (a1 a2 a3 a4 a5 a6 a7 a8 a9:ByteArray):zgU (zxE a1 a2 a3 a4 a5 a6 a7 a8 a9) ⟨#[32]⟩ = ((((((((((((((((((⟨#[100,105,109,32]⟩:ByteArray) ++ a1) ++ ⟨#[32,99,111,117,110,116,115,32]⟩) ++ a2) ++ ⟨#[32,104,32]⟩) ++ a3) ++ ⟨#[32,101,117,108,101,114,32]⟩) ++ a4) ++ ⟨#[32,104,111,108,101,115,32]⟩) ++ a5) ++ ⟨#[32,100,101,112,116,104,32]⟩) ++ a6) ++ ⟨#[32,109,105,115,115,105,110,103,32]⟩) ++ a7) ++ ⟨#[32,115,117,114,102,97,99,101,32]⟩) ++ a8) ++ ⟨#[32]⟩) ++ a9):=by
 have l0:(⟨#[100,105,109,32]⟩:ByteArray) = ⟨#[100,105,109]⟩ ++ ⟨#[32]⟩:=rfl
 have l1:(⟨#[32,99,111,117,110,116,115,32]⟩:ByteArray) = ⟨#[32]⟩ ++ (⟨#[99,111,117,110,116,115]⟩ ++ ⟨#[32]⟩):=rfl
 have l2:(⟨#[32,104,32]⟩:ByteArray) = ⟨#[32]⟩ ++ (⟨#[104]⟩ ++ ⟨#[32]⟩):=rfl
 have l3:(⟨#[32,101,117,108,101,114,32]⟩:ByteArray) = ⟨#[32]⟩ ++ (⟨#[101,117,108,101,114]⟩ ++ ⟨#[32]⟩):=rfl
 have l4:(⟨#[32,104,111,108,101,115,32]⟩:ByteArray) = ⟨#[32]⟩ ++ (⟨#[104,111,108,101,115]⟩ ++ ⟨#[32]⟩):=rfl
 have l5:(⟨#[32,100,101,112,116,104,32]⟩:ByteArray) = ⟨#[32]⟩ ++ (⟨#[100,101,112,116,104]⟩ ++ ⟨#[32]⟩):=rfl
 have l6:(⟨#[32,109,105,115,115,105,110,103,32]⟩:ByteArray) = ⟨#[32]⟩ ++ (⟨#[109,105,115,115,105,110,103]⟩ ++ ⟨#[32]⟩):=rfl
 have l7:(⟨#[32,115,117,114,102,97,99,101,32]⟩:ByteArray) = ⟨#[32]⟩ ++ (⟨#[115,117,114,102,97,99,101]⟩ ++ ⟨#[32]⟩):=rfl
 have e:=zdt (zxE a1 a2 a3 a4 a5 a6 a7 a8 a9) ⟨#[32]⟩ 17 (Nat.le_refl _)
 rw [show (zxE a1 a2 a3 a4 a5 a6 a7 a8 a9).take 17 = zxE a1 a2 a3 a4 a5 a6 a7 a8 a9 from rfl] at e
 rw [← e,zaZ (i:=16) (j:=17) rfl (by decide) (x:=a9) rfl,zaZ (i:=15) (j:=16) rfl (by decide) (x:=a8) rfl,zaZ (i:=14) (j:=15) rfl (by decide) (x:=⟨#[115,117,114,102,97,99,101]⟩) rfl,zaZ (i:=13) (j:=14) rfl (by decide) (x:=a7) rfl,zaZ (i:=12) (j:=13) rfl (by decide) (x:=⟨#[109,105,115,115,105,110,103]⟩) rfl,zaZ (i:=11) (j:=12) rfl (by decide) (x:=a6) rfl,zaZ (i:=10) (j:=11) rfl (by decide) (x:=⟨#[100,101,112,116,104]⟩) rfl,zaZ (i:=9) (j:=10) rfl (by decide) (x:=a5) rfl,zaZ (i:=8) (j:=9) rfl (by decide) (x:=⟨#[104,111,108,101,115]⟩) rfl,zaZ (i:=7) (j:=8) rfl (by decide) (x:=a4) rfl,zaZ (i:=6) (j:=7) rfl (by decide) (x:=⟨#[101,117,108,101,114]⟩) rfl,zaZ (i:=5) (j:=6) rfl (by decide) (x:=a3) rfl,zaZ (i:=4) (j:=5) rfl (by decide) (x:=⟨#[104]⟩) rfl,zaZ (i:=3) (j:=4) rfl (by decide) (x:=a2) rfl,zaZ (i:=2) (j:=3) rfl (by decide) (x:=⟨#[99,111,117,110,116,115]⟩) rfl,zaZ (i:=1) (j:=2) rfl (by decide) (x:=a1) rfl,show zci (zxE a1 a2 a3 a4 a5 a6 a7 a8 a9) ⟨#[32]⟩ 1 = ⟨#[100,105,109]⟩ from rfl]
 simp only [l0,l1,l2,l3,l4,l5,l6,l7,ByteArray.append_assoc]
theorem zA2 {a1 a2 a3 a4 a5 a6 a7 a8 a9:ByteArray} (h:∀ a ∈ [a1,a2,a3,a4,a5,a6,a7,a8,a9],a.size ≤ 3136):(zgU (zxE a1 a2 a3 a4 a5 a6 a7 a8 a9) ⟨#[32]⟩).size ≤ 60000:=by
 have hm:∀ w ∈ zxE a1 a2 a3 a4 a5 a6 a7 a8 a9,w.size ≤ 3136:=fun w hw=>by
  unfold zxE at hw
  simp only [List.mem_cons,List.not_mem_nil,or_false] at hw
  rcases hw with rfl | rfl | rfl | rfl | rfl | rfl | rfl | rfl | rfl | rfl | rfl | rfl | rfl | rfl | rfl | rfl | rfl <;> first | decide | exact h _ (by simp)
 have j1:=zmm (m:=3136) (l:=zxE a1 a2 a3 a4 a5 a6 a7 a8 a9) (sep:=⟨#[32]⟩) (fun i hi=>hm _ (zaj ⟨#[]⟩ hi)) (Nat.le_refl 1) 17 (Nat.le_refl _)
 have e:=zdt (zxE a1 a2 a3 a4 a5 a6 a7 a8 a9) ⟨#[32]⟩ 17 (Nat.le_refl _)
 rw [show (zxE a1 a2 a3 a4 a5 a6 a7 a8 a9).take 17 = zxE a1 a2 a3 a4 a5 a6 a7 a8 a9 from rfl] at e
 rw [e] at j1
 omega
noncomputable def zK3 (n:Int) (xs:List Int):List ByteArray:=zxE (zby (zdi n xs)) (zgV (zfj (zag xs))) (zgV (hV xs)) (zby (euN xs)) (zgV (zdj (zag xs) 2)) (zby (zl3 n xs 2)) (zEd n xs) (zDk n xs) (zDp n xs)
theorem zFt (n:Int) (xs:List Int):∀ a ∈ [zby (zdi n xs),zgV (zfj (zag xs)),zgV (hV xs),zby (euN xs),zgV (zdj (zag xs) 2),zby (zl3 n xs 2),zEd n xs,zDk n xs,zDp n xs],a.size ≤ 3136:=fun a ha=>by
 have hd7:=zbj (zag xs)
 have b1:=zlO n xs
 have b4:=zxF xs
 have b6:=zGw n xs 2
 have s1:=zc0 (n:=zdi n xs) (by omega) (by omega)
 have s2:=zir (zpa (zag xs)) (by rw [zbQ];omega)
 have s3:=zir (zA1 xs) (by rw [zob];omega)
 have s4:=zc0 (n:=euN xs) (by omega) (by omega)
 have s5:=zir (zpb (zag xs) 2) (by rw [zaY];omega)
 have s6:=zc0 (n:=zl3 n xs 2) (by omega) (by omega)
 have s7:=zAY n xs
 have s8:=zAZ n xs
 have s9:=zA0 n xs
 simp only [List.mem_cons,List.not_mem_nil,or_false] at ha
 rcases ha with rfl | rfl | rfl | rfl | rfl | rfl | rfl | rfl | rfl <;> omega
noncomputable def zKI (n:Int) (xs:List Int):ByteArray:=if zaL n xs = true then zgU (zK3 n xs) ⟨#[32]⟩ else ⟨#[]⟩
theorem zcN (n:Int) (xs:List Int):AC Tryz.prog 8 [.ag [int n,zax xs]] (.im (str (zKI n xs))):=by
 refine AC.go (rs:=[.tmp 2]) zaD mixed Tryz.func8 rfl rfl rfl (by kernel_rfl) fun hl=>?_
 simp -dsimp only [↓gp,gq,simprocAttr,gT]
 refine zab (zaq n xs) ?_
 simp -dsimp only [↓gp,gq,simprocAttr,gT]
 unfold zKI
 refine ⟨fun hc=>by rw [if_neg (by intro h;rw [h] at hc;cases hc)],fun hc=>⟨by kernel_rfl,zab (zdc n xs) ?_⟩⟩
 have hc:zaL n xs = true:=by simpa using hc
 rw [if_pos hc]
 obtain ⟨h1,h6,_⟩:=zaP.1 hc
 obtain ⟨m,rfl⟩:∃ m:Nat,n = m:=⟨n.toNat,by omega⟩
 have b1:=zlO m xs
 have b2:=zpa (zag xs)
 have b2l:=zbQ (zag xs)
 have hd7:=zbj (zag xs)
 have b3:=zA1 xs
 have b3l:=zob xs
 have b4:=zxF xs
 have b5:=zpb (zag xs) 2
 have b5l:=zaY (zag xs) 2
 have b6:=zGw m xs 2
 have hE:=zgt m xs hc
 change AC _ _ _ (.im (int (euN xs))) at hE
 have hD:=zmG m xs 2
 rw [zo9] at hD
 have hF:=zeu m xs
 rw [show fcR m xs = zfj (zag xs) from if_pos hc] at hF
 simp -dsimp only [↓gp,gq,simprocAttr,gT]
 refine zab (zbr (by omega) (by omega)) ?_
 simp -dsimp only [↓gp,gq,simprocAttr,gT]
 refine zab hF ?_
 simp -dsimp only [↓gp,gq,simprocAttr,gT]
 refine zab (zcZ _ (by omega) b2) ?_
 simp -dsimp only [↓gp,gq,simprocAttr,gT]
 refine zab (zlI m xs hc) ?_
 simp -dsimp only [↓gp,gq,simprocAttr,gT]
 refine zab (zcZ _ (by omega) b3) ?_
 simp -dsimp only [↓gp,gq,simprocAttr,gT]
 refine zab hE ?_
 simp -dsimp only [↓gp,gq,simprocAttr,gT]
 refine zab (zbr (by omega) (by omega)) ?_
 simp -dsimp only [↓gp,gq,simprocAttr,gT]
 refine zab (ze3 m xs 2 hc rfl) ?_
 simp -dsimp only [↓gp,gq,simprocAttr,gT]
 refine zab (zcZ _ (by omega) b5) ?_
 simp -dsimp only [↓gp,gq,simprocAttr,gT]
 refine zab hD ?_
 simp -dsimp only [↓gp,gq,simprocAttr,gT]
 refine zab (zbr (by omega) (by omega)) ?_
 simp -dsimp only [↓gp,gq,simprocAttr,gT]
 refine zab (zh7 m xs) ?_
 simp -dsimp only [↓gp,gq,simprocAttr,gT]
 refine zab (zhG m xs hc) ?_
 simp -dsimp only [↓gp,gq,simprocAttr,gT]
 refine zab (zjt m xs) ?_
 simp -dsimp only [↓gp,gq,simprocAttr,gT]
 refine ⟨by kernel_rfl,?_⟩
 have hsz:=zA2 (a1:=zby (zdi m xs)) (a2:=zgV (zfj (zag xs))) (a3:=zgV (hV xs)) (a4:=zby (euN xs)) (a5:=zgV (zdj (zag xs) 2)) (a6:=zby (zl3 m xs 2)) (a7:=zEd m xs) (a8:=zDk m xs) (a9:=zDp m xs) (zFt m xs)
 refine zab (zc5 (zK3 m xs) ⟨#[32]⟩ (show 17 ≤ _ by decide) (Nat.le_trans hsz (by decide))) ?_
 simp -dsimp only [↓gp,gq,simprocAttr,gT]
end Go.Proofs.YtkledeboboplmaaGreatDoor

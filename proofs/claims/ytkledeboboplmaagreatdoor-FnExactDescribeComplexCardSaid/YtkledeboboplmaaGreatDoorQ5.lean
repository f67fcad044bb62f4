/- DERIVED by an AI agent. -/
import Derived.Test.YtkledeboboplmaaGreatDoorQ1
import Derived.Test.YtkledeboboplmaaGreatDoorP1
import Derived.Test.YtkledeboboplmaaGreatDoorQ4
import Derived.Test.YtkledeboboplmaaGreatDoorQ3
namespace Go.Proofs.YtkledeboboplmaaGreatDoor
open Go.Abs
set_option linter.unusedSimpArgs false
set_option linter.unusedVariables false
def za3 (gs:List Int) (n i k:Nat):List Int:=(List.range n).map fun t=>((nbr (gs.take (if t < i then gs.length else if t = i then k else 0)) t:Nat):Int)
theorem zd8 (gs:List Int) (n i k:Nat):(za3 gs n i k).length = n:=by simp [za3]
theorem zsE (gs:List Int) (n:Nat):List.replicate n (0:Int) = za3 gs n 0 0:=by
 refine List.ext_getElem (by simp [za3]) fun j h1 h2=>?_
 simp only [za3,List.getElem_replicate,List.getElem_map,List.getElem_range]
 have:(if j < 0 then gs.length else if j = 0 then 0 else 0) = 0:=by rw [if_neg (by omega)];split <;> rfl
 rw [this]
 rfl
theorem zx3 {gs:List Int} {n i k:Nat} (h:i < n):(za3 gs n i k).getD i 0 = ((nbr (gs.take k) i:Nat):Int):=by
 rw [zcp 0 (by rw [zd8];exact h)]
 simp [za3]
theorem ztZ {gs:List Int} {n i k:Nat} (h:i < n):(za3 gs n i k).set i ((nbr (gs.take (k + 1)) i:Nat):Int) = za3 gs n i (k + 1):=by
 refine List.ext_getElem (by simp [za3]) fun j h1 h2=>?_
 simp only [za3,List.getElem_set,List.getElem_map,List.getElem_range]
 by_cases e:i = j
 ·subst e;simp
 ·rw [if_neg e,if_neg (fun q:j = i=>e q.symm),if_neg (fun q:j = i=>e q.symm)]
theorem zsF {gs:List Int} {n i k:Nat} (h:nbr (gs.take (k + 1)) i = nbr (gs.take k) i):za3 gs n i (k + 1) = za3 gs n i k:=by
 refine List.ext_getElem (by simp [za3]) fun j h1 h2=>?_
 simp only [za3,List.getElem_map,List.getElem_range]
 by_cases h3:j < i
 ·rw [if_pos h3,if_pos h3]
 ·rw [if_neg h3,if_neg h3]
  by_cases e:j = i
  ·subst e;rw [if_pos rfl,if_pos rfl,h]
  ·rw [if_neg e,if_neg e]
theorem zt0 {gs:List Int} {n i:Nat}:za3 gs n i gs.length = za3 gs n (i + 1) 0:=by
 refine List.ext_getElem (by simp [za3]) fun j h1 h2=>?_
 simp only [za3,List.getElem_map,List.getElem_range]
 by_cases h3:j < i
 ·rw [if_pos h3,if_pos (by omega)]
 ·rw [if_neg h3]
  by_cases e:j = i
  ·rw [if_pos e,if_pos (by omega)]
  ·rw [if_neg e,if_neg (by omega)]
   split <;> rfl
def ziJ (gs:List Int) (n:Nat):List Int:=(List.range n).map fun t=>((nbr gs t:Nat):Int)
theorem zt1 (gs:List Int) (n:Nat):za3 gs n n 0 = ziJ gs n:=by
 refine List.ext_getElem (by simp [za3,ziJ]) fun j h1 h2=>?_
 have:j < n:=by simpa [za3] using h1
 simp [za3,ziJ,this]
theorem zD6 {gs:List Int} {n i:Nat} (h:i < n):(ziJ gs n).getD i 0 = ((nbr gs i:Nat):Int):=by
 rw [zcp 0 (by simp [ziJ];exact h)]
 simp [ziJ]
theorem zh3 (n:Nat) (hn:n ≤ 6) (gs:List Int) (hg:∀ x ∈ gs,0 ≤ x∧x < 64):AC Tryz.prog 205 [.ag [int n,zax gs]] (.fr 3 1 (iL (ziJ gs n))):=by
 refine AC.go (rs:=[.tmp 2]) zaD mixed Tryz.func205 rfl rfl rfl (by kernel_rfl) fun hl=>?_
 simp only [zaN,za4,and_true,zbZ,zdx,zcE,zbI,true_and] at hl
 simp -dsimp only [↓gp,gq,simprocAttr,gT]
 refine ⟨by omega,by omega,?_⟩
 refine zah (fun (za:Nat × Nat × Nat) s=>match za with | (k,v,u)=>s.sl 1 = .ref 1 u 0∧s.rw 1 = ⟨u,.box 147 [int n,zax gs]⟩∧s.sl 3 = .own 9 v∧s.rw 9 = ⟨v,.sli 3 1 false (iL (za3 gs n k 0))⟩∧s.sl 11 = int n∧s.sl 12 = int k∧(k ≤ n)) (fun (k,v,u)=>n - k) ((0,1,1)) (by refine ⟨?_,?_,?_,?_,?_,?_,by simp⟩ <;> (first | (simp -dsimp only [gr,simprocAttr,zc6,Int.toNat_natCast,← zsE];first | done | rfl | (simp;done)) | assumption | rfl)) ?_
 intro (k,v,u) sa ⟨h1a,r1a,h3a,r9a,h11a,h12a,hIa⟩
 simp -dsimp only [↓gp,gq,simprocAttr,gT,h1a,r1a,h3a,r9a,h11a,h12a,zd8]
 refine ⟨fun hk=>?_,fun hk=>?_⟩
 ·refine zah (fun (zb:Nat × Nat) s=>match zb with | (j,v)=>s.sl 1 = .ref 1 u 0∧s.rw 1 = ⟨u,.box 147 [int n,zax gs]⟩∧s.sl 3 = .own 9 v∧s.rw 9 = ⟨v,.sli 3 1 false (iL (za3 gs n k j))⟩∧s.sl 11 = int n∧s.sl 12 = int k∧s.sl 4 = int k∧s.sl 16 = zax gs∧s.sl 17 = int gs.length∧s.sl 18 = int j∧(j ≤ gs.length)) (fun (j,v)=>gs.length - j) ((0,v)) (by refine ⟨?_,?_,?_,?_,?_,?_,?_,?_,?_,?_,by simp⟩ <;> (first | (simp -dsimp only [gr,simprocAttr,h1a,r1a,h3a,r9a,h11a,h12a];first | done | rfl | (simp;done)) | assumption | rfl)) ?_
  intro (j,v) sb ⟨h1b,r1b,h3b,r9b,h11b,h12b,h4b,h16b,h17b,h18b,hIb⟩
  have hun:IntKind.u64.wrap (k:Int) = (k:Int):=zaV (by omega)
  simp -dsimp only [↓gp,gq,simprocAttr,gT,h1b,r1b,h3b,r9b,h11b,h12b,h4b,h16b,h17b,h18b,zd8,hun]
  refine ⟨fun hj=>⟨hj,hj,?_⟩,fun hj=>?_⟩
  ·have hx:=hg _ (zaj 0 hj)
   obtain ⟨e,he⟩:=Int.eq_ofNat_of_zero_le hx.1
   rw [he,zoa (by omega) (by omega)]
   have hg':∀ x ∈ gs,x.toNat < 64:=fun x hx=>by have:=hg x hx;omega
   refine ⟨fun hf=>?_,fun hf=>?_⟩
   ·have hy:=zGv (i:=k) hj hg' (by rw [he,Int.toNat_natCast];exact hf)
    have h2k:2 ^ k < 64:=by have:2 ^ k < 2 ^ 6:=Nat.pow_lt_pow_right (by omega) (by omega);omega
    have hnl:=zFs (gs.take j) k
    have hxl:e ^^^ (e &&& 2 ^ k) < 64:=Nat.xor_lt_two_pow (n:=6) (by omega) (Nat.lt_of_le_of_lt Nat.and_le_left (by omega))
    have hor:ior .i64 ((za3 gs n k j).getD k 0) (zco .i64 (e:Int) (zip .i64 1 (k:Int))) = ((nbr (gs.take (j + 1)) k:Nat):Int):=by
     rw [zx3 hk,zbf (by omega),zbi (by omega) (by omega),zlE (by omega) (by omega),hy,he,Int.toNat_natCast]
    exact ⟨hk,hk,hk,by omega,zac ((j + 1,v)) (by refine ⟨?_,?_,?_,?_,?_,?_,?_,?_,?_,?_,by omega⟩ <;> (first | (simp -dsimp only [gr,simprocAttr,h1b,r1b,h3b,r9b,h11b,h12b,h4b,h16b,h17b,h18b,he,hor,ztZ hk,zaa hj (by omega)];first | done | rfl | (simp;done)) | assumption | rfl)) (by first | omega | (simp only;omega) | (dsimp only;omega) | (show _ < _;simp;omega))⟩
   ·have hy:za3 gs n k (j + 1) = za3 gs n k j:=zsF (zJO hj (by rw [he,Int.toNat_natCast];exact hf))
    exact zac ((j + 1,v)) (by refine ⟨?_,?_,?_,?_,?_,?_,?_,?_,?_,?_,by omega⟩ <;> (first | (simp -dsimp only [gr,simprocAttr,h1b,r1b,h3b,r9b,h11b,h12b,h4b,h16b,h17b,h18b,zaa hj (by omega),hy];first | done | rfl | (simp;done)) | assumption | rfl)) (by first | omega | (simp only;omega) | (dsimp only;omega) | (show _ < _;simp;omega))
  ·obtain rfl:j = gs.length:=by omega
   exact zac ((k + 1,v,u)) (by refine ⟨?_,?_,?_,?_,?_,?_,by omega⟩ <;> (first | (simp -dsimp only [gr,simprocAttr,h1a,r1a,h3a,r9a,h11a,h12a,h1b,r1b,h3b,r9b,h11b,h12b,h4b,h16b,h17b,h18b,zaa hk (by omega),← zt0];first | done | rfl | (simp;done)) | assumption | rfl)) (by first | omega | (simp only;omega) | (dsimp only;omega) | (show _ < _;simp;omega))
 ·obtain rfl:k = n:=by omega
  rw [zt1]
def okC (nb:Nat→Nat→Bool) (i x:Nat) (c:List Int) (m:Nat):Bool:=(List.range m).all fun j=>!(nb i j && decide (c.getD j 0 = (x:Int)))
theorem zwr (nb:Nat→Nat→Bool) (i x:Nat) (c:List Int) (m:Nat):okC nb i x c (m + 1) = (okC nb i x c m && !(nb i m && decide (c.getD m 0 = (x:Int)))):=by
 unfold okC
 rw [List.range_succ,List.all_append];simp
def cfL (ok:Nat→List Int→Bool) (i:Nat) (f:List Int→Bool × List Int):Nat→Nat→List Int→Bool × List Int
 | 0,_,c=>(false,c)
 | m + 1,x,c=>if ok x c = true then (if (f (c.set i x)).1 = true then f (c.set i x) else cfL ok i f m (x + 1) (f (c.set i x)).2) else cfL ok i f m (x + 1) c
def cfS (nb:Nat→Nat→Bool) (k:Nat):Nat→Nat→List Int→Bool × List Int
 | 0,_,c=>(true,c)
 | r + 1,i,c=>cfL (fun x c=>okC nb i x c i) i (cfS nb k r (i + 1)) k 0 c
def fdL (ok:Nat→Bool) (g:Nat→Option (List Int)):Nat→Nat→Option (List Int)
 | 0,_=>none
 | m + 1,x=>if ok x = true then (match g x with | some l=>some l | none=>fdL ok g m (x + 1)) else fdL ok g m (x + 1)
def fdS (nb:Nat→Nat→Bool) (k:Nat):Nat→List Int→Option (List Int)
 | 0,head=>some head
 | r + 1,head=>fdL (fun x=>okC nb head.length x head head.length) (fun x=>fdS nb k r (head ++ [(x:Int)])) k 0
theorem zty {ok:Nat→List Int→Bool} {i n:Nat} {f:List Int→Bool × List Int} (hf:∀ c,c.length = n→(f c).2.length = n):∀ (m x:Nat) (c:List Int),c.length = n→(cfL ok i f m x c).2.length = n
 | 0,_,c,h=>h
 | m + 1,x,c,h=>by
   rw [cfL]
   have h1:=hf (c.set i x) (by rw [List.length_set];exact h)
   split
   ·split
    ·exact h1
    ·exact zty hf m (x + 1) _ h1
   ·exact zty hf m (x + 1) _ h
theorem ztz (nb:Nat→Nat→Bool) (k n:Nat):∀ (r i:Nat) (c:List Int),c.length = n→(cfS nb k r i c).2.length = n
 | 0,_,c,h=>h
 | r + 1,i,c,h=>zty (fun c hc=>ztz nb k n r (i + 1) c hc) k 0 c h
theorem zDx {nb:Nat→Nat→Bool} {i x:Nat} {c d:List Int} {m:Nat} (h:∀ j,j < m→c.getD j 0 = d.getD j 0):okC nb i x c m = okC nb i x d m:=by
 unfold okC
 refine Bool.eq_iff_iff.2 ?_
 rw [List.all_eq_true,List.all_eq_true]
 refine forall_congr' fun j=>⟨fun hh hj=>?_,fun hh hj=>?_⟩
 ·rw [← h j (List.mem_range.1 hj)];exact hh hj
 ·rw [h j (List.mem_range.1 hj)];exact hh hj
theorem zBn {c head:List Int} {i:Nat} (h:c.take i = head) (hi:head.length = i) {j:Nat} (hj:j < i):c.getD j 0 = head.getD j 0:=by
 subst h
 simp [List.getD,List.getElem?_take,hj]
theorem zJX (nb:Nat→Nat→Bool) (k n:Nat):∀ (r i:Nat) (c head:List Int),i + r = n→c.length = n→head.length = i→c.take i = head →
 (cfS nb k r i c).2.take i = head∧(match fdS nb k r head with | some l=>(cfS nb k r i c).1 = true∧(cfS nb k r i c).2 = l | none=>(cfS nb k r i c).1 = false)
 | 0,i,c,head,hr,hc,hh,ht=>by
   refine ⟨ht,rfl,?_⟩
   rw [← ht]
   show c = c.take i
   rw [List.take_of_length_le (by omega)]
 | r + 1,i,c,head,hr,hc,hh,ht=>by
   have key:∀ (m x:Nat) (c:List Int),c.length = n→c.take i = head →
    (cfL (fun x c=>okC nb i x c i) i (cfS nb k r (i + 1)) m x c).2.take i = head ∧
    (match fdL (fun x=>okC nb head.length x head head.length) (fun x=>fdS nb k r (head ++ [(x:Int)])) m x with
     | some l=>(cfL (fun x c=>okC nb i x c i) i (cfS nb k r (i + 1)) m x c).1 = true∧(cfL (fun x c=>okC nb i x c i) i (cfS nb k r (i + 1)) m x c).2 = l
     | none=>(cfL (fun x c=>okC nb i x c i) i (cfS nb k r (i + 1)) m x c).1 = false):=by
    intro m
    induction m with
    | zero=>intro x c hc ht;exact ⟨ht,rfl⟩
    | succ m ihm =>
      intro x c hc ht
      rw [cfL,fdL]
      have hok:okC nb i x c i = okC nb head.length x head head.length:=by
       rw [hh];exact zDx fun j hj=>zBn ht hh hj
      rw [hok]
      by_cases ho:okC nb head.length x head head.length = true
      ·rw [if_pos ho,if_pos ho]
       have hset:(c.set i (x:Int)).take (i + 1) = head ++ [(x:Int)]:=by
        rw [List.take_succ_eq_append_getElem (by rw [List.length_set];omega),List.take_set_of_le (Nat.le_refl i),ht]
        simp
       obtain ⟨g1,g2⟩:=zJX nb k n r (i + 1) (c.set i x) (head ++ [(x:Int)]) (by omega) (by rw [List.length_set];exact hc) (by rw [List.length_append,hh];rfl) hset
       have hl:=ztz nb k n r (i + 1) (c.set i x) (by rw [List.length_set];exact hc)
       have ht2:(cfS nb k r (i + 1) (c.set i x)).2.take i = head:=by
        have:=congrArg (List.take i) g1
        have e:(head ++ [(x:Int)]).take i = head:=by rw [List.take_append_of_le_length (by omega),List.take_of_length_le (by omega)]
        rw [List.take_take,Nat.min_eq_left (by omega),e] at this
        exact this
       cases hf:fdS nb k r (head ++ [(x:Int)]) with
       | some l =>
         rw [hf] at g2
         rw [if_pos g2.1]
         exact ⟨ht2,g2⟩
       | none =>
         rw [hf] at g2
         rw [if_neg (by rw [g2];decide)]
         exact ihm (x + 1) _ hl ht2
      ·rw [if_neg ho,if_neg ho]
       exact ihm (x + 1) c hc ht
   exact key k 0 c hc ht
theorem zJY (nb:Nat→Nat→Bool) (k n:Nat):(cfS nb k n 0 (List.replicate n 0)).1 = (fdS nb k n []).isSome∧((fdS nb k n []).isSome = true→(cfS nb k n 0 (List.replicate n 0)).2 = (fdS nb k n []).getD []):=by
 have h:=(zJX nb k n n 0 (List.replicate n 0) [] (by omega) (by simp) rfl rfl).2
 cases hf:fdS nb k n [] with
 | none=>rw [hf] at h;exact ⟨h,fun h=>by cases h⟩
 | some l=>rw [hf] at h;exact ⟨h.1,fun _=>h.2⟩
def nbF (gs:List Int) (i j:Nat):Bool:=(nbr gs i).testBit j
theorem zsb (gs:List Int) (n:Nat):(ziJ gs n).length = n:=by simp [ziJ]
theorem zjv (gs:List Int) (k n:Nat) (hk:k ≤ 6) (hn6:n ≤ 6):∀ (r i:Nat) (c:List Int),i + r = n→c.length = n →
 AM Tryz.prog 204 [.own 1000000 1,.own 1000001 1,int i,int k] [⟨3,1,iL (ziJ gs n)⟩,⟨3,1,iL c⟩] [iL (ziJ gs n),iL (cfS (nbF gs) k r i c).2] (.bool (cfS (nbF gs) k r i c).1):=by
 intro r
 induction r with
 | zero =>
   intro i c hr hc
   refine AM.go (rs:=[.tmp 8]) zaD mixed Tryz.func204 rfl rfl rfl (by kernel_rfl) (zcm (za9 _) (zcm (za9 _) zec)) (zcl (za9 _) (zcl (za9 _) zeb)) rfl fun hl=>?_
   have hnl:=zsb gs n
   simp -dsimp only [↓gp,gq,simprocAttr,gT,hnl]
   refine ⟨fun _=>⟨rfl,rfl⟩,fun h=>absurd h (by rw [show (i:Int) = n by omega];simp)⟩
 | succ r ih =>
   intro i c hr hc
   refine AM.go (rs:=[.tmp 8]) zaD mixed Tryz.func204 rfl rfl rfl (by kernel_rfl) (zcm (za9 _) (zcm (za9 _) zec)) (zcl (za9 _) (zcl (za9 _) zeb)) rfl fun hl=>?_
   have hnl:=zsb gs n
   simp -dsimp only [↓gp,gq,simprocAttr,gT,hnl]
   refine ⟨fun h=>absurd (beq_iff_eq.1 h) (by omega),fun _=>?_⟩
   refine zah (fun (za:Nat × List Int) s=>match za with | (x,d)=>s.sl 0 = .own 1000000 1∧s.rw 1000000 = ⟨1,.sli 3 1 false (iL (ziJ gs n))⟩∧s.sl 1 = .own 1000001 1∧s.rw 1000001 = ⟨1,.sli 3 1 false (iL d)⟩∧s.sl 2 = int i∧s.sl 3 = int k∧s.sl 9 = int x∧(x ≤ k∧d.length = n∧cfL (fun x c=>okC (nbF gs) i x c i) i (cfS (nbF gs) k r (i + 1)) (k - x) x d = cfS (nbF gs) k (r + 1) i c)) (fun (x,d)=>k - x) ((0,c)) (by refine ⟨?_,?_,?_,?_,?_,?_,?_,⟨Nat.zero_le _,hc,rfl⟩⟩ <;> (first | (simp -dsimp only [gr,simprocAttr];first | done | rfl | (simp;done)) | assumption | rfl)) ?_
   intro (x,d) sa ⟨h0a,r1000000a,h1a,r1000001a,h2a,h3a,h9a,hIa⟩
   obtain ⟨hxk,hdl,hcf⟩:=hIa
   simp -dsimp only [↓gp,gq,simprocAttr,gT,h0a,r1000000a,h1a,r1000001a,h2a,h3a,h9a,hnl,hdl]
   refine ⟨fun hx=>?_,fun hx=>?_⟩
   ·have hin:i < n:=by omega
    have hk1:k - x = (k - (x + 1)) + 1:=by omega
    rw [hk1,cfL] at hcf
    have hat:=zD6 (gs:=gs) hin
    have hok0:okC (nbF gs) i x d 0 = true:=rfl
    refine zah (fun (j:Nat) s=>s.sl 0 = .own 1000000 1∧s.rw 1000000 = ⟨1,.sli 3 1 false (iL (ziJ gs n))⟩∧s.sl 1 = .own 1000001 1∧s.rw 1000001 = ⟨1,.sli 3 1 false (iL d)⟩∧s.sl 2 = int i∧s.sl 3 = int k∧s.sl 9 = int x∧s.sl 10 = bool (okC (nbF gs) i x d j)∧s.sl 11 = int j∧(j ≤ i)) (fun j=>i - j) (0) (by refine ⟨?_,?_,?_,?_,?_,?_,?_,?_,?_,Nat.zero_le _⟩ <;> (first | (simp -dsimp only [gr,simprocAttr,h0a,r1000000a,h1a,r1000001a,h2a,h3a,h9a,hok0];first | done | rfl | (simp;done)) | assumption | rfl)) ?_
    intro j sb ⟨h0b,r1000000b,h1b,r1000001b,h2b,h3b,h9b,h10b,h11b,hIb⟩
    simp -dsimp only [↓gp,gq,simprocAttr,gT,h0b,r1000000b,h1b,r1000001b,h2b,h3b,h9b,h10b,h11b,hnl,hdl]
    refine ⟨fun hj=>?_,fun hj=>?_⟩
    ·have hun:IntKind.u64.wrap (j:Int) = (j:Int):=zaV (by omega)
     have hbit:(zfE .i64 (zte .i64 ((nbr gs i:Nat):Int) (j:Int)) 1 == 1) = nbF gs i j:=zoa (by have:=zFs gs i;omega) (by omega)
     have hsu:=zwr (nbF gs) i x d j
     simp -dsimp only [↓gp,gq,simprocAttr,gT,h0b,r1000000b,h1b,r1000001b,h2b,h3b,h9b,h10b,h11b,hnl,hdl,hun,hat,hbit]
     refine ⟨hin,hin,fun h1=>⟨by omega,by omega,fun h2=>?_,fun h2=>?_⟩,fun h1=>?_⟩
     ·have e:okC (nbF gs) i x d (j + 1) = false:=by rw [hsu,h1,decide_eq_true (beq_iff_eq.1 h2)];simp
      exact zac (j + 1) (by refine ⟨?_,?_,?_,?_,?_,?_,?_,?_,?_,by omega⟩ <;> (first | (simp -dsimp only [gr,simprocAttr,h0b,r1000000b,h1b,r1000001b,h2b,h3b,h9b,h10b,h11b,e,zaa hj (by omega)];first | done | rfl | (simp;done)) | assumption | rfl)) (by first | omega | (simp only;omega) | (dsimp only;omega) | (show _ < _;simp;omega))
     ·have e:okC (nbF gs) i x d (j + 1) = okC (nbF gs) i x d j:=by rw [hsu,h1,decide_eq_false (beq_eq_false_iff_ne.1 h2)];simp
      exact zac (j + 1) (by refine ⟨?_,?_,?_,?_,?_,?_,?_,?_,?_,by omega⟩ <;> (first | (simp -dsimp only [gr,simprocAttr,h0b,r1000000b,h1b,r1000001b,h2b,h3b,h9b,h10b,h11b,e,zaa hj (by omega)];first | done | rfl | (simp;done)) | assumption | rfl)) (by first | omega | (simp only;omega) | (dsimp only;omega) | (show _ < _;simp;omega))
     ·have e:okC (nbF gs) i x d (j + 1) = okC (nbF gs) i x d j:=by rw [hsu,h1];simp
      exact zac (j + 1) (by refine ⟨?_,?_,?_,?_,?_,?_,?_,?_,?_,by omega⟩ <;> (first | (simp -dsimp only [gr,simprocAttr,h0b,r1000000b,h1b,r1000001b,h2b,h3b,h9b,h10b,h11b,e,zaa hj (by omega)];first | done | rfl | (simp;done)) | assumption | rfl)) (by first | omega | (simp only;omega) | (dsimp only;omega) | (show _ < _;simp;omega))
    ·have:j = i:=by omega
     subst this
     refine ⟨fun ho=>?_,fun ho=>?_⟩
     ·have ho:okC (nbF gs) j x d j = false:=by simpa using ho
      rw [if_neg (by rw [ho];decide)] at hcf
      exact zac ((x + 1,d)) (by refine ⟨?_,?_,?_,?_,?_,?_,?_,⟨by dsimp only;omega,hdl,hcf⟩⟩ <;> (first | (simp -dsimp only [gr,simprocAttr,h0a,r1000000a,h1a,r1000001a,h2a,h3a,h9a,h0b,r1000000b,h1b,r1000001b,h2b,h3b,h9b,h10b,h11b,zaa hx (by omega)];first | done | rfl | (simp;done)) | assumption | rfl)) (by first | omega | (simp only;omega) | (dsimp only;omega) | (show _ < _;simp;omega))
     ·have ho:okC (nbF gs) j x d j = true:=by simpa using ho
      rw [if_pos ho] at hcf
      have hds:(d.set j (x:Int)).length = n:=by rw [List.length_set];exact hdl
      have hih:=ih (j + 1) (d.set j x) (by omega) hds
      have hcl:=ztz (nbF gs) k n r (j + 1) (d.set j x) hds
      have hw:IntKind.i64.wrap ((j:Int) + 1) = ((j + 1:Nat):Int):=zaa hin (by omega)
      rw [hw]
      refine ⟨hin,hin,zkt hih [(1000000,1),(1000001,1)] (by repeat (first | exact GiveL.nil | refine GiveL.v ?_ | refine GiveL.clo ?_ | refine GiveL.own 0 rfl ?_ | refine GiveL.own 1 rfl ?_ | refine GiveL.ag ?_ ?_)) ⟨by simp -dsimp only [gr,simprocAttr,h0b,r1000000b,h1b,r1000001b,h2b,h3b,h9b,h10b,h11b],by simp -dsimp only [gr,simprocAttr,h0b,r1000000b,h1b,r1000001b,h2b,h3b,h9b,h10b,h11b],trivial⟩ (by decide) ?_⟩
      simp -dsimp only [↓gp,gq,simprocAttr,gT,h0b,r1000000b,h1b,r1000001b,h2b,h3b,h9b,h10b,h11b]
      refine ⟨fun hb=>?_,fun hb=>?_⟩
      ·rw [if_pos hb] at hcf
       rw [← hcf,hb]
       exact ⟨rfl,rfl⟩
      ·rw [if_neg (by rw [hb];decide)] at hcf
       exact zac ((x + 1,(cfS (nbF gs) k r (j + 1) (d.set j (x:Int))).2)) (by refine ⟨?_,?_,?_,?_,?_,?_,?_,⟨by dsimp only;omega,hcl,hcf⟩⟩ <;> (first | (simp -dsimp only [gr,simprocAttr,h0a,r1000000a,h1a,r1000001a,h2a,h3a,h9a,h0b,r1000000b,h1b,r1000001b,h2b,h3b,h9b,h10b,h11b,zaa hx (by omega)];first | done | rfl | (simp;done)) | assumption | rfl)) (by first | omega | (simp only;omega) | (dsimp only;omega) | (show _ < _;simp;omega))
   ·have e:k - x = 0:=by omega
    rw [e,cfL] at hcf
    rw [← hcf]
    exact ⟨rfl,rfl⟩
def nbC (xs:List Int) (i j:Nat):Bool:=zag xs (2 ^ i + 2 ^ j)
noncomputable def fcO (n:Int) (xs:List Int) (k:Int):Option (List Int):=if zaL n xs = true∧(1 ≤ k∧k ≤ 6) then fdS (nbC xs) k.toNat n.toNat [] else none
theorem zJW {nb nb':Nat→Nat→Bool} {i x m:Nat} (h:∀ j,j < m→nb i j = nb' i j) (c:List Int):okC nb i x c m = okC nb' i x c m:=by
 unfold okC
 refine Bool.eq_iff_iff.2 ?_
 rw [List.all_eq_true,List.all_eq_true]
 refine forall_congr' fun j=>⟨fun hh hj=>?_,fun hh hj=>?_⟩
 ·rw [← h j (List.mem_range.1 hj)];exact hh hj
 ·rw [h j (List.mem_range.1 hj)];exact hh hj
theorem zsc {ok ok':Nat→Bool} {g g':Nat→Option (List Int)} (h1:∀ x,ok x = ok' x) (h2:∀ x,g x = g' x):∀ m x,fdL ok g m x = fdL ok' g' m x
 | 0,_=>rfl
 | m + 1,x=>by rw [fdL,fdL,h1,h2,zsc h1 h2 m (x + 1)]
theorem zFD {nb nb':Nat→Nat→Bool} {n:Nat} (k:Nat) (h:∀ i j,i < n→j < i→nb i j = nb' i j):∀ (r:Nat) (head:List Int),head.length + r = n→fdS nb k r head = fdS nb' k r head
 | 0,_,_=>rfl
 | r + 1,head,hr=>by
   rw [fdS,fdS]
   exact zsc (fun x=>zJW (fun j hj=>h _ j (by omega) hj) head) (fun x=>zFD k h r _ (by rw [List.length_append,List.length_singleton];omega)) k 0
theorem zGD:∀ s,s < 64→∀ i,i < 6→∀ j,j < 6→(!(zat s == 2) || !s.testBit i || !s.testBit j || !decide (i ≠ j) || (s == 2 ^ i + 2 ^ j)) = true:=by decide +kernel
theorem zGE:∀ i,i < 6→∀ j,j < 6→(!decide (i ≠ j) || (decide (2 ^ i + 2 ^ j < 64) && (zat (2 ^ i + 2 ^ j) == 2) && (2 ^ i + 2 ^ j).testBit i && (2 ^ i + 2 ^ j).testBit j)) = true:=by decide +kernel
theorem zK8 {m:Nat} {xs:List Int} (hcx:zaL (m:Int) xs = true) (h6:m ≤ 6) {i j:Nat} (hi:i < m) (hj:j < i):nbF (goL m xs) i j = nbC xs i j:=by
 have e:goL (m:Int) xs = ofN (zaQ (zag xs) 2 64):=if_pos hcx
 have hx:∀ x ∈ goL (m:Int) xs,x.toNat < 64:=fun x hx=>by
  rw [e] at hx
  unfold ofN at hx
  obtain ⟨s,hs,rfl⟩:=List.mem_map.1 hx
  simpa using (zca.1 hs).1
 unfold nbF nbC
 rw [ztr _ _ _ hx,e,Bool.eq_iff_iff]
 unfold adj
 rw [List.any_eq_true]
 have hp:=zGE i (by omega) j (by omega)
 constructor
 ·rintro ⟨x,hx,h⟩
  unfold ofN at hx
  obtain ⟨s,hs,rfl⟩:=List.mem_map.1 hx
  obtain ⟨s1,s2,s3⟩:=zca.1 hs
  rw [Int.toNat_natCast,Bool.and_eq_true,Bool.and_eq_true] at h
  have:=zGD s s1 i (by omega) j (by omega)
  rw [s3,h.1,h.2.1,decide_eq_true (show i ≠ j by omega)] at this
  rw [← show s = 2 ^ i + 2 ^ j by simpa using this]
  exact s2
 ·intro h
  rw [show decide (i ≠ j) = true from decide_eq_true (by omega)] at hp
  obtain ⟨⟨⟨p1,p2⟩,p3⟩,p4⟩:((2 ^ i + 2 ^ j < 64∧zat (2 ^ i + 2 ^ j) = 2)∧(2 ^ i + 2 ^ j).testBit i = true)∧(2 ^ i + 2 ^ j).testBit j = true:=by simpa using hp
  refine ⟨((2 ^ i + 2 ^ j:Nat):Int),List.mem_map.2 ⟨_,zca.2 ⟨p1,h,p2⟩,rfl⟩,?_⟩
  rw [Int.toNat_natCast,p3,p4,decide_eq_true (show i ≠ j by omega)];rfl
theorem zgg (n:Int) (xs:List Int) (k:Int):AC Tryz.prog 179 [.ag [int n,zax xs],int k] (.tup [.fr 3 1 (iL ((fcO n xs k).getD [])),.im (bool (fcO n xs k).isSome)]):=by
 refine AC.go (rs:=[.tmp 4,.tmp 5]) zaD mixed Tryz.func179 rfl rfl rfl (by kernel_rfl) fun hl=>?_
 simp -dsimp only [↓gp,gq,simprocAttr,gT]
 refine zab (zmC n xs) ?_
 simp -dsimp only [↓gp,gq,simprocAttr,gT]
 have hno:¬ (zaL n xs = true∧(1 ≤ k∧k ≤ 6))→[] = iL ((fcO n xs k).getD [])∧(fcO n xs k).isSome = false:=fun h=>by
  rw [show fcO n xs k = none from if_neg h];exact ⟨rfl,rfl⟩
 refine ⟨fun hc=>⟨fun h1=>⟨fun h6=>hno fun h=>by omega,fun h6=>?_⟩,fun h1=>hno fun h=>by omega⟩,fun hc=>hno fun h=>by rw [h.1] at hc;cases hc⟩
 have hcx:zaL n xs = true:=by simpa using hc
 have hp:=zaP.1 hcx
 obtain ⟨m,rfl⟩:∃ m:Nat,n = m:=⟨n.toNat,by have:=hp.1;omega⟩
 obtain ⟨q,rfl⟩:∃ q:Nat,k = q:=⟨k.toNat,by omega⟩
 have hm6:m ≤ 6:=by have:=hp.2.1;omega
 have e1:goN (m:Int) xs = (m:Int):=if_pos hcx
 have e2:fcO (m:Int) xs q = fdS (nbF (goL m xs)) q m []:=by
  unfold fcO
  rw [if_pos ⟨hcx,by omega,by omega⟩,Int.toNat_natCast,Int.toNat_natCast]
  exact (zFD (n:=m) q (fun i j hi hj=>zK8 hcx hm6 hi hj) m [] (by simp)).symm
 have hgs:∀ x ∈ goL (m:Int) xs,0 ≤ x∧x < 64:=fun x hx=>by
  rw [show goL (m:Int) xs = ofN (zaQ (zag xs) 2 64) from if_pos hcx] at hx
  unfold ofN at hx
  obtain ⟨s,hs,rfl⟩:=List.mem_map.1 hx
  have:=(zca.1 hs).1
  omega
 rw [e1,e2]
 obtain ⟨t1,t2⟩:=zJY (nbF (goL (m:Int) xs)) q m
 refine ⟨by omega,by omega,by omega,zab (zh3 m hm6 _ hgs) ?_⟩
 have hcol:=zjv (goL (m:Int) xs) q m (by omega) hm6 m 0 (List.replicate m 0) (by omega) (by simp)
 generalize goL (m:Int) xs = gs at *
 simp -dsimp only [↓gp,gq,simprocAttr,gT]
 rw [t1] at hcol
 refine zkt hcol [(28,1),(26,1)] (by repeat (first | exact GiveL.nil | refine GiveL.v ?_ | refine GiveL.clo ?_ | refine GiveL.own 0 rfl ?_ | refine GiveL.own 1 rfl ?_ | refine GiveL.ag ?_ ?_)) ⟨by simp -dsimp only [gr,simprocAttr] <;> rfl,by simp -dsimp only [gr,simprocAttr] <;> rfl,trivial⟩ (by decide) ?_
 simp -dsimp only [↓gp,gq,simprocAttr,gT]
 refine ⟨fun hb=>?_,fun hb=>?_⟩
 ·cases ho:fdS (nbF gs) q m [] with
  | none=>exact ⟨rfl,rfl⟩
  | some l=>rw [ho] at hb;cases hb
 ·have hb:(fdS (nbF gs) q m []).isSome = true:=by simpa using hb
  rw [t2 hb];exact ⟨rfl,hb⟩
theorem zmB (m:Nat) (xs:List Int) (k:Nat) (hcx:zaL (m:Int) xs = true) (hk:k ≤ 6):∀ (r:Nat) (head:List Int),head.length + r = m →
 AF Tryz.prog 207 [.ag [int m,zax xs],int k] (iL head) 3 (iL ((fdS (nbC xs) k r head).getD [])) (fdS (nbC xs) k r head).isSome:=by
 have hm6:m ≤ 6:=by have:=(zaP.1 hcx).2.1;omega
 have hok:=zb4 hcx
 intro r
 induction r with
 | zero =>
   intro head hh
   unfold AF
   refine AG.go (rs:=[.tmp 6,.tmp 7]) zaD mixed Tryz.func207 rfl rfl rfl (by kernel_rfl) fun hl hrl z hz hr=>?_
   have z0:z.sl 0 = .ag [int m,zax xs]:=by rw [hz];rfl
   have z1:z.sl 1 = int k:=by rw [hz];rfl
   have z2:z.sl 2 = .own 1000000 1:=by rw [hz];rfl
   have y0:z.rw 1000000 = ⟨1,.sli 3 1 false (iL head)⟩:=by rw [hr,zfv]
   have yl:∀ j,j < 1000000→z.rw j = ⟨0,.dead⟩:=fun j hj=>by rw [hr,zlb _ _ (by omega)]
   clear hz hr
   simp -dsimp only [↓gp,gq,simprocAttr,gT,z0,z1,z2,y0,yl]
   refine ⟨fun _=>⟨1000000,1,.inl rfl,rfl,by simp -dsimp only [gr,simprocAttr,y0];rfl⟩,fun h=>?_⟩
   rw [beq_eq_false_iff_ne] at h
   exact absurd (by omega) h
 | succ r ih =>
   intro head hh
   unfold AF
   refine AG.go (rs:=[.tmp 6,.tmp 7]) zaD mixed Tryz.func207 rfl rfl rfl (by kernel_rfl) fun hl hrl z hz hr=>?_
   have z0:z.sl 0 = .ag [int m,zax xs]:=by rw [hz];rfl
   have z1:z.sl 1 = int k:=by rw [hz];rfl
   have z2:z.sl 2 = .own 1000000 1:=by rw [hz];rfl
   have y0:z.rw 1000000 = ⟨1,.sli 3 1 false (iL head)⟩:=by rw [hr,zfv]
   have yl:∀ j,j < 1000000→z.rw j = ⟨0,.dead⟩:=fun j hj=>by rw [hr,zlb _ _ (by omega)]
   clear hz hr
   simp -dsimp only [↓gp,gq,simprocAttr,gT,z0,z1,z2,y0,yl]
   have hne:((head.length:Int) == (m:Int)) = false:=by rw [beq_eq_false_iff_ne];omega
   refine ⟨fun h=>absurd (hne.symm.trans h) (by decide),fun _=>?_⟩
   refine zah (fun (x:Nat) s=>s.sl 1 = int k∧s.sl 2 = .own 1000000 1∧s.rw 1000000 = ⟨1,.sli 3 1 false (iL head)⟩∧s.sl 3 = .ref 3 1 0∧s.rw 3 = ⟨1,.box 27 [int m,zax xs]⟩∧s.sl 8 = int head.length∧s.sl 9 = int x∧(x ≤ k∧fdL (fun x=>okC (nbC xs) head.length x head head.length) (fun x=>fdS (nbC xs) k r (head ++ [(x:Int)])) (k - x) x = fdS (nbC xs) k (r + 1) head)) (fun x=>k - x) (0) (by refine ⟨?_,?_,?_,?_,?_,?_,?_,⟨Nat.zero_le _,rfl⟩⟩ <;> (first | (simp -dsimp only [gr,simprocAttr,z0,z1,z2,y0,yl];first | done | rfl | (simp;done)) | assumption | rfl)) ?_
   intro x sa ⟨h1a,h2a,r1000000a,h3a,r3a,h8a,h9a,hIa⟩
   obtain ⟨hxk,hfd⟩:=hIa
   simp -dsimp only [↓gp,gq,simprocAttr,gT,h1a,h2a,r1000000a,h3a,r3a,h8a,h9a]
   refine ⟨fun hx=>?_,fun hx=>?_⟩
   ·rw [show k - x = (k - (x + 1)) + 1 by omega,fdL] at hfd
    have hok0:okC (nbC xs) head.length x head 0 = true:=rfl
    refine zah (fun (j:Nat) s=>s.sl 1 = int k∧s.sl 2 = .own 1000000 1∧s.rw 1000000 = ⟨1,.sli 3 1 false (iL head)⟩∧s.sl 3 = .ref 3 1 0∧s.rw 3 = ⟨1,.box 27 [int m,zax xs]⟩∧s.sl 8 = int head.length∧s.sl 9 = int x∧s.sl 10 = bool (okC (nbC xs) head.length x head j)∧s.sl 11 = int j∧(j ≤ head.length)) (fun j=>head.length - j) (0) (by refine ⟨?_,?_,?_,?_,?_,?_,?_,?_,?_,Nat.zero_le _⟩ <;> (first | (simp -dsimp only [gr,simprocAttr,h1a,h2a,r1000000a,h3a,r3a,h8a,h9a,hok0];first | done | rfl | (simp;done)) | assumption | rfl)) ?_
    intro j sb ⟨h1b,h2b,r1000000b,h3b,r3b,h8b,h9b,h10b,h11b,hIb⟩
    simp -dsimp only [↓gp,gq,simprocAttr,gT,h1b,h2b,r1000000b,h3b,r3b,h8b,h9b,h10b,h11b]
    refine ⟨fun hj=>?_,fun hj=>?_⟩
    ·have hsu:=zwr (nbC xs) head.length x head j
     have hun:IntKind.u64.wrap (j:Int) = (j:Int):=zaV (by omega)
     have hun2:IntKind.u64.wrap (head.length:Int) = (head.length:Int):=zaV (by omega)
     have hp1:2 ^ j ≤ 2 ^ 4:=Nat.pow_le_pow_right (by decide) (by omega)
     have hp2:2 ^ head.length ≤ 2 ^ 5:=Nat.pow_le_pow_right (by decide) (by omega)
     have hsh:zip .i64 1 (j:Int) = ((2 ^ j:Nat):Int):=zbf (by omega)
     have hsh2:zip .i64 1 (head.length:Int) = ((2 ^ head.length:Nat):Int):=zbf (by omega)
     have hw:IntKind.i64.wrap (((2 ^ head.length:Nat):Int) + ((2 ^ j:Nat):Int)) = ((2 ^ head.length + 2 ^ j:Nat):Int):=by
      clear hsh hsh2 hsu
      generalize 2 ^ j = a at *
      generalize 2 ^ head.length = b at *
      rw [zai (by omega) (by omega)];omega
     simp -dsimp only [↓gp,gq,simprocAttr,gT,h1b,h2b,r1000000b,h3b,r3b,h8b,h9b,h10b,h11b,hun,hun2,hsh,hsh2,hw]
     have h64:2 ^ head.length + 2 ^ j < 64:=by
      clear hsh hsh2 hw hsu
      generalize 2 ^ j = a at *
      generalize 2 ^ head.length = b at *
      omega
     refine ⟨fun h1=>⟨hj,hj,fun h2=>zab (zdd m xs _ hok h64) ?_,fun h2=>?_⟩,fun h1=>?_⟩
     ·have e:okC (nbC xs) head.length x head (j + 1) = !zag xs (2 ^ head.length + 2 ^ j):=by
       rw [hsu,h1,decide_eq_true (show head.getD j 0 = (x:Int) by simpa using h2),Bool.true_and,Bool.and_true];rfl
      simp -dsimp only [↓gp,gq,simprocAttr,gT,h1b,h2b,r1000000b,h3b,r3b,h8b,h9b,h10b,h11b]
      exact zac (j + 1) (by refine ⟨?_,?_,?_,?_,?_,?_,?_,?_,?_,by omega⟩ <;> (first | (simp -dsimp only [gr,simprocAttr,h1b,h2b,r1000000b,h3b,r3b,h8b,h9b,h10b,h11b,e,zaa hj (by omega)];first | done | rfl | (simp;done)) | assumption | rfl)) (by first | omega | (simp only;omega) | (dsimp only;omega) | (show _ < _;simp;omega))
     ·have e:okC (nbC xs) head.length x head (j + 1) = true:=by
       rw [hsu,h1,decide_eq_false (show ¬ head.getD j 0 = (x:Int) from bne_iff_ne.1 h2)];simp
      exact zac (j + 1) (by refine ⟨?_,?_,?_,?_,?_,?_,?_,?_,?_,by omega⟩ <;> (first | (simp -dsimp only [gr,simprocAttr,h1b,h2b,r1000000b,h3b,r3b,h8b,h9b,h10b,h11b,e,zaa hj (by omega)];first | done | rfl | (simp;done)) | assumption | rfl)) (by first | omega | (simp only;omega) | (dsimp only;omega) | (show _ < _;simp;omega))
     ·have e:okC (nbC xs) head.length x head (j + 1) = false:=by rw [hsu,h1];rfl
      exact zac (j + 1) (by refine ⟨?_,?_,?_,?_,?_,?_,?_,?_,?_,by omega⟩ <;> (first | (simp -dsimp only [gr,simprocAttr,h1b,h2b,r1000000b,h3b,r3b,h8b,h9b,h10b,h11b,e,zaa hj (by omega)];first | done | rfl | (simp;done)) | assumption | rfl)) (by first | omega | (simp only;omega) | (dsimp only;omega) | (show _ < _;simp;omega))
    ·have hjl:j = head.length:=by omega
     refine ⟨fun ho=>?_,fun ho=>?_⟩
     ·have ho:okC (nbC xs) head.length x head head.length = false:=by rw [hjl] at ho;simpa using ho
      rw [if_neg (by rw [ho];decide)] at hfd
      exact zac (x + 1) (by refine ⟨?_,?_,?_,?_,?_,?_,?_,⟨by omega,hfd⟩⟩ <;> (first | (simp -dsimp only [gr,simprocAttr,h1a,h2a,r1000000a,h3a,r3a,h8a,h9a,h1b,h2b,r1000000b,h3b,r3b,h8b,h9b,h10b,h11b,zaa hx (by omega)];first | done | rfl | (simp;done)) | assumption | rfl)) (by first | omega | (simp only;omega) | (dsimp only;omega) | (show _ < _;simp;omega))
     ·have ho:okC (nbC xs) head.length x head head.length = true:=by rw [hjl] at ho;simpa using ho
      rw [if_pos ho] at hfd
      have hIH:=ih (head ++ [(x:Int)]) (by rw [List.length_append,List.length_singleton];omega)
      refine ⟨by kernel_rfl,by omega,by omega,zu1 hIH (fun _ _ _ _=>.ag (.one (.v _) (.one (.sl _ _ _) .nil)) (.one (.v _) .nil)) rfl (by simp -dsimp only [gr,simprocAttr];rw [show iL (head ++ [(x:Int)]) = iL head ++ iL [(x:Int)] from by simp [iL]] <;> rfl) (za9 _) (by decide) (by decide) ?_⟩
      simp -dsimp only [↓gp,gq,simprocAttr,gT,h1b,h2b,r1000000b,h3b,r3b,h8b,h9b,h10b,h11b]
      refine ⟨by kernel_rfl,fun hs=>?_,fun hs=>?_⟩
      ·obtain ⟨l,hl2⟩:=Option.isSome_iff_exists.1 hs
       rw [hl2] at hfd
       rw [← hfd,hl2]
       exact ⟨64,_,.inr (by decide),rfl,by simp -dsimp only [gr,simprocAttr]⟩
      ·have e0:fdS (nbC xs) k r (head ++ [(x:Int)]) = none:=by
        cases hx2:fdS (nbC xs) k r (head ++ [(x:Int)]) with
        | none=>rfl
        | some l=>rw [hx2] at hs;cases hs
       rw [e0] at hfd
       exact zac (x + 1) (by refine ⟨?_,?_,?_,?_,?_,?_,?_,⟨by omega,hfd⟩⟩ <;> (first | (simp -dsimp only [gr,simprocAttr,h1a,h2a,r1000000a,h3a,r3a,h8a,h9a,h1b,h2b,r1000000b,h3b,r3b,h8b,h9b,h10b,h11b,zaa hx (by omega)];first | done | rfl | (simp;done)) | assumption | rfl)) (by first | omega | (simp only;omega) | (dsimp only;omega) | (show _ < _;simp;omega))
   ·rw [show k - x = 0 by omega,fdL] at hfd
    rw [← hfd]
    exact ⟨69,_,.inr (by decide),rfl,by simp -dsimp only [gr,simprocAttr];rfl⟩
theorem zgf (n:Int) (xs:List Int) (k:Int):AC Tryz.prog 183 [.ag [int n,zax xs],int k] (.tup [.fr 3 1 (iL ((fcO n xs k).getD [])),.im (bool (fcO n xs k).isSome)]):=by
 refine AC.go (rs:=[.tmp 4,.tmp 5]) zaD mixed Tryz.func183 rfl rfl rfl (by kernel_rfl) fun hl=>?_
 simp -dsimp only [↓gp,gq,simprocAttr,gT]
 refine zab (zaE n xs) ?_
 simp -dsimp only [↓gp,gq,simprocAttr,gT]
 have hno:¬ (zaL n xs = true∧(1 ≤ k∧k ≤ 6))→[] = iL ((fcO n xs k).getD [])∧(fcO n xs k).isSome = false:=fun h=>by
  rw [show fcO n xs k = none from if_neg h];exact ⟨rfl,rfl⟩
 refine ⟨fun hc=>zab (zbY _ _ _) ?_,fun hc=>hno fun h=>by rw [h.1] at hc;cases hc⟩
 simp -dsimp only [↓gp,gq,simprocAttr,gT]
 refine ⟨fun h=>(hno fun h2=>by rw [decide_eq_true h2.2.1,decide_eq_true h2.2.2] at h;cases h),fun h=>?_⟩
 have hcx:zaL n xs = true:=by simpa using hc
 have hk:1 ≤ k∧k ≤ 6:=by simpa using h
 have hp:=zaP.1 hcx
 obtain ⟨m,rfl⟩:∃ m:Nat,n = m:=⟨n.toNat,by have:=hp.1;omega⟩
 obtain ⟨q,rfl⟩:∃ q:Nat,k = q:=⟨k.toNat,by omega⟩
 have e2:fcO (m:Int) xs q = fdS (nbC xs) q m []:=by
  unfold fcO
  rw [if_pos ⟨hcx,hk⟩,Int.toNat_natCast,Int.toNat_natCast]
 rw [e2]
 have hF:=zmB m xs q hcx (by omega) m [] (by simp)
 generalize fdS (nbC xs) q m [] = o at *
 refine zAR hF (fun _ _=>.ag (.one (.v _) (.one (.sl _ _ _) .nil)) (.one (.v _) .nil)) rfl (by simp -dsimp only [gr,simprocAttr];rfl) (za9 _) (by decide) fun S v2 r hr hSd hSr hSs hSrw=>?_
 rcases hr with rfl | rfl
 ·simp -dsimp only [↓gp,gq,simprocAttr,gT,hSd,hSr]
 ·simp -dsimp only [↓gp,gq,simprocAttr,gT,hSd,hSr]
theorem zlO (n:Int) (xs:List Int):-2 ≤ zdi n xs∧zdi n xs ≤ 5:=by
 by_cases hF:zjf n xs = true
 ·have:=zlZ hF;have:=zbj (zag xs);omega
 ·rw [show zdi n xs = -2 from if_neg hF];omega
noncomputable def lcF (n:Int) (xs:List Int):Nat→Int→Int
 | 0,_=>0
 | m + 1,k=>if (fcO n xs k).isSome = true then k else lcF n xs m (k + 1)
theorem zhL (n:Int) (xs:List Int):AC Tryz.prog 133 [.ag [int n,zax xs]] (.im (int (lcF n xs 6 1))):=by
 refine AC.go (rs:=[.tmp 2]) zaD mixed Tryz.func133 rfl rfl rfl (by kernel_rfl) fun hl=>?_
 simp -dsimp only [↓gp,gq,simprocAttr,gT]
 refine zah (fun (k:Nat) s=>s.sl 1 = .ref 1 1 0∧s.rw 1 = ⟨1,.box 27 [int n,zax xs]⟩∧s.sl 3 = int ((k:Int) + 1)∧(k ≤ 6∧lcF n xs (6 - k) ((k:Int) + 1) = lcF n xs 6 1)) (fun k=>6 - k) (0) (by refine ⟨?_,?_,?_,⟨Nat.zero_le _,rfl⟩⟩ <;> (first | (simp -dsimp only [gr,simprocAttr];first | done | rfl | (simp;done)) | assumption | rfl)) ?_
 intro k sa ⟨h1a,r1a,h3a,hIa⟩
 obtain ⟨hk,hlc⟩:=hIa
 simp -dsimp only [↓gp,gq,simprocAttr,gT,h1a,r1a,h3a]
 refine ⟨fun h=>?_,fun h=>?_⟩
 ·rw [show 6 - k = (6 - (k + 1)) + 1 by omega,lcF] at hlc
  refine zab (zgg n xs _) ?_
  simp -dsimp only [↓gp,gq,simprocAttr,gT,h1a,r1a,h3a]
  refine ⟨fun hs=>?_,fun hs=>?_⟩
  ·rw [if_pos hs] at hlc;exact hlc.symm
  ·rw [if_neg (by rw [hs];decide)] at hlc
   have hw:IntKind.i64.wrap ((k:Int) + 1 + 1) = ((k + 1:Nat):Int) + 1:=by rw [zai (by omega) (by omega)];omega
   have hlc2:lcF n xs (6 - (k + 1)) (((k + 1:Nat):Int) + 1) = lcF n xs 6 1:=by rw [← hlc];congr 1
   exact zac (k + 1) (by refine ⟨?_,?_,?_,⟨by omega,hlc2⟩⟩ <;> (first | (simp -dsimp only [gr,simprocAttr,h1a,r1a,h3a,hw];first | done | rfl | (simp;done)) | assumption | rfl)) (by first | omega | (simp only;omega) | (dsimp only;omega) | (show _ < _;simp;omega))
 ·rw [show 6 - k = 0 by omega,lcF] at hlc
  rw [← hlc]
theorem zhM (n:Int) (xs:List Int):AC Tryz.prog 137 [.ag [int n,zax xs]] (.im (int (lcF n xs 6 1))):=by
 refine AC.go (rs:=[.tmp 2]) zaD mixed Tryz.func137 rfl rfl rfl (by kernel_rfl) fun hl=>?_
 simp -dsimp only [↓gp,gq,simprocAttr,gT]
 refine zah (fun (k:Nat) s=>s.sl 1 = .ref 1 1 0∧s.rw 1 = ⟨1,.box 27 [int n,zax xs]⟩∧s.sl 3 = int ((k:Int) + 1)∧(k ≤ 6∧lcF n xs (6 - k) ((k:Int) + 1) = lcF n xs 6 1)) (fun k=>6 - k) (0) (by refine ⟨?_,?_,?_,⟨Nat.zero_le _,rfl⟩⟩ <;> (first | (simp -dsimp only [gr,simprocAttr];first | done | rfl | (simp;done)) | assumption | rfl)) ?_
 intro k sa ⟨h1a,r1a,h3a,hIa⟩
 obtain ⟨hk,hlc⟩:=hIa
 simp -dsimp only [↓gp,gq,simprocAttr,gT,h1a,r1a,h3a]
 refine ⟨fun h=>?_,fun h=>?_⟩
 ·rw [show 6 - k = (6 - (k + 1)) + 1 by omega,lcF] at hlc
  refine zab (zgf n xs _) ?_
  simp -dsimp only [↓gp,gq,simprocAttr,gT,h1a,r1a,h3a]
  refine ⟨fun hs=>?_,fun hs=>?_⟩
  ·rw [if_pos hs] at hlc;exact hlc.symm
  ·rw [if_neg (by rw [hs];decide)] at hlc
   have hw:IntKind.i64.wrap ((k:Int) + 1 + 1) = ((k + 1:Nat):Int) + 1:=by rw [zai (by omega) (by omega)];omega
   have hlc2:lcF n xs (6 - (k + 1)) (((k + 1:Nat):Int) + 1) = lcF n xs 6 1:=by rw [← hlc];congr 1
   exact zac (k + 1) (by refine ⟨?_,?_,?_,⟨by omega,hlc2⟩⟩ <;> (first | (simp -dsimp only [gr,simprocAttr,h1a,r1a,h3a,hw];first | done | rfl | (simp;done)) | assumption | rfl)) (by first | omega | (simp only;omega) | (dsimp only;omega) | (show _ < _;simp;omega))
 ·rw [show 6 - k = 0 by omega,lcF] at hlc
  rw [← hlc]
noncomputable def zDw (n:Int) (xs:List Int):Bool:=zjf n xs && decide (lcF n xs 6 1 = max (zdi n xs + 1) 1)
theorem ziu (n:Int) (xs:List Int):AC Tryz.prog 70 [.ag [int n,zax xs]] (.im (bool (zDw n xs))):=by
 refine AC.go (rs:=[.tmp 2]) zaD mixed Tryz.func70 rfl rfl rfl (by kernel_rfl) fun hl=>?_
 simp -dsimp only [↓gp,gq,simprocAttr,gT]
 refine zab (zaq n xs) ?_
 simp -dsimp only [↓gp,gq,simprocAttr,gT]
 unfold zDw
 refine ⟨fun hc=>⟨fun h0=>?_,fun h0=>⟨by kernel_rfl,zab (zhL n xs) ?_⟩⟩,fun hc=>?_⟩
 ·rw [show zjf n xs = false from Bool.eq_false_iff.2 fun h=>by have:=(zbz.1 h).2;have:=beq_iff_eq.1 h0;omega];rfl
 ·have hF:zjf n xs = true:=zbz.2 ⟨by simpa using hc,Nat.pos_of_ne_zero fun e=>by rw [e] at h0;cases h0⟩
  rw [hF,Bool.true_and]
  have hd:=zlO n xs
  have hw:IntKind.i64.wrap (zdi n xs + 1) = zdi n xs + 1:=zai (by omega) (by omega)
  simp -dsimp only [↓gp,gq,simprocAttr,gT]
  refine zab (zdc n xs) ?_
  simp -dsimp only [↓gp,gq,simprocAttr,gT,hw]
  first
   | done
   | (rw [Bool.eq_iff_iff,decide_eq_true_iff,beq_iff_eq]
      split <;> omega)
   | trace_state
 ·rw [show zjf n xs = false from Bool.eq_false_iff.2 fun h=>by have:=(zbz.1 h).1;rw [this] at hc;cases hc];rfl
theorem ziv (n:Int) (xs:List Int):AC Tryz.prog 78 [.ag [int n,zax xs]] (.im (bool (zDw n xs))):=by
 refine AC.go (rs:=[.tmp 2]) zaD mixed Tryz.func78 rfl rfl rfl (by kernel_rfl) fun hl=>?_
 simp -dsimp only [↓gp,gq,simprocAttr,gT]
 refine ⟨by kernel_rfl,zab (zbH n xs) ?_⟩
 simp -dsimp only [↓gp,gq,simprocAttr,gT]
 unfold zDw
 refine ⟨fun h=>zab (zhM n xs) ?_,fun h=>?_⟩
 ·have hF:zjf n xs = true:=Classical.byContradiction fun hc=>by rw [show zdi n xs = -2 from if_neg hc] at h;omega
  rw [hF,Bool.true_and]
  have hd:=zlO n xs
  have hw:IntKind.i64.wrap (zdi n xs + 1) = zdi n xs + 1:=zai (by omega) (by omega)
  simp -dsimp only [↓gp,gq,simprocAttr,gT]
  refine zab (zbH n xs) ?_
  simp -dsimp only [↓gp,gq,simprocAttr,gT,hw]
  refine zab (zpH _ _) ?_
  simp -dsimp only [↓gp,gq,simprocAttr,gT,hw]
  first
   | done
   | (rw [Bool.eq_iff_iff,decide_eq_true_iff,beq_iff_eq]
      omega)
   | trace_state
 ·rw [show zjf n xs = false from Bool.eq_false_iff.2 fun hF=>by have:=zlZ hF;obtain ⟨_,_,_,_,_,h0,_⟩:=zke hF;have e1:0 < za8 (zag xs):=(by have:=zeP 64 0 (by decide) h0;unfold za8;omega);omega];rfl
theorem zCj {f:Nat→Bool} {l1 l2:List Nat} {s:Nat} (h:zbb f = l1 ++ s :: l2):(∃ t,t ∈ l2∧s &&& t = s) ↔ zdw f true s = false:=by
 have hpw:=zo7 f
 rw [h,List.pairwise_append] at hpw
 have hp2:=List.pairwise_cons.1 hpw.2.1
 have hs:s < 64∧f s = true:=zaU.1 (by rw [h];simp)
 constructor
 ·rintro ⟨t,ht,hst⟩
  have hm:t < 64∧f t = true:=zaU.1 (by rw [h];simp [ht])
  cases hx:zdw f true s with
  | false=>rfl
  | true =>
    have:=zdb.1 hx t hm.1 hm.2 hst
    subst this
    exact absurd (hp2.1 t ht) zeI
 ·intro hx
  have:¬ ∀ t,t < 64→f t = true→s &&& t = s→t = s:=fun h=>by rw [zdb.2 h] at hx;cases hx
  obtain ⟨t,ht⟩:=Classical.not_forall.1 this
  have h1:t < 64:=Classical.byContradiction fun h=>ht fun h2=>absurd h2 h
  have h2:f t = true:=Classical.byContradiction fun h=>ht fun _ h2=>absurd h2 h
  have h3:s &&& t = s:=Classical.byContradiction fun h=>ht fun _ _ h2=>absurd h2 h
  have h4:t ≠ s:=fun e=>ht fun _ _ _=>e
  have hlt:=zfH h1 hs.1 h3 (Ne.symm h4)
  have hm:t ∈ l1 ++ s :: l2:=h ▸ zaU.2 ⟨h1,h2⟩
  rcases List.mem_append.1 hm with hm | hm
  ·have:=hpw.2.2 t hm s (by simp)
   unfold zsJ at this
   omega
  ·rcases List.mem_cons.1 hm with hm | hm
   ·exact absurd hm h4
   ·exact ⟨t,hm,h3⟩
theorem zck (G:Nat) (hG:G < 18446744073709551616):AC Tryz.prog 166 [u64 G] (.fr 3 1 (iL (ofN (zd9 G.testBit true)))):=by
 refine AC.go (rs:=[.tmp 2]) zaD mixed Tryz.func166 rfl rfl rfl (by kernel_rfl) fun hl=>?_
 simp -dsimp only [↓gp,gq,simprocAttr,gT]
 refine zab (zeN G hG) ?_
 simp -dsimp only [↓gp,gq,simprocAttr,gT,zad]
 have hfull:=zcJ G.testBit
 have hmem:∀ k,k < (zbb G.testBit).length→(zbb G.testBit).getD k 0 < 64:=fun k hk=>(zaU.1 (zaj 0 hk)).1
 have hmax:∀ k,k < (zbb G.testBit).length→((∃ t,t ∈ (zbb G.testBit).drop (k + 1)∧(zbb G.testBit).getD k 0 &&& t = (zbb G.testBit).getD k 0) ↔ zdw G.testBit true ((zbb G.testBit).getD k 0) = false):=fun k hk=>zCj (zwv hk)
 unfold zd9
 generalize zbb G.testBit = all at *
 refine zah (fun (za:Nat × Nat × Bool) s=>match za with | (k,v,fz)=>s.sl 3 = .own 11 1∧s.rw 11 = ⟨1,.sli 3 1 fz (iL (ofN all))⟩∧s.sl 4 = .own 4 v∧s.rw 4 = ⟨v,.sli 3 1 false (iL (ofN ((all.take k).filter (zdw G.testBit true))))⟩∧s.sl 12 = .own 11 1∧s.sl 13 = int all.length∧s.sl 14 = int k∧(k ≤ all.length)) (fun (k,v,fz)=>all.length - k) ((0,1,false)) (by refine ⟨?_,?_,?_,?_,?_,?_,?_,by simp⟩ <;> (first | (simp -dsimp only [gr,simprocAttr,zad];first | done | rfl | (simp;done)) | assumption | rfl)) ?_
 intro (k,v,fz) sa ⟨h3a,r11a,h4a,r4a,h12a,h13a,h14a,hIa⟩
 have hflen:((all.take k).filter (zdw G.testBit true)).length ≤ k:=Nat.le_trans zpm (by simp;omega)
 by_cases hk:k < all.length
 ·have hs:=hmem k hk
  have hge:(ofN all).getD k 0 = ((all.getD k 0:Nat):Int):=zaG hk
  have hwk:=zaa hk (by omega)
  have hdrop:∀ j,j < (all.drop (k + 1)).length→((all.drop (k + 1)).getD j 0) < 64∧(ofN (all.drop (k + 1))).getD j 0 = (((all.drop (k + 1)).getD j 0:Nat):Int):=fun j hj=>⟨by
   have hm:=List.mem_of_mem_drop (zaj 0 hj)
   obtain ⟨i,hi,e⟩:=zaR 0 hm
   rw [← e];exact hmem i hi,zaG hj⟩
  have hdl:(all.drop (k + 1)).length ≤ 448:=by simp;omega
  have hsub:∀ j,j < (all.drop (k + 1)).length→(zco .i64 (all.getD k 0:Nat) ((ofN (all.drop (k + 1))).getD j 0) = 0 ↔ all.getD k 0 &&& (all.drop (k + 1)).getD j 0 = all.getD k 0):=fun j hj=>by
   have hd:=hdrop j hj
   rw [hd.2,zbi (by omega) (by omega),← zb2]
   omega
  have hofd:(ofN all).drop (k + 1) = ofN (all.drop (k + 1)):=by unfold ofN;rw [List.map_drop]
  have hmk:=hmax k hk
  have hyes:zdw G.testBit true (all.getD k 0) = true→ofN ((all.take (k + 1)).filter (zdw G.testBit true)) = ofN ((all.take k).filter (zdw G.testBit true)) ++ [((all.getD k 0:Nat):Int)]:=fun h=>by rw [zhR hk h,zaS,zdE]
  have hno:zdw G.testBit true (all.getD k 0) = false→ofN ((all.take (k + 1)).filter (zdw G.testBit true)) = ofN ((all.take k).filter (zdw G.testBit true)):=fun h=>by rw [zlU hk h]
  cases fz with
  | false =>
    simp -dsimp only [↓gp,gq,simprocAttr,gT,h3a,r11a,h4a,r4a,h12a,h13a,h14a,zad,hge,hwk,Int.toNat_natCast,hofd]
    refine ⟨fun _=>⟨hk,hk,by omega,?_⟩,fun h=>absurd hk h⟩
    refine zah (fun (j:Nat) s=>s.sl 3 = .own 11 1∧s.rw 11 = ⟨1,.sli 3 1 true (iL (ofN all))⟩∧s.sl 4 = .own 4 v∧s.rw 4 = ⟨v,.sli 3 1 false (iL (ofN ((all.take k).filter (zdw G.testBit true))))⟩∧s.sl 12 = .own 11 1∧s.sl 13 = int all.length∧s.sl 14 = int k∧s.sl 6 = int (all.getD k 0:Nat)∧s.sl 7 = .v (.bool false)∧s.sl 22 = .sl true 1 (iL (ofN (all.drop (k + 1))))∧s.sl 23 = int (all.drop (k + 1)).length∧s.sl 24 = int j∧(j ≤ (all.drop (k + 1)).length∧∀ i,i < j→all.getD k 0 &&& (all.drop (k + 1)).getD i 0 ≠ all.getD k 0)) (fun j=>(all.drop (k + 1)).length - j) (0) (by refine ⟨?_,?_,?_,?_,?_,?_,?_,?_,?_,?_,?_,?_,by simp⟩ <;> (first | (simp -dsimp only [gr,simprocAttr,h3a,r11a,h4a,r4a,h12a,h13a,h14a,zad,hge,hwk,hofd];first | done | rfl | (simp;done)) | assumption | rfl)) ?_
    intro j sb ⟨h3b,r11b,h4b,r4b,h12b,h13b,h14b,h6b,h7b,h22b,h23b,h24b,hIb⟩
    obtain ⟨hj,hall⟩:=hIb
    simp -dsimp only [↓gp,gq,simprocAttr,gT,h3b,r11b,h4b,r4b,h12b,h13b,h14b,h6b,h7b,h22b,h23b,h24b,zad,hge,hwk]
    refine ⟨fun h2=>⟨h2,h2,fun he=>?_,fun he=>?_⟩,fun h2=>?_⟩
    ·have hm:=(hsub j h2).1 (by simpa using he)
     have hx:=hmk.1 ⟨_,zaj 0 h2,hm⟩
     have e:=hno hx
     exact zac ((k + 1,v,true)) (by refine ⟨?_,?_,?_,?_,?_,?_,?_,by dsimp only;omega⟩ <;> (first | (simp -dsimp only [gr,simprocAttr,h3a,r11a,h4a,r4a,h12a,h13a,h14a,h3b,r11b,h4b,r4b,h12b,h13b,h14b,h6b,h7b,h22b,h23b,h24b,hwk,e];first | done | rfl | (simp;done)) | assumption | rfl)) (by first | omega | (simp only;omega) | (dsimp only;omega) | (show _ < _;simp;omega))
    ·have hm:¬ all.getD k 0 &&& (all.drop (k + 1)).getD j 0 = all.getD k 0:=fun h=>by rw [(hsub j h2).2 h] at he;simp at he
     have hw2:=zaa h2 (by omega)
     have hall2:∀ i,i < j + 1→all.getD k 0 &&& (all.drop (k + 1)).getD i 0 ≠ all.getD k 0:=fun i hi=>by
      rcases Nat.lt_succ_iff_lt_or_eq.1 hi with hi | rfl
      ·exact hall i hi
      ·exact hm
     exact zac (j + 1) (by refine ⟨?_,?_,?_,?_,?_,?_,?_,?_,?_,?_,?_,?_,⟨by omega,hall2⟩⟩ <;> (first | (simp -dsimp only [gr,simprocAttr,h3b,r11b,h4b,r4b,h12b,h13b,h14b,h6b,h7b,h22b,h23b,h24b,hw2];first | done | rfl | (simp;done)) | assumption | rfl)) (by first | omega | (simp only;omega) | (dsimp only;omega) | (show _ < _;simp;omega))
    ·have hx:zdw G.testBit true (all.getD k 0) = true:=by
      cases hb:zdw G.testBit true (all.getD k 0) with
      | true=>rfl
      | false =>
        obtain ⟨t,ht,hst⟩:=hmk.2 hb
        obtain ⟨i,hi,rfl⟩:=zaR 0 ht
        exact absurd hst (hall i (by omega))
     have e:=hyes hx
     exact ⟨by omega,zac ((k + 1,v + 1,true)) (by refine ⟨?_,?_,?_,?_,?_,?_,?_,by dsimp only;omega⟩ <;> (first | (simp -dsimp only [gr,simprocAttr,h3a,r11a,h4a,r4a,h12a,h13a,h14a,h3b,r11b,h4b,r4b,h12b,h13b,h14b,h6b,h7b,h22b,h23b,h24b,hwk,e];first | done | rfl | (simp;done)) | assumption | rfl)) (by first | omega | (simp only;omega) | (dsimp only;omega) | (show _ < _;simp;omega))⟩
  | true =>
    simp -dsimp only [↓gp,gq,simprocAttr,gT,h3a,r11a,h4a,r4a,h12a,h13a,h14a,zad,hge,hwk,Int.toNat_natCast,hofd]
    refine ⟨fun _=>⟨hk,hk,by omega,?_⟩,fun h=>absurd hk h⟩
    refine zah (fun (j:Nat) s=>s.sl 3 = .own 11 1∧s.rw 11 = ⟨1,.sli 3 1 true (iL (ofN all))⟩∧s.sl 4 = .own 4 v∧s.rw 4 = ⟨v,.sli 3 1 false (iL (ofN ((all.take k).filter (zdw G.testBit true))))⟩∧s.sl 12 = .own 11 1∧s.sl 13 = int all.length∧s.sl 14 = int k∧s.sl 6 = int (all.getD k 0:Nat)∧s.sl 7 = .v (.bool false)∧s.sl 22 = .sl true 1 (iL (ofN (all.drop (k + 1))))∧s.sl 23 = int (all.drop (k + 1)).length∧s.sl 24 = int j∧(j ≤ (all.drop (k + 1)).length∧∀ i,i < j→all.getD k 0 &&& (all.drop (k + 1)).getD i 0 ≠ all.getD k 0)) (fun j=>(all.drop (k + 1)).length - j) (0) (by refine ⟨?_,?_,?_,?_,?_,?_,?_,?_,?_,?_,?_,?_,by simp⟩ <;> (first | (simp -dsimp only [gr,simprocAttr,h3a,r11a,h4a,r4a,h12a,h13a,h14a,zad,hge,hwk,hofd];first | done | rfl | (simp;done)) | assumption | rfl)) ?_
    intro j sb ⟨h3b,r11b,h4b,r4b,h12b,h13b,h14b,h6b,h7b,h22b,h23b,h24b,hIb⟩
    obtain ⟨hj,hall⟩:=hIb
    simp -dsimp only [↓gp,gq,simprocAttr,gT,h3b,r11b,h4b,r4b,h12b,h13b,h14b,h6b,h7b,h22b,h23b,h24b,zad,hge,hwk]
    refine ⟨fun h2=>⟨h2,h2,fun he=>?_,fun he=>?_⟩,fun h2=>?_⟩
    ·have hm:=(hsub j h2).1 (by simpa using he)
     have hx:=hmk.1 ⟨_,zaj 0 h2,hm⟩
     have e:=hno hx
     exact zac ((k + 1,v,true)) (by refine ⟨?_,?_,?_,?_,?_,?_,?_,by dsimp only;omega⟩ <;> (first | (simp -dsimp only [gr,simprocAttr,h3a,r11a,h4a,r4a,h12a,h13a,h14a,h3b,r11b,h4b,r4b,h12b,h13b,h14b,h6b,h7b,h22b,h23b,h24b,hwk,e];first | done | rfl | (simp;done)) | assumption | rfl)) (by first | omega | (simp only;omega) | (dsimp only;omega) | (show _ < _;simp;omega))
    ·have hm:¬ all.getD k 0 &&& (all.drop (k + 1)).getD j 0 = all.getD k 0:=fun h=>by rw [(hsub j h2).2 h] at he;simp at he
     have hw2:=zaa h2 (by omega)
     have hall2:∀ i,i < j + 1→all.getD k 0 &&& (all.drop (k + 1)).getD i 0 ≠ all.getD k 0:=fun i hi=>by
      rcases Nat.lt_succ_iff_lt_or_eq.1 hi with hi | rfl
      ·exact hall i hi
      ·exact hm
     exact zac (j + 1) (by refine ⟨?_,?_,?_,?_,?_,?_,?_,?_,?_,?_,?_,?_,⟨by omega,hall2⟩⟩ <;> (first | (simp -dsimp only [gr,simprocAttr,h3b,r11b,h4b,r4b,h12b,h13b,h14b,h6b,h7b,h22b,h23b,h24b,hw2];first | done | rfl | (simp;done)) | assumption | rfl)) (by first | omega | (simp only;omega) | (dsimp only;omega) | (show _ < _;simp;omega))
    ·have hx:zdw G.testBit true (all.getD k 0) = true:=by
      cases hb:zdw G.testBit true (all.getD k 0) with
      | true=>rfl
      | false =>
        obtain ⟨t,ht,hst⟩:=hmk.2 hb
        obtain ⟨i,hi,rfl⟩:=zaR 0 ht
        exact absurd hst (hall i (by omega))
     have e:=hyes hx
     exact ⟨by omega,zac ((k + 1,v + 1,true)) (by refine ⟨?_,?_,?_,?_,?_,?_,?_,by dsimp only;omega⟩ <;> (first | (simp -dsimp only [gr,simprocAttr,h3a,r11a,h4a,r4a,h12a,h13a,h14a,h3b,r11b,h4b,r4b,h12b,h13b,h14b,h6b,h7b,h22b,h23b,h24b,hwk,e];first | done | rfl | (simp;done)) | assumption | rfl)) (by first | omega | (simp only;omega) | (dsimp only;omega) | (show _ < _;simp;omega))⟩
 ·simp -dsimp only [↓gp,gq,simprocAttr,gT,h3a,r11a,h4a,r4a,h12a,h13a,h14a,zad]
  refine ⟨fun h=>absurd h hk,fun _=>?_⟩
  have:k = all.length:=by omega
  rw [this,List.take_length]
theorem zjE (n:Int) (G:Nat) (hG:G < 18446744073709551616):AC Tryz.prog 113 [int n,u64 G] (.ag [.im (int n),.fr 3 1 (iL (ofN (zd9 G.testBit true)))]):=by
 refine AC.go (rs:=[.cell 4 27]) zaD mixed Tryz.func113 rfl rfl rfl (by kernel_rfl) fun hl=>?_
 simp -dsimp only [↓gp,gq,simprocAttr,gT]
 refine zab (zck G hG) ?_
 simp -dsimp only [↓gp,gq,simprocAttr,gT]
theorem zFP {l:List Nat} (h:l.Pairwise zsJ):l.Nodup:=h.imp fun {a b} hab e=>by subst e;exact zeI hab
theorem zKv {a b:List Nat} (ha:a.Pairwise zsJ) (hb:b.Pairwise zsJ) (h:∀ s,s ∈ a ↔ s ∈ b):a = b :=
 List.Perm.eq_of_pairwise (fun x y _ _ h1 h2=>by unfold zsJ at h1 h2;omega) ha hb ((List.perm_ext_iff_of_nodup (zFP ha) (zFP hb)).2 h)
theorem zCh {n:Int} {xs:List Int} (h:zaL n xs = true):xs = ofN (zd9 (zag xs) true):=by
 have hp:=zaP.1 h
 have hok:=zb4 h
 have e0:ofN (xs.map Int.toNat) = xs:=by
  unfold ofN
  rw [List.map_map]
  have:∀ x ∈ xs,((fun s:Nat=>(s:Int)) ∘ Int.toNat) x = id x:=fun x hx=>by
   have:=hok x hx
   show ((x.toNat:Nat):Int) = x
   omega
  rw [List.map_congr_left this,List.map_id]
 have hpw:(xs.map Int.toNat).Pairwise zsJ:=by
  refine List.pairwise_iff_getElem.2 fun i j hi hj hij=>?_
  have hi':i < xs.length:=by simpa using hi
  have hj':j < xs.length:=by simpa using hj
  have hs:=zkh hp j i hij hj'
  rw [zcp 0 hi',zcp 0 hj'] at hs
  have a:=hok _ (List.getElem_mem hi')
  have b:=hok _ (List.getElem_mem hj')
  rw [List.getElem_map,List.getElem_map]
  generalize xs[i] = x at *
  generalize xs[j] = y at *
  unfold zmQ at hs
  rw [zc1 a,zc1 b] at hs
  simp only [Bool.and_eq_true,decide_eq_true_iff] at hs
  obtain ⟨_,_,hs⟩:=hs
  unfold zsJ
  split at hs
  ·rw [decide_eq_true_iff] at hs;omega
  ·rw [decide_eq_true_iff] at hs;omega
 have key:xs.map Int.toNat = zd9 (zag xs) true:=by
  refine zKv hpw (zBB _ _) fun s=>?_
  rw [zhW]
  have hfb:∀ t,zag xs t = true ↔ ∃ x ∈ xs,x.toNat &&& t = t:=fun t=>by
   unfold zag;rw [List.any_eq_true]
   exact ⟨fun ⟨x,h1,h2⟩=>⟨x,h1,by simpa using h2⟩,fun ⟨x,h1,h2⟩=>⟨x,h1,by simpa using h2⟩⟩
  have hinc:∀ x ∈ xs,∀ y ∈ xs,x.toNat &&& y.toNat = x.toNat→x = y:=fun x hx y hy hxy=>by
   obtain ⟨i,hi,rfl⟩:=zaR 0 hx
   obtain ⟨j,hj,rfl⟩:=zaR 0 hy
   rcases Nat.lt_trichotomy i j with hij | hij | hij
   ·have:=(hp.2.2 j hj).2.2 i hij
    have a:=hok _ (zaj 0 hi)
    have b:=hok _ (zaj 0 hj)
    refine absurd ?_ this
    have e1:xs.getD i 0 = (((xs.getD i 0).toNat:Nat):Int):=by omega
    have e2:xs.getD j 0 = (((xs.getD j 0).toNat:Nat):Int):=by omega
    rw [e1,e2,zbc (by omega) (by omega),hxy]
   ·rw [hij]
   ·have hs:=zkh hp i j hij hi
    have a:=hok _ (zaj 0 hi)
    have b:=hok _ (zaj 0 hj)
    by_cases hne:xs.getD i 0 = xs.getD j 0
    ·exact hne
    ·have:=zfH (s:=(xs.getD j 0).toNat) (t:=(xs.getD i 0).toNat) (by omega) (by omega) hxy (by omega)
     unfold zmQ at hs
     rw [zc1 a,zc1 b] at hs
     simp only [Bool.and_eq_true,decide_eq_true_iff] at hs
     obtain ⟨_,_,hs⟩:=hs
     split at hs
     ·rw [decide_eq_true_iff] at hs;omega
     ·rw [decide_eq_true_iff] at hs;omega
  constructor
  ·intro hs
   obtain ⟨x,hx,rfl⟩:=List.mem_map.1 hs
   have a:=hok x hx
   refine ⟨⟨by omega,(hfb _).2 ⟨x,hx,Nat.and_self _⟩⟩,zdb.2 fun t ht hft hxt=>?_⟩
   obtain ⟨y,hy,hyt⟩:=(hfb t).1 hft
   have hxy:x.toNat &&& y.toNat = x.toNat:=by
    rw [← hxt,Nat.and_assoc,Nat.and_comm t,hyt]
   have:=hinc x hx y hy hxy
   subst this
   exact hyt.symm.trans hxt
  ·rintro ⟨⟨h64,hf⟩,he⟩
   obtain ⟨y,hy,hys⟩:=(hfb s).1 hf
   have b:=hok y hy
   have:=zdb.1 he y.toNat (by omega) ((hfb _).2 ⟨y,hy,Nat.and_self _⟩) (by rw [Nat.and_comm];exact hys)
   rw [← this];exact List.mem_map.2 ⟨y,hy,rfl⟩
 rw [← key,e0]
theorem zfb (n:Int) (xs:List Int) (c:Nat) (hc:c < 64):AC Tryz.prog 117 [.ag [int n,zax xs],int c] (.ag [.im (int n),.fr 3 1 (iL (ofN (zd9 (rmF (zbh n xs) c) true)))]):=by
 refine AC.go (rs:=[.cell 4 27]) zaD mixed Tryz.func117 rfl rfl rfl (by kernel_rfl) fun hl=>?_
 simp -dsimp only [↓gp,gq,simprocAttr,gT]
 refine zab (zcf n xs) ?_
 have hol:=zad (zbb (zbh n xs))
 have holen:=zcJ (zbh n xs)
 have hmem:=fun i (hi:i < (zbb (zbh n xs)).length)=>(zaU.1 (zaj 0 hi)).1
 have hmem2:∀ g ∈ zbb (zbh n xs),g < 64:=fun g hg=>(zaU.1 hg).1
 have hext:zd9 (inF (ofN ((zbb (zbh n xs)).filter fun t=>!(t &&& c == c)))) true = zd9 (rmF (zbh n xs) c) true:=by
  refine ziF (fun s hs=>?_) true
  rw [zlT,Bool.eq_iff_iff,decide_eq_true_iff,List.mem_filter,zaU]
  unfold rmF
  rw [Bool.and_eq_true]
  exact ⟨fun h=>⟨h.1.2,h.2⟩,fun h=>⟨⟨hs,h.1⟩,h.2⟩⟩
 rw [← hext]
 generalize zbb (zbh n xs) = all at *
 generalize hpq:(fun t:Nat=>!(t &&& c == c)) = q at *
 simp -dsimp only [↓gp,gq,simprocAttr,gT]
 refine zah (fun (za:Nat × Nat) s=>match za with | (k,v)=>s.sl 1 = int c∧s.sl 2 = .ref 2 1 0∧s.rw 2 = ⟨1,.box 27 [int n,zax xs]⟩∧s.sl 4 = .ref 4 1 0∧s.rw 4 = ⟨1,.box 27 [int 0,.v (.slice none 0 0)]⟩∧s.sl 5 = .own 8 v∧s.rw 8 = ⟨v,.sli 3 1 false (iL (ofN ((all.take k).filter q)))⟩∧s.sl 6 = .own 10 1∧s.rw 10 = ⟨1,.sli 3 1 false (iL (ofN all))⟩∧s.sl 7 = int k∧(k ≤ all.length)) (fun (k,v)=>all.length - k) ((0,1)) (by refine ⟨?_,?_,?_,?_,?_,?_,?_,?_,?_,?_,by omega⟩ <;> (first | (simp -dsimp only [gr,simprocAttr];first | done | rfl | (simp;done)) | assumption | rfl)) ?_
 intro (k,v) sa ⟨h1a,h2a,r2a,h4a,r4a,h5a,r8a,h6a,r10a,h7a,hIa⟩
 have hfl:((all.take k).filter q).length ≤ k:=Nat.le_trans (List.length_filter_le _ _) (by rw [List.length_take];omega)
 simp -dsimp only [↓gp,gq,simprocAttr,gT,h1a,h2a,r2a,h4a,r4a,h5a,r8a,h6a,r10a,h7a,hol]
 refine ⟨fun h=>?_,fun h=>?_⟩
 ·have h64:=hmem k h
  have hw:=zaa h (show all.length ≤ 9223372036854775807 by omega)
  have hst:(all.take (k + 1)).filter q = (all.take k).filter q ++ [all.getD k 0].filter q:=by rw [zau 0 h,List.filter_append]
  have hqk:(zfE .i64 ((all.getD k 0:Nat):Int) (c:Int) != (c:Int)) = q (all.getD k 0):=by
   rw [← hpq,zbc (by omega) (by omega)]
   show _ = !(all.getD k 0 &&& c == c)
   rw [Bool.eq_iff_iff,bne_iff_ne,Bool.not_eq_true',beq_eq_false_iff_ne];omega
  rw [zaG h,hqk]
  refine ⟨h,h,fun hb=>⟨h,h,by rw [zad];omega,?_⟩,fun hb=>?_⟩
  ·have e:ofN ((all.take (k + 1)).filter q) = ofN ((all.take k).filter q) ++ [((all.getD k 0:Nat):Int)]:=by rw [hst,zaS,List.filter_cons,if_pos hb,List.filter_nil];rfl
   exact zac ((k + 1,v + 1)) (by refine ⟨?_,?_,?_,?_,?_,?_,?_,?_,?_,?_,by dsimp only;omega⟩ <;> (first | (simp -dsimp only [gr,simprocAttr,h1a,h2a,r2a,h4a,r4a,h5a,r8a,h6a,r10a,h7a,hw,e];first | done | rfl | (simp;done)) | assumption | rfl)) (by first | omega | (simp only;omega) | (dsimp only;omega) | (show _ < _;simp;omega))
  ·have e:(all.take (k + 1)).filter q = (all.take k).filter q:=by rw [hst,List.filter_cons,if_neg (by rw [hb];decide),List.filter_nil,List.append_nil]
   exact zac ((k + 1,v)) (by refine ⟨?_,?_,?_,?_,?_,?_,?_,?_,?_,?_,by dsimp only;omega⟩ <;> (first | (simp -dsimp only [gr,simprocAttr,h1a,h2a,r2a,h4a,r4a,h5a,r8a,h6a,r10a,h7a,hw,e];first | done | rfl | (simp;done)) | assumption | rfl)) (by first | omega | (simp only;omega) | (dsimp only;omega) | (show _ < _;simp;omega))
 ·have e:k = all.length:=by omega
  subst e
  rw [List.take_length]
  refine zab (zhO n _ (fun x hx=>?_)) ?_
  ·obtain ⟨s,hs,rfl⟩:=List.mem_map.1 (show x ∈ (all.filter q).map fun s:Nat=>(s:Int) from hx)
   have:=hmem2 s (List.mem_filter.1 hs).1
   omega
  ·simp -dsimp only [↓gp,gq,simprocAttr,gT,h1a,h2a,r2a,h4a,r4a,h5a,r8a,h6a,r10a,h7a]
def zCi (n:Int) (f:Nat→Bool):Prop:=DnF f∧∀ s,s < 64→f s = true→s < 2 ^ n.toNat
theorem zFQ {n:Int} (h1:1 ≤ n) (h6:n ≤ 6) {f:Nat→Bool} (h:zCi n f):zaL n (ofN (zd9 f true)) = true:=by
 have:=zFG (m:=n.toNat) (by omega) (by omega) h.2
 rwa [show ((n.toNat:Nat):Int) = n by omega] at this
theorem zHo {n:Int} (h1:1 ≤ n) (h6:n ≤ 6) {f:Nat→Bool} (h:zCi n f):∀ s,s < 64→zbh n (ofN (zd9 f true)) s = f s:=fun s hs=>by
 unfold zbh
 rw [zFQ h1 h6 h,Bool.true_and,zsp,zKm h.1 hs]
theorem zFR {n:Int} {f:Nat→Bool} (h:zCi n f) (c:Nat):zCi n (rmF f c):=⟨zLh h.1 c,fun s hs hr=>h.2 s hs (by unfold rmF at hr;rw [Bool.and_eq_true] at hr;exact hr.1)⟩
theorem zmh {n:Int} {xs:List Int} (h:zaL n xs = true):zCi n (zag xs):=by
 refine ⟨fun s t a b=>ziD a b,fun s hs hf=>?_⟩
 unfold zag at hf
 rw [List.any_eq_true] at hf
 obtain ⟨x,hx,e⟩:=hf
 have e:=beq_iff_eq.1 e
 obtain ⟨h1,h6,hk⟩:=zaP.1 h
 obtain ⟨i,hi,rfl⟩:=zaR 0 hx
 have hin:=(hk i hi).1
 unfold zcA at hin
 rw [decide_eq_true_iff] at hin
 obtain ⟨_,_,a,b⟩:=hin
 have:s ≤ (xs.getD i 0).toNat:=by rw [← e];exact Nat.and_le_left
 have e2:((2:Int) ^ n.toNat) = ((2 ^ n.toNat:Nat):Int):=by simp
 rw [e2] at b
 omega
theorem zgL (G s t:Nat) (hG:G < 18446744073709551616) (hs:s < 64) (ht:t < 64):AC Tryz.prog 227 [int t,.eref false [u64 G] 0,.eref false [int s] 0] (.im (bool (rmF G.testBit s t))):=by
 refine AC.go (rs:=[.tmp 4]) zaD mixed Tryz.func227 rfl rfl rfl (by kernel_rfl) fun hl=>?_
 have e1:zco .i64 (s:Int) (t:Int) = ((s ^^^ (s &&& t):Nat):Int):=zbi (by omega) (by omega)
 have e2:((((s ^^^ (s &&& t):Nat):Int)) != 0) = !(t &&& s == s):=by
  have:=zb2 (a:=s) (b:=t)
  rw [Nat.and_comm t s,Bool.eq_iff_iff,bne_iff_ne,Bool.not_eq_true',beq_eq_false_iff_ne]
  omega
 simp -dsimp only [↓gp,gq,simprocAttr,gT,e1,e2]
 refine zab (zbu G _ hG ht) ?_
 simp -dsimp only [↓gp,gq,simprocAttr,gT,e1,e2]
 unfold rmF
 refine ⟨fun h=>?_,fun h=>?_⟩
 ·have h:G.testBit t = true:=by simpa using h
  rw [h];rfl
 ·have h:G.testBit t = false:=by simpa using h
  rw [h];rfl
theorem zen (f:Nat→Bool) (s:Nat) (hs:s < 64):AC Tryz.prog 201 [u64 (zaB f 64:Nat),int s] (.im (u64 (zaB (rmF f s) 64:Nat))):=by
 refine AC.go (rs:=[.tmp 4]) zaD mixed Tryz.func201 rfl rfl rfl (by kernel_rfl) fun hl=>?_
 have hlt:=zbk f 64
 simp -dsimp only [↓gp,gq,simprocAttr,gT]
 refine zab (zdI 6 (by omega) _ [.eref false [u64 (zaB f 64:Nat)] 0,.eref false [int s] 0] (rmF (zaB f 64).testBit s) (fun rw=>rfl) fun t ht=>zgL _ s t (by omega) hs (by omega)) ?_
 rw [zom (w':=rmF f s) (by omega) fun t ht=>by rw [decide_eq_true (show t < 2 ^ 6 by omega),Bool.true_and];unfold rmF;rw [za6 f ht]]
 simp -dsimp only [↓gp,gq,simprocAttr,gT]
noncomputable def lkX (xs:List Int) (p:Nat):List Int:=ofN (zd9 (inF (zl5 xs (2 ^ p))) true)
noncomputable def dlX (xs:List Int) (p:Nat):List Int:=ofN (zd9 (rmF (zag xs) (2 ^ p)) true)
noncomputable def zr9 (xs:List Int) (p:Nat):Bool:=zag xs (2 ^ p) && (lkX xs p).all fun s=>!decide (s ∈ dlX xs p)
def kyX (xs:List Int):Nat:=zaB (zag xs) 64
theorem zBm (xs:List Int):kyX xs < 18446744073709551616:=by have:=zbk (zag xs) 64;unfold kyX;omega
theorem p64 {p:Nat} (hp:p < 6):2 ^ p < 64:=by have:=Nat.pow_lt_pow_right (a:=2) (by decide) hp;omega
theorem zwq {n:Int} {xs:List Int} (h:zaL n xs = true):ofN (zd9 (kyX xs).testBit true) = xs:=by
 conv=>rhs;rw [zCh h]
 exact congrArg ofN (ziF (fun s hs=>za6 (zag xs) hs) true)
theorem zlM {m:Nat} {xs:List Int} (h:zaL (m:Int) xs = true) {p:Nat} (hp:p < 6):zaL (m:Int) (lkX xs p) = true:=zBK h (p64 hp)
theorem ztv {m:Nat} {xs:List Int} (h:zaL (m:Int) xs = true) (p:Nat):zaL (m:Int) (dlX xs p) = true:=by
 obtain ⟨h1,h6,_⟩:=zaP.1 h
 exact zFQ h1 h6 (zFR (zmh h) _)
theorem ztw {m:Nat} {xs:List Int} (h:zaL (m:Int) xs = true) {p:Nat} (hp:p < 6) (t:Nat):zag (lkX xs p) t = zbx (zag xs) (2 ^ p) t:=congrFun (zDM h (p64 hp)) t
theorem ztx {m:Nat} {xs:List Int} (h:zaL (m:Int) xs = true) (p:Nat) {t:Nat} (ht:t < 64):zag (dlX xs p) t = rmF (zag xs) (2 ^ p) t:=by
 obtain ⟨h1,h6,_⟩:=zaP.1 h
 have:=zHo h1 h6 (zFR (zmh h) (2 ^ p)) t ht
 unfold zbh at this
 have e:=ztv h p
 unfold dlX at e ⊢
 rwa [e,Bool.true_and] at this
theorem zGC {m:Nat} {xs:List Int} (h:zaL (m:Int) xs = true) {p:Nat} (hp:p < 6):zaB (zbx (zag xs) (2 ^ p)) 64 = kyX (lkX xs p):=zcz fun t _=>(ztw h hp t).symm
theorem zJV {m:Nat} {xs:List Int} (h:zaL (m:Int) xs = true) (p:Nat):zaB (rmF (zag xs) (2 ^ p)) 64 = kyX (dlX xs p):=zcz fun t ht=>(ztx h p (by omega)).symm
theorem zlN {q:Int→Bool} {l:List Int} {j:Nat} (hj:j < l.length) (h:q (l.getD j 0) = false):l.all q = false:=by
 rw [List.all_eq_false]
 exact ⟨_,zaj 0 hj,by rw [h];decide⟩
theorem zje {q:Int→Bool} {l:List Int} {j:Nat} (hj:j < l.length):(l.take (j + 1)).all q = ((l.take j).all q && q (l.getD j 0)):=by
 rw [zau 0 hj,List.all_append];simp
theorem zsa (m:Nat) (xs:List Int) (p:Nat) (h:zaL (m:Int) xs = true) (hp:p < 6):AC Tryz.prog 200 [u64 (kyX xs),int p] (.im (bool (zr9 xs p))):=by
 refine AC.go (rs:=[.tmp 4]) zaD mixed Tryz.func200 rfl rfl rfl (by kernel_rfl) fun hl=>?_
 have hb:=p64 hp
 have hky:=zBm xs
 have hun:IntKind.u64.wrap (p:Int) = (p:Int):=zaV (by omega)
 have hsh:zip .i64 1 (p:Int) = ((2 ^ p:Nat):Int):=zbf (by omega)
 have hf:(kyX xs).testBit (2 ^ p) = zag xs (2 ^ p):=za6 _ hb
 simp -dsimp only [↓gp,gq,simprocAttr,gT,hun,hsh]
 refine zab (zbu (kyX xs) _ hky hb) ?_
 rw [hf]
 simp -dsimp only [↓gp,gq,simprocAttr,gT,hun,hsh]
 unfold zr9
 refine ⟨fun h0=>?_,fun h0=>zab (zen (zag xs) _ hb) ?_⟩
 ·have h0:zag xs (2 ^ p) = false:=by simpa using h0
  rw [h0];rfl
 have h0:zag xs (2 ^ p) = true:=by simpa using h0
 rw [zJV h,h0,Bool.true_and]
 simp -dsimp only [↓gp,gq,simprocAttr,gT]
 refine zab (zck _ (zBm _)) ?_
 rw [zwq (ztv h p)]
 simp -dsimp only [↓gp,gq,simprocAttr,gT]
 refine zab (zdr (zag xs) _ hb) ?_
 rw [zGC h hp]
 simp -dsimp only [↓gp,gq,simprocAttr,gT]
 refine zab (zck _ (zBm _)) ?_
 rw [zwq (zlM h hp)]
 have hLl:=zdZ (zlM h hp)
 generalize lkX xs p = L at *
 generalize dlX xs p = D at *
 simp -dsimp only [↓gp,gq,simprocAttr,gT]
 refine zah (fun (j:Nat) s=>s.sl 6 = .own 19 1∧s.rw 19 = ⟨1,.sli 3 1 false (iL D)⟩∧s.sl 23 = .own 23 1∧s.rw 23 = ⟨1,.sli 3 1 false (iL L)⟩∧s.sl 24 = int L.length∧s.sl 25 = int j∧(j ≤ L.length∧(L.take j).all (fun s=>!decide (s ∈ D)) = true)) (fun j=>L.length - j) (0) (by refine ⟨?_,?_,?_,?_,?_,?_,⟨Nat.zero_le _,rfl⟩⟩ <;> (first | (simp -dsimp only [gr,simprocAttr];first | done | rfl | (simp;done)) | assumption | rfl)) ?_
 intro j sa ⟨h6a,r19a,h23a,r23a,h24a,h25a,hIa⟩
 obtain ⟨hj,hall⟩:=hIa
 simp -dsimp only [↓gp,gq,simprocAttr,gT,h6a,r19a,h23a,r23a,h24a,h25a]
 refine ⟨fun h1=>⟨h1,h1,zab (zh9 _ _) ?_⟩,fun h1=>?_⟩
 ·simp -dsimp only [↓gp,gq,simprocAttr,gT,h6a,r19a,h23a,r23a,h24a,h25a]
  refine ⟨fun h2=>?_,fun h2=>?_⟩
  ·rw [zlN h1 (by rw [decide_eq_true h2];rfl)]
  ·exact zac (j + 1) (by refine ⟨?_,?_,?_,?_,?_,?_,⟨by omega,by rw [zje h1,hall,decide_eq_false h2];rfl⟩⟩ <;> (first | (simp -dsimp only [gr,simprocAttr,h6a,r19a,h23a,r23a,h24a,h25a,zaa h1 (by omega)];first | done | rfl | (simp;done)) | assumption | rfl)) (by first | omega | (simp only;omega) | (dsimp only;omega) | (show _ < _;simp;omega))
 ·rw [show L.take j = L from List.take_of_length_le (by omega)] at hall
  rw [hall]
theorem zit (m:Nat) (xs:List Int) (p:Nat) (h:zaL (m:Int) xs = true) (hp:p < m):AC Tryz.prog 206 [.ag [int m,zax xs],int p] (.im (bool (zr9 xs p))):=by
 refine AC.go (rs:=[.tmp 4]) zaD mixed Tryz.func206 rfl rfl rfl (by kernel_rfl) fun hl=>?_
 obtain ⟨h1,h6,_⟩:=zaP.1 h
 have hp6:p < 6:=by omega
 have hb:=p64 hp6
 have hun:IntKind.u64.wrap (p:Int) = (p:Int):=zaV (by omega)
 have hsh:zip .i64 1 (p:Int) = ((2 ^ p:Nat):Int):=zbf (by omega)
 have hw:IntKind.i64.wrap ((m:Int) - 1) = (m:Int) - 1:=zai (by omega) (by omega)
 have hok:=zb4 h
 simp -dsimp only [↓gp,gq,simprocAttr,gT]
 refine zab (zaE m xs) ?_
 have hin:(decide ((0:Int) ≤ (p:Int)) && decide ((p:Int) ≤ (m:Int) - 1)) = true:=by
  rw [Bool.and_eq_true,decide_eq_true_iff,decide_eq_true_iff];omega
 simp -dsimp only [↓gp,gq,simprocAttr,gT,h,hw]
 refine zab (zbY _ _ _) ?_
 rw [hin]
 simp -dsimp only [↓gp,gq,simprocAttr,gT,h,hw,hun,hsh]
 refine zab (zdd m xs _ hok hb) ?_
 simp -dsimp only [↓gp,gq,simprocAttr,gT,h,hw,hun,hsh]
 unfold zr9
 refine ⟨fun h0=>?_,fun h0=>?_⟩
 ·have h0:zag xs (2 ^ p) = false:=by simpa using h0
  rw [h0];rfl
 have h0:zag xs (2 ^ p) = true:=by simpa using h0
 have hxl:=zdZ h
 rw [h0,Bool.true_and]
 refine zab (zds m xs _ hb hok (by omega)) ?_
 simp -dsimp only [↓gp,gq,simprocAttr,gT,h,hw,hun,hsh]
 refine zab (zfb m xs _ hb) ?_
 have hfac:zbh (m:Int) xs = zag xs:=by funext t;unfold zbh;rw [h,Bool.true_and]
 rw [hfac]
 have hLl:=zdZ (zlM h hp6)
 simp -dsimp only [↓gp,gq,simprocAttr,gT,h,hw,hun,hsh]
 have eL:ofN (zd9 (inF (zl5 xs (2 ^ p))) true) = lkX xs p:=rfl
 have eD:ofN (zd9 (rmF (zag xs) (2 ^ p)) true) = dlX xs p:=rfl
 rw [eL,eD]
 generalize lkX xs p = L at *
 generalize dlX xs p = D at *
 refine zah (fun (j:Nat) s=>s.sl 5 = .ref 5 1 0∧s.rw 5 = ⟨1,.box 27 [int m,.own 31 1]⟩∧s.rw 31 = ⟨1,.sli 3 1 false (iL L)⟩∧s.sl 6 = .ref 6 1 0∧s.rw 6 = ⟨1,.box 27 [int m,.own 36 1]⟩∧s.rw 36 = ⟨1,.sli 3 1 false (iL D)⟩∧s.sl 7 = int j∧(j ≤ L.length∧(L.take j).all (fun s=>!decide (s ∈ D)) = true)) (fun j=>L.length - j) (0) (by refine ⟨?_,?_,?_,?_,?_,?_,?_,⟨Nat.zero_le _,rfl⟩⟩ <;> (first | (simp -dsimp only [gr,simprocAttr];first | done | rfl | (simp;done)) | assumption | rfl)) ?_
 intro j sa ⟨h5a,r5a,r31a,h6a,r6a,r36a,h7a,hIa⟩
 obtain ⟨hj,hall⟩:=hIa
 simp -dsimp only [↓gp,gq,simprocAttr,gT,h5a,r5a,r31a,h6a,r6a,r36a,h7a]
 refine ⟨fun h1=>?_,fun h1=>?_⟩
 ·refine ⟨by kernel_rfl,h1,h1,zab (zdN _ _) ?_⟩
  simp -dsimp only [↓gp,gq,simprocAttr,gT,h5a,r5a,r31a,h6a,r6a,r36a,h7a]
  refine ⟨fun h2=>?_,fun h2=>?_⟩
  ·rw [zlN h1 (by rw [decide_eq_true h2];rfl)]
  ·exact zac (j + 1) (by refine ⟨?_,?_,?_,?_,?_,?_,?_,⟨by omega,by rw [zje h1,hall,decide_eq_false h2];rfl⟩⟩ <;> (first | (simp -dsimp only [gr,simprocAttr,h5a,r5a,r31a,h6a,r6a,r36a,h7a,zaa h1 (by omega)];first | done | rfl | (simp;done)) | assumption | rfl)) (by first | omega | (simp only;omega) | (dsimp only;omega) | (show _ < _;simp;omega))
 ·rw [show L.take j = L from List.take_of_length_le (by omega)] at hall
  rw [hall]
noncomputable def usX (xs:List Int):Nat:=((List.range 6).filter fun p=>zag xs (2 ^ p)).length
noncomputable def zxH:Nat→List Int→Bool
 | 0,_=>true
 | r + 1,xs=>decide (xs.length ≤ 1) || (List.range 6).any fun p=>zr9 xs p && zxH r (lkX xs p) && zxH r (dlX xs p)
theorem zBi (r:Nat) (xs:List Int):zxH (r + 1) xs = (decide (xs.length ≤ 1) || (List.range 6).any fun p=>zr9 xs p && zxH r (lkX xs p) && zxH r (dlX xs p)):=rfl
noncomputable def zwp (xs:List Int):Bool:=zxH 7 xs
theorem ztu {a b:Nat→Bool} {p:Nat}:∀ {l:List Nat},(∀ q ∈ l,a q = true→b q = true)→p ∈ l→b p = true→a p = false→(l.filter a).length < (l.filter b).length
 | [],_,h,_,_=>by cases h
 | x :: l,h,hp,hb,ha=>by
   have hle:(l.filter a).length ≤ (l.filter b).length:=by
    have:l.filter a = (l.filter b).filter a:=by
     rw [List.filter_filter]
     refine List.filter_congr fun q hq=>?_
     have:=h q (List.mem_cons_of_mem _ hq)
     cases hh:a q
     ·rfl
     ·rw [this hh];rfl
    rw [this];exact List.length_filter_le _ _
   rcases List.mem_cons.1 hp with rfl | hp
   ·rw [List.filter_cons,List.filter_cons,if_pos hb,if_neg (by rw [ha];decide),List.length_cons];omega
   ·have ih:=ztu (fun q hq=>h q (List.mem_cons_of_mem _ hq)) hp hb ha
    have hx:=h x (by simp)
    rw [List.filter_cons,List.filter_cons]
    cases h1:a x
    ·cases h2:b x
     ·simpa using ih
     ·simp;omega
    ·rw [hx h1];simpa using ih
theorem zDt (xs:List Int):usX xs ≤ 6:=by
 have:=List.length_filter_le (fun p=>zag xs (2 ^ p)) (List.range 6)
 rw [List.length_range] at this;exact this
theorem zBj {m:Nat} {xs:List Int} (h:zaL (m:Int) xs = true) {p:Nat} (hp:p < 6) (hf:zag xs (2 ^ p) = true):usX (lkX xs p) < usX xs:=by
 refine ztu (p:=p) (fun q hq e=>?_) (List.mem_range.2 hp) hf ?_
 ·rw [ztw h hp] at e
  unfold zbx at e
  rw [Bool.and_eq_true] at e
  exact ziD e.2 (Nat.eq_of_testBit_eq fun i=>by rw [Nat.testBit_and,Nat.testBit_or];cases Nat.testBit (2 ^ q) i <;> simp)
 ·rw [ztw h hp]
  unfold zbx
  rw [Nat.and_self,show ((2 ^ p == 0) = false) from by rw [beq_eq_false_iff_ne];have:=Nat.two_pow_pos p;omega];rfl
theorem zBk {m:Nat} {xs:List Int} (h:zaL (m:Int) xs = true) {p:Nat} (hp:p < 6) (hf:zag xs (2 ^ p) = true):usX (dlX xs p) < usX xs:=by
 refine ztu (p:=p) (fun q hq e=>?_) (List.mem_range.2 hp) hf ?_
 ·rw [ztx h p (p64 (List.mem_range.1 hq))] at e
  unfold rmF at e
  rw [Bool.and_eq_true] at e
  exact e.1
 ·rw [ztx h p (p64 hp)]
  unfold rmF
  rw [Nat.and_self];simp
theorem zhJ {xs:List Int} {p:Nat} (h:zr9 xs p = true):zag xs (2 ^ p) = true:=by
 unfold zr9 at h;rw [Bool.and_eq_true] at h;exact h.1
theorem any_eq {a b:Nat→Bool} {l:List Nat} (h:∀ q ∈ l,a q = b q):l.any a = l.any b:=by
 rw [Bool.eq_iff_iff,List.any_eq_true,List.any_eq_true]
 exact ⟨fun ⟨q,hq,e⟩=>⟨q,hq,by rw [← h q hq];exact e⟩,fun ⟨q,hq,e⟩=>⟨q,hq,by rw [h q hq];exact e⟩⟩
theorem zhK (m:Nat):∀ (r:Nat) (xs:List Int),zaL (m:Int) xs = true→usX xs < r→∀ r',usX xs < r'→zxH r xs = zxH r' xs
 | 0,_,_,h,_,_=>by omega
 | r + 1,xs,hc,h,0,h'=>by omega
 | r + 1,xs,hc,h,r' + 1,h'=>by
   unfold zxH
   congr 1
   refine any_eq fun p hp=>?_
   have hp:=List.mem_range.1 hp
   cases hs:zr9 xs p
   ·rfl
   ·have hf:=zhJ hs
    have h1:=zBj hc hp hf
    have h2:=zBk hc hp hf
    rw [zhK m r _ (zlM hc hp) (by omega) r' (by omega),zhK m r _ (ztv hc p) (by omega) r' (by omega)]
noncomputable def zCD (xs:List Int) (p:Nat):Bool:=zr9 xs p && zwp (lkX xs p) && zwp (dlX xs p)
theorem zBl {m:Nat} {xs:List Int} (hc:zaL (m:Int) xs = true):zwp xs = (decide (xs.length ≤ 1) || (List.range 6).any (zCD xs)):=by
 refine (zBi 6 xs).trans (congrArg (decide (xs.length ≤ 1) || ·) (any_eq fun p hp=>?_))
 have hp:=List.mem_range.1 hp
 show (zr9 xs p && zxH 6 (lkX xs p) && zxH 6 (dlX xs p)) = (zr9 xs p && zxH 7 (lkX xs p) && zxH 7 (dlX xs p))
 cases hs:zr9 xs p
 ·simp only [Bool.false_and]
 ·have hf:=zhJ hs
  have h0:=zDt xs
  have h1:=zBj hc hp hf
  have h2:=zBk hc hp hf
  rw [zhK m 6 _ (zlM hc hp) (by omega) 7 (by omega),zhK m 6 _ (ztv hc p) (by omega) 7 (by omega)]
theorem zGB {m:Nat} {xs:List Int} (hc:zaL (m:Int) xs = true) {p:Nat} (hp:p < 6) (hm:m ≤ p):zr9 xs p = false:=by
 have hn:zag xs (2 ^ p) = false:=by
  refine Bool.eq_false_iff.2 fun hf=>?_
  have:=(zmh hc).2 _ (p64 hp) hf
  rw [Int.toNat_natCast] at this
  have:=Nat.pow_le_pow_right (show 0 < 2 by decide) hm
  omega
 unfold zr9;rw [hn];rfl
theorem zDu {m:Nat} {xs:List Int} (hc:zaL (m:Int) xs = true) (h:∀ p,p < m→zCD xs p = false):(List.range 6).any (zCD xs) = false:=by
 rw [List.any_eq_false]
 intro p hp
 by_cases hm:p < m
 ·rw [h p hm];decide
 ·unfold zCD;rw [zGB hc (List.mem_range.1 hp) (by omega)];simp
theorem zlL (m r:Nat) (ih:∀ xs,zaL (m:Int) xs = true→usX xs < r→AC Tryz.prog 134 [.ag [int m,zax xs]] (.im (bool (zwp xs)))) (xs:List Int) (p:Nat) (h:zaL (m:Int) xs = true) (hu:usX xs < r + 1) (hp:p < m):AC Tryz.prog 180 [.ag [int m,zax xs],int p] (.im (bool (zCD xs p))):=by
 refine AC.go (rs:=[.tmp 4]) zaD mixed Tryz.func180 rfl rfl rfl (by kernel_rfl) fun hl=>?_
 obtain ⟨h1,h6,_⟩:=zaP.1 h
 have hp6:p < 6:=by omega
 have hb:=p64 hp6
 have hun:IntKind.u64.wrap (p:Int) = (p:Int):=zaV (by omega)
 have hsh:zip .i64 1 (p:Int) = ((2 ^ p:Nat):Int):=zbf (by omega)
 have hok:=zb4 h
 have hxl:=zdZ h
 have hfac:zbh (m:Int) xs = zag xs:=by funext t;unfold zbh;rw [h,Bool.true_and]
 have eL:ofN (zd9 (inF (zl5 xs (2 ^ p))) true) = lkX xs p:=rfl
 have eD:ofN (zd9 (rmF (zag xs) (2 ^ p)) true) = dlX xs p:=rfl
 simp -dsimp only [↓gp,gq,simprocAttr,gT,hun,hsh]
 refine zab (zit m xs p h hp) ?_
 simp -dsimp only [↓gp,gq,simprocAttr,gT,hun,hsh]
 unfold zCD
 refine ⟨fun hs=>?_,fun hs=>?_⟩
 ·have hf:=zhJ hs
  have u1:=zBj h hp6 hf
  have u2:=zBk h hp6 hf
  refine zab (zds m xs _ hb hok (by omega)) ?_
  rw [eL]
  simp -dsimp only [↓gp,gq,simprocAttr,gT,hun,hsh]
  refine zab (ih _ (zlM h hp6) (by omega)) ?_
  rw [hs,Bool.true_and]
  simp -dsimp only [↓gp,gq,simprocAttr,gT,hun,hsh]
  refine ⟨fun hd=>?_,fun hd=>?_⟩
  ·refine zab (zfb m xs _ hb) ?_
   rw [hfac,eD]
   simp -dsimp only [↓gp,gq,simprocAttr,gT,hun,hsh]
   refine zab (ih _ (ztv h p) (by omega)) ?_
   simp -dsimp only [↓gp,gq,simprocAttr,gT]
   rw [hd];rfl
  ·rw [hd];rfl
 ·rw [hs];rfl
theorem zmA (m:Nat):∀ (r:Nat) (xs:List Int),zaL (m:Int) xs = true→usX xs < r→AC Tryz.prog 134 [.ag [int m,zax xs]] (.im (bool (zwp xs))):=by
 intro r
 induction r with
 | zero=>intro xs _ h;omega
 | succ r ih =>
   intro xs h hu
   refine AC.go (rs:=[.tmp 2]) zaD mixed Tryz.func134 rfl rfl rfl (by kernel_rfl) fun hl=>?_
   obtain ⟨h1,h6,_⟩:=zaP.1 h
   have hde:=zBl h
   simp -dsimp only [↓gp,gq,simprocAttr,gT]
   refine ⟨fun h0=>?_,fun h0=>?_⟩
   ·rw [hde,decide_eq_true (show xs.length ≤ 1 by omega)];rfl
   rw [decide_eq_false (show ¬ xs.length ≤ 1 by omega),Bool.false_or] at hde
   refine zah (fun (j:Nat) s=>s.sl 1 = .ref 1 1 0∧s.rw 1 = ⟨1,.box 27 [int m,zax xs]⟩∧s.sl 3 = int j∧(j ≤ m∧∀ p,p < j→zCD xs p = false)) (fun j=>m - j) (0) (by refine ⟨?_,?_,?_,⟨Nat.zero_le _,fun p hp=>absurd hp (Nat.not_lt_zero p)⟩⟩ <;> (first | (simp -dsimp only [gr,simprocAttr];first | done | rfl | (simp;done)) | assumption | rfl)) ?_
   intro j sa ⟨h1a,r1a,h3a,hIa⟩
   obtain ⟨hj,hall⟩:=hIa
   simp -dsimp only [↓gp,gq,simprocAttr,gT,h1a,r1a,h3a]
   refine ⟨fun h2=>?_,fun h2=>?_⟩
   ·refine zab (zlL m r ih xs j h hu h2) ?_
    simp -dsimp only [↓gp,gq,simprocAttr,gT,h1a,r1a,h3a]
    refine ⟨fun h3=>?_,fun h3=>?_⟩
    ·rw [hde,List.any_eq_true]
     exact ⟨j,List.mem_range.2 (by omega),h3⟩
    ·exact zac (j + 1) (by refine ⟨?_,?_,?_,⟨by omega,fun p hp=>by
      rcases Nat.lt_succ_iff_lt_or_eq.1 hp with hp | rfl
      ·exact hall p hp
      ·exact h3⟩⟩ <;> (first | (simp -dsimp only [gr,simprocAttr,h1a,r1a,h3a,zaa h2 (by omega)];first | done | rfl | (simp;done)) | assumption | rfl)) (by first | omega | (simp only;omega) | (dsimp only;omega) | (show _ < _;simp;omega))
   ·rw [hde,zDu h fun p hp=>hall p (by omega)]
noncomputable def zDv (n:Int) (xs:List Int):Bool:=zaL n xs && zwp xs
theorem zfJ (n:Int) (xs:List Int):AC Tryz.prog 74 [.ag [int n,zax xs]] (.im (bool (zDv n xs))):=by
 refine AC.go (rs:=[.tmp 2]) zaD mixed Tryz.func74 rfl rfl rfl (by kernel_rfl) fun hl=>?_
 simp -dsimp only [↓gp,gq,simprocAttr,gT]
 refine zab (zaE n xs) ?_
 simp -dsimp only [↓gp,gq,simprocAttr,gT]
 unfold zDv
 refine ⟨fun h=>?_,fun h=>?_⟩
 ·obtain ⟨h1,h6,_⟩:=zaP.1 h
  obtain ⟨m,rfl⟩:∃ m:Nat,n = m:=⟨n.toNat,by omega⟩
  have:=zDt xs
  refine zab (zmA m 7 xs h (by omega)) ?_
  simp -dsimp only [↓gp,gq,simprocAttr,gT]
  rw [h];rfl
 ·rw [h];rfl
abbrev Mf:=Int→Int
def mpR (g:Mf) (i:Nat):Row:=if i = 1000000 then ⟨1,.mp g⟩ else ⟨0,.dead⟩
theorem zjd (g:Mf):mpR g 1000000 = ⟨1,.mp g⟩:=if_pos rfl
theorem zBd (g:Mf) {i:Nat} (h:i ≠ 1000000):mpR g i = ⟨0,.dead⟩:=if_neg h
theorem zBe {g:Mf} {i:Nat} (h:(mpR g i).kind.nd = true):i = 1000000:=Classical.byContradiction fun e=>by rw [zBd g e] at h;cases h
def zoc (x:Bool × Mf) (R1:Nat→Row) (p:PV):Prop:=p = bool x.1∧R1 1000000 = ⟨1,.mp x.2⟩
def zBf (k a:Nat):Option Nat:=if a = 1000000 then some k else none
theorem zpg (k:Nat):zBf k 1000000 = some k:=if_pos rfl
theorem zem {k a x:Nat} (h:zBf k a = some x):a = 1000000∧x = k:=by
 unfold zBf at h
 split at h
 ·cases h;exact ⟨‹_›,rfl⟩
 ·cases h
theorem zhI {rho:Nat→Option Nat} {Ln:Nat→Prop} {R0 R:Nat→Row}:∀ {l:List PV},zbM l→GvL rho Ln R0 R l l
 | [],_=>.nil
 | p :: l,h=>by
   have hp:=h p (by simp)
   cases p <;> first | exact .one (.v _) (zhI fun q hq=>h q (by simp [hq])) | (simp [isV] at hp)
theorem zJU [zae] {s:St} {K:St→Prop} {f:FuncId} {args:List PV} {d k v:Nat} {g:Mf} {x:Bool × Mf} (hc:AG Tryz.prog f (.ag [.own 1000000 1] :: args) (mpR g) (zoc x)) (hp:zbM args) (hk:s.rw k = ⟨v,.mp g⟩)
 (hK:K ((s.row k ⟨v,.mp x.2⟩).put (some d) (bool x.1))):askG Tryz.prog s f (.ag [.own k v] :: args) (some d) K:=by
 refine ⟨_,_,_,zBf k,fun _=>False,hc,.ag (.one (.own (zpg k) (by rw [zjd]) (by rw [hk]) (by rw [zjd];rfl)) .nil) (zhI hp),⟨fun a ha=>?_,fun a b j ha hb _ _=>(zBe ha).trans (zBe hb).symm,fun _ _ _ _ h=>h⟩,fun R1 p ⟨e1,e2⟩=>?_⟩
 ·have:=zBe ha
  subst this
  exact ⟨Nat.le_refl _,by rw [zjd];exact Nat.one_pos,k,zpg k,by rw [zjd,hk];rfl⟩
 ·subst e1
  refine ⟨zBf k,fun _=>v,true,⟨fun _ _=>rfl,fun a b j ha hb=>(zem ha).1.trans (zem hb).1.symm,fun a j ha _ _=>?_,fun a j ha hn=>?_,fun _ _ h=>h⟩,fun S hS=>?_⟩
  ·rw [(zem ha).2,hk]
  ·have:=(zem ha).1
   subst this
   exact absurd (by rw [e2,zjd]) (hn (by rw [zjd];rfl))
  ·have e:S = (s.row k ⟨v,.mp x.2⟩).put (some d) (bool x.1):=by
    refine St.ext2 (fun i=>?_) fun a=>?_
    ·rw [hS.sl]
     by_cases e:i = d
     ·subst e;rw [zay,zay];rfl
     ·rw [zaO _ _ _ _ e,zaO _ _ _ _ e];rfl
    ·rw [zeY]
     by_cases e:a = k
     ·subst e;rw [zaF,hS.row 1000000 a (zpg a),e2];rfl
     ·rw [zas _ _ _ _ e]
      exact hS.off a fun b hb=>e (zem hb).2
   rw [e];exact hK
theorem zDs [zae] {s:St} {K:St→Prop} {f:FuncId} {args lents:List PV} {Ka:RV→Prop} {d k v:Nat} {g:Mf} {x:Bool × Mf} {us:Dm s} {u:Dm K} (hc:AG Tryz.prog f (.ag [.own 1000000 1] :: args) (mpR g) (zoc x)) (hp:zbM args) (hk:s.rw k = ⟨v,.mp g⟩)
 (hK:K ((s.row k ⟨v,.mp x.2⟩).put (some d) (bool x.1))):ziS Tryz.prog f lents Ka (zsO Tryz.prog f lents (.ag [.own k v] :: args) (some d) (kk s us) (kk K u)):=.inr (.inr (.inr (.inr (zJU hc hp hk hK))))
theorem zlK [zae] {s:St} {Ke:Ent→St→Prop} {f:FuncId} {args lents:List PV} {Ka:RV→Prop} {d k v:Nat} {g:Mf} {x:Bool × Mf} {us:Dm s} {u:Dm Ke} (hc:AG Tryz.prog f (.ag [.own 1000000 1] :: args) (mpR g) (zoc x)) (hp:zbM args) (hk:s.rw k = ⟨v,.mp g⟩) (hd:d % 1000 ≠ k % 1000)
 (hK:Ke ⟨[],.ids [d,k]⟩ ((s.row k ⟨v,.mp x.2⟩).put (some d) (bool x.1))):ziS Tryz.prog f lents Ka (zF1 Tryz.prog f (.ag [.own k v] :: args) d (kk s us) (kk Ke u)) :=
 zu2 (fun s' hs K' hk'=>zJU hc hp (hs.trans hk) hk') hd hK
def zBg (R1:Nat→Row) (p:PV):Prop:=∃ k v,p = .ag [.own k v]∧R1 k = ⟨v,.mp fun _=>0⟩
theorem zK7 [zae] {s:St} {K:St→Prop} {f:FuncId} {d j:Nat} (hc:AG Tryz.prog f [] (fun _=>⟨0,.dead⟩) zBg)
 (hK:K ((s.row j ⟨(s.rw j).ver + 1,.mp fun _=>0⟩).put (some d) (.ag [.own j ((s.rw j).ver + 1)]))):askG Tryz.prog s f [] (some d) K:=by
 refine ⟨_,_,_,fun _=>none,fun _=>False,hc,.nil,⟨fun _ h=>(by cases h),fun _ _ _ h=>(by cases h),fun _ _ h=>(by cases h)⟩,fun R1 p ⟨k,v,hp,hr⟩=>?_⟩
 subst hp
 have hs:∀ {a x:Nat},(if a = k then some j else none) = some x→a = k∧x = j:=fun {a x} h=>by
  split at h
  ·cases h;exact ⟨‹_›,rfl⟩
  ·cases h
 refine ⟨fun a=>if a = k then some j else none,fun _=>(s.rw j).ver + 1,true,⟨fun _ h=>(by cases h),fun a b x ha hb=>(hs ha).1.trans (hs hb).1.symm,fun _ _ _ h=>(by cases h),fun a x ha _=>by rw [(hs ha).2];exact Nat.lt_succ_self _,fun _ _ h=>h⟩,fun S hS=>?_⟩
 have e:S = (s.row j ⟨(s.rw j).ver + 1,.mp fun _=>0⟩).put (some d) (.ag [.own j ((s.rw j).ver + 1)]):=by
  refine St.ext2 (fun i=>?_) fun a=>?_
  ·rw [hS.sl]
   have hr2:zFk (fun a=>if a = k then some j else none) R1 (fun _=>(s.rw j).ver + 1) true (.ag [.own k v]) = .ag [.own j ((s.rw j).ver + 1)]:=by
    unfold zFk
    simp only [List.map_cons,List.map_nil,zwf,zeG,if_pos,hr,beq_self_eq_true]
   rw [hr2]
   by_cases e:i = d
   ·subst e;rw [zay,zay]
   ·rw [zaO _ _ _ _ e,zaO _ _ _ _ e];rfl
  ·rw [zeY]
   by_cases e:a = j
   ·subst e;rw [zaF,hS.row k a (if_pos rfl),hr];rfl
   ·rw [zas _ _ _ _ e]
    exact hS.off a fun b hb=>e (hs hb).2
 rw [e];exact hK
theorem zBh [zae] {s:St} {Ke:Ent→St→Prop} {f:FuncId} {lents:List PV} {Ka:RV→Prop} {d:Nat} (j:Nat) {us:Dm s} {u:Dm Ke} (hc:AG Tryz.prog f [] (fun _=>⟨0,.dead⟩) zBg) (hd:d % 1000 ≠ j % 1000)
 (hK:Ke ⟨[],.ids [d,j]⟩ ((s.row j ⟨(s.rw j).ver + 1,.mp fun _=>0⟩).put (some d) (.ag [.own j ((s.rw j).ver + 1)]))):ziS Tryz.prog f lents Ka (zF1 Tryz.prog f [] d (kk s us) (kk Ke u)) :=
 zu2 (fun s' hs K' hk'=>zK7 hc (j:=j) (by rw [hs];exact hk')) hd hK
end Go.Proofs.YtkledeboboplmaaGreatDoor

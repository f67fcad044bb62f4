/- DERIVED by an AI agent. -/
import Derived.Test.YtkledeboboplmaaGreatDoorQ3
import Derived.Test.YtkledeboboplmaaGreatDoorQ1
import Derived.Test.YtkledeboboplmaaGreatDoorP1
import Derived.Test.YtkledeboboplmaaGreatDoorA13
namespace Go.Proofs.YtkledeboboplmaaGreatDoor
open Go.Abs
set_option linter.unusedSimpArgs false
set_option linter.unusedVariables false
theorem zBF (a b:Int):IntKind.i64.wrap (IntKind.i64.wrap a + b) = IntKind.i64.wrap (a + b):=by
 simp [IntKind.wrap,IntKind.bits,IntKind.signed]
 omega
theorem zJ1 (m:Nat):zfE .i64 (m:Int) 1 = ((m % 2:Nat):Int):=by
 have e:zfE .i64 (m:Int) 1 = IntKind.i64.wrap (((BitVec.ofInt 64 (m:Int) &&& BitVec.ofInt 64 1).toNat:Nat):Int):=rfl
 have h1:BitVec.ofInt 64 (m:Int) = BitVec.ofNat 64 m:=by simp
 have h2:BitVec.ofInt 64 (1:Int) = BitVec.ofNat 64 1:=by decide
 have h3:(BitVec.ofNat 64 m &&& BitVec.ofNat 64 1).toNat = m % 2:=by
  rw [BitVec.toNat_and,BitVec.toNat_ofNat,BitVec.toNat_ofNat,show 1 % 2 ^ 64 = 1 by decide,Nat.and_one_is_mod]
  omega
 rw [e,h1,h2,h3,zai (by omega) (by omega)]
def pzI (s:Int):Int:=IntKind.i64.wrap ((zat s.toNat:Nat):Int)
theorem ziC {s:Int} (h:0 ≤ s∧s < 64):pzI s = (zat s.toNat:Nat):=by
 have:=zb3 (s:=s.toNat) (by omega)
 exact zai (by omega) (by omega)
theorem zgy (u:Int):AC Tryz.prog 82 [int u] (.im (int (pzI u))):=by
 refine AC.go (rs:=[.tmp 2]) zaD mixed Tryz.func82 rfl rfl rfl (by kernel_rfl) fun hl=>?_
 simp -dsimp only [↓gp,gq,simprocAttr,gT]
 by_cases hs:0 ≤ u
 ·obtain ⟨n,rfl⟩:=Int.eq_ofNat_of_zero_le hs
  have hz:int 0 = int (IntKind.i64.wrap ((0:Nat):Int)):=rfl
  refine zah (fun (za:Nat × Nat) s=>match za with | (m,a)=>s.sl 0 = int m∧s.sl 3 = int (IntKind.i64.wrap (a:Int))∧(a + zat m = zat n)) (fun (m,a)=>m) ((n,0)) (by refine ⟨?_,?_,by simp⟩ <;> (first | (simp -dsimp only [gr,simprocAttr,hz];first | done | rfl | (simp;done)) | assumption | rfl)) ?_
  intro (m,a) sa ⟨h0a,h3a,hIa⟩
  simp -dsimp only [↓gp,gq,simprocAttr,gT,h0a,h3a,zJ1,zwj,zBF]
  refine ⟨fun h1=>?_,fun h1=>?_⟩
  ·have hm0:m ≠ 0:=by omega
   have hp:=hIa
   rw [zj3 hm0] at hp
   have hw:IntKind.i64.wrap ((a:Int) + ((m % 2:Nat):Int)) = IntKind.i64.wrap ((a + m % 2:Nat):Int):=by congr 1
   exact zac ((m / 2,a + m % 2)) (by refine ⟨?_,?_,by dsimp only;omega⟩ <;> (first | (simp -dsimp only [gr,simprocAttr,h0a,h3a,hw];first | done | rfl | (simp;done)) | assumption | rfl)) (by first | omega | (simp only;omega) | (dsimp only;omega) | (show _ < _;simp;omega))
  ·have:m = 0:=by omega
   subst this
   rw [zce,Nat.add_zero] at hIa
   unfold pzI
   rw [Int.toNat_natCast,← hIa]
 ·refine zah (fun (t:Unit) s=>s.sl 0 = int u∧s.sl 3 = int 0∧(True)) (fun t=>0) (()) (by refine ⟨?_,?_,trivial⟩ <;> (first | (simp -dsimp only [gr,simprocAttr];first | done | rfl | (simp;done)) | assumption | rfl)) ?_
  intro t sa ⟨h0a,h3a,hIa⟩
  simp -dsimp only [↓gp,gq,simprocAttr,gT,h0a,h3a]
  refine ⟨fun h1=>absurd h1 (by omega),fun h1=>?_⟩
  have:u.toNat = 0:=by omega
  unfold pzI
  rw [this,zce];rfl
noncomputable def puB (n:Int) (xs:List Int):Bool:=zaL n xs && xs.all fun x=>decide (zat x.toNat = zat (xs.getD 0 0).toNat)
theorem zJ2 {n:Int} {xs:List Int} {k:Nat} (hk:k < xs.length) (h:pzI (xs.getD k 0) ≠ pzI (xs.getD 0 0)):puB n xs = false:=by
 unfold puB
 cases hc:zaL n xs with
 | false=>rfl
 | true =>
   have hok:=zb4 hc
   rw [Bool.true_and,List.all_eq_false]
   refine ⟨_,zaj 0 hk,?_⟩
   rw [ziC (hok _ (zaj 0 hk)),ziC (hok _ (zaj 0 (show 0 < xs.length by omega)))] at h
   intro e
   exact h (by have:=of_decide_eq_true e;omega)
theorem zFE {n:Int} {xs:List Int} (hc:zaL n xs = true) (h:∀ k,k < xs.length→pzI (xs.getD k 0) = pzI (xs.getD 0 0)):puB n xs = true:=by
 unfold puB
 have hok:=zb4 hc
 rw [hc,Bool.true_and,List.all_eq_true]
 intro x hx
 obtain ⟨k,hk,rfl⟩:=zaR 0 hx
 have:=h k hk
 rw [ziC (hok _ (zaj 0 hk)),ziC (hok _ (zaj 0 (show 0 < xs.length by omega)))] at this
 exact decide_eq_true (by omega)
theorem zeR (n:Int) (xs:List Int):AC Tryz.prog 72 [.ag [int n,zax xs]] (.im (bool (puB n xs))):=by
 refine AC.go (rs:=[.tmp 2]) zaD mixed Tryz.func72 rfl rfl rfl (by kernel_rfl) fun hl=>?_
 simp only [zaN,za4,and_true,zbZ,zdx,zcE,true_and] at hl
 simp -dsimp only [↓gp,gq,simprocAttr,gT]
 refine zah (fun (k:Nat) s=>s.sl 1 = .ref 1 1 0∧s.rw 1 = ⟨1,.box 27 [int n,zax xs]⟩∧s.sl 3 = int (k + 1:Nat)∧((k + 1 ≤ xs.length ∨ k = 0)∧∀ j,j < k + 1→pzI (xs.getD j 0) = pzI (xs.getD 0 0))) (fun k=>xs.length - k) (0) (by refine ⟨?_,?_,?_,⟨.inr rfl,fun j hj=>by rw [show j = 0 by omega]⟩⟩ <;> (first | (simp -dsimp only [gr,simprocAttr];first | done | rfl | (simp;done)) | assumption | rfl)) ?_
 intro k sa ⟨h1a,r1a,h3a,hIa⟩
 obtain ⟨hk,hall⟩:=hIa
 simp -dsimp only [↓gp,gq,simprocAttr,gT,h1a,r1a,h3a]
 refine ⟨fun h=>⟨by kernel_rfl,h,h,zab (zgy _) ?_⟩,fun h=>zab (zaE n xs) ?_⟩
 ·simp -dsimp only [↓gp,gq,simprocAttr,gT,h1a,r1a,h3a]
  refine ⟨by omega,by omega,zab (zgy _) ?_⟩
  simp -dsimp only [↓gp,gq,simprocAttr,gT,h1a,r1a,h3a]
  refine ⟨fun he=>?_,fun he=>?_⟩
  ·rw [zJ2 h (by simpa using he)]
  ·have he:pzI (xs.getD (k + 1) 0) = pzI (xs.getD 0 0):=by simpa using he
   exact zac (k + 1) (by refine ⟨?_,?_,?_,⟨.inl (by omega),fun j hj=>by
    by_cases e:j = k + 1
    ·rw [e];exact he
    ·exact hall j (by omega)⟩⟩ <;> (first | (simp -dsimp only [gr,simprocAttr,h1a,r1a,h3a,zaa h hl];first | done | rfl | (simp;done)) | assumption | rfl)) (by first | omega | (simp only;omega) | (dsimp only;omega) | (show _ < _;simp;omega))
 ·simp -dsimp only [↓gp,gq,simprocAttr,gT,h1a,r1a,h3a]
  cases hc:zaL n xs with
  | false=>unfold puB;rw [hc];rfl
  | true=>rw [zFE hc fun j hj=>hall j (by omega)]
theorem zeS (n:Int) (xs:List Int):AC Tryz.prog 64 [.ag [int n,zax xs]] (.im (bool (puB n xs))):=by
 refine AC.go (rs:=[.tmp 2]) zaD mixed Tryz.func64 rfl rfl rfl (by kernel_rfl) fun hl=>?_
 simp only [zaN,za4,and_true,zbZ,zdx,zcE,true_and] at hl
 simp -dsimp only [↓gp,gq,simprocAttr,gT]
 refine zab (zaq n xs) ?_
 simp -dsimp only [↓gp,gq,simprocAttr,gT]
 refine ⟨fun hc=>?_,fun hc=>?_⟩
 ·have hc:zaL n xs = false:=by simpa using hc
  unfold puB;rw [hc];rfl
 ·have hc:zaL n xs = true:=by simpa using hc
  have hok:=zb4 hc
  refine zah (fun (k:Nat) s=>s.sl 1 = .ref 1 1 0∧s.rw 1 = ⟨1,.box 27 [int n,zax xs]⟩∧s.sl 9 = zax xs∧s.sl 10 = int xs.length∧s.sl 11 = int k∧(k ≤ xs.length∧∀ j,j < k→pzI (xs.getD j 0) = pzI (xs.getD 0 0))) (fun k=>xs.length - k) (0) (by refine ⟨?_,?_,?_,?_,?_,⟨Nat.zero_le _,fun j hj=>by omega⟩⟩ <;> (first | (simp -dsimp only [gr,simprocAttr];first | done | rfl | (simp;done)) | assumption | rfl)) ?_
  intro k sa ⟨h1a,r1a,h9a,h10a,h11a,hIa⟩
  obtain ⟨hk,hall⟩:=hIa
  simp -dsimp only [↓gp,gq,simprocAttr,gT,h1a,r1a,h9a,h10a,h11a]
  refine ⟨fun h=>⟨h,h,by kernel_rfl,zab (zaA _) ?_⟩,fun h=>?_⟩
  ·have q1:=hok _ (zaj 0 h)
   have q0:=hok _ (zaj 0 (show 0 < xs.length by omega))
   simp -dsimp only [↓gp,gq,simprocAttr,gT,h1a,r1a,h9a,h10a,h11a]
   refine ⟨by omega,by omega,zab (zaA _) ?_⟩
   rw [zc1 q1,zc1 q0,← ziC q1,← ziC q0]
   simp -dsimp only [↓gp,gq,simprocAttr,gT,h1a,r1a,h9a,h10a,h11a]
   refine ⟨fun he=>?_,fun he=>?_⟩
   ·rw [zJ2 h (by simpa using he)]
   ·have he:pzI (xs.getD k 0) = pzI (xs.getD 0 0):=by simpa using he
    exact zac (k + 1) (by refine ⟨?_,?_,?_,?_,?_,⟨by omega,fun j hj=>by
     by_cases e:j = k
     ·rw [e];exact he
     ·exact hall j (by omega)⟩⟩ <;> (first | (simp -dsimp only [gr,simprocAttr,h1a,r1a,h9a,h10a,h11a,zaa h hl];first | done | rfl | (simp;done)) | assumption | rfl)) (by first | omega | (simp only;omega) | (dsimp only;omega) | (show _ < _;simp;omega))
  ·rw [zFE hc fun j hj=>hall j (by omega)]
theorem zeV {α β:Type} (f:α→Option β) {l:List α} {k:Nat} (d:α) (h:k < l.length):(l.take (k + 1)).findSome? f = ((l.take k).findSome? f).or (f (l.getD k d)):=by
 rw [zau d h,List.findSome?_append]
 simp
theorem zjj {α β:Type} (f:α→Option β) {l:List α} {k:Nat} (d:α) (h:k < l.length) (h0:(l.take k).findSome? f = none) {x:β} (h1:f (l.getD k d) = some x):l.findSome? f = some x:=by
 rw [← List.take_append_drop (k + 1) l,List.findSome?_append,zeV f d h,h0,h1];rfl
noncomputable def zKK (xs:List Int):List Nat:=(List.range 64).filter (inF xs)
noncomputable def ztX (xs:List Int):List Int:=ofN (zKK xs)
theorem zKu (xs:List Int):okL (ztX xs):=fun b hb=>by
 unfold ztX ofN at hb
 obtain ⟨s,hs,rfl⟩:=List.mem_map.1 hb
 have:=List.mem_range.1 (List.mem_filter.1 hs).1
 omega
theorem zHn (xs:List Int):(ztX xs).length ≤ 64:=by
 unfold ztX zKK
 rw [zad]
 have:=List.length_filter_le (inF xs) (List.range 64)
 rw [List.length_range] at this
 exact this
theorem zD4 {xs:List Int} (hn:xs.Nodup) (hx:okL xs):ziG xs = ztX xs:=by
 symm
 have hmem:∀ x:Int,x ∈ ztX xs ↔ x ∈ xs:=fun x=>by
  unfold ztX zKK ofN
  rw [List.mem_map]
  refine ⟨fun ⟨s,hs,e⟩=>?_,fun h=>⟨x.toNat,List.mem_filter.2 ⟨List.mem_range.2 (by have:=hx x h;omega),?_⟩,by have:=hx x h;omega⟩⟩
  ·have h2:=(List.mem_filter.1 hs).2
   unfold inF at h2
   rw [← e];exact of_decide_eq_true h2
  ·unfold inF
   have:=hx x h
   exact decide_eq_true (by rw [show ((x.toNat:Nat):Int) = x by omega];exact h)
 have hpw:(ztX xs).Pairwise (· < ·):=by
  unfold ztX zKK ofN
  refine List.Pairwise.map _ (fun a b h=>?_) (List.Pairwise.filter _ List.pairwise_lt_range)
  ·exact Int.ofNat_lt.2 h
 refine zwG ?_ (hpw.imp fun h=>Int.le_of_lt h)
 exact (List.perm_ext_iff_of_nodup (hpw.imp fun h=>Int.ne_of_lt h) hn).2 hmem
theorem zxZ (x y:Int):AC Tryz.prog 221 [int x,int y] (.im (bool (decide (x < y)))):=by
 refine AC.go (rs:=[.tmp 4]) zaD mixed Tryz.func221 rfl rfl rfl (by kernel_rfl) fun hl=>?_
 simp -dsimp only [↓gp,gq,simprocAttr,gT]
 refine zab (zsM x) ?_
 simp -dsimp only [↓gp,gq,simprocAttr,gT]
theorem zsC (n:Nat) (hn:n < 9):∃ k:Int,AC Tryz.prog 225 [u64 n] (.im (int k)):=by
 refine ⟨if n = 0 then 0 else if n < 2 then 1 else if n < 4 then 2 else if n < 8 then 3 else 4,?_⟩
 refine AC.go (rs:=[.tmp 2]) zaD mixed Tryz.func225 rfl rfl rfl (by kernel_rfl) fun hl=>?_
 simp -dsimp only [↓gp,gq,simprocAttr,gT]
 refine ⟨fun h=>absurd h (by omega),fun _=>⟨fun h=>absurd h (by omega),fun _=>⟨fun h=>absurd h (by omega),fun _=>?_⟩⟩⟩
 have h9:n = 0 ∨ n = 1 ∨ n = 2 ∨ n = 3 ∨ n = 4 ∨ n = 5 ∨ n = 6 ∨ n = 7 ∨ n = 8:=by omega
 rcases h9 with rfl | rfl | rfl | rfl | rfl | rfl | rfl | rfl | rfl <;> exact ⟨by decide +kernel,by decide +kernel,by decide +kernel⟩
theorem zx0 (n:Nat) (hn:n < 9):∃ k:Int,AC Tryz.prog 196 [.v (.int .u64 n)] (.im (int k)):=by
 obtain ⟨k,hk⟩:=zsC n hn
 refine ⟨k,?_⟩
 refine AC.go (rs:=[.tmp 2]) zaD mixed Tryz.func196 rfl rfl rfl (by kernel_rfl) fun hl=>?_
 simp -dsimp only [↓gp,gq,simprocAttr,gT]
 refine zab hk ?_
 simp -dsimp only [↓gp,gq,simprocAttr,gT]
theorem zmg (xs:List Int) (hx:xs.length ≤ 1000):AM Tryz.prog 215 [.own 1000000 1,int 0,int xs.length] [⟨3,1,iL xs⟩] [iL (ziG xs)] (.tuple #[]):=by
 refine AM.go (rs:=[]) zaD mixed Tryz.func215 rfl rfl rfl (by kernel_rfl) (zcm (za9 _) zec) (zcl (za9 _) zeb) rfl fun hl=>?_
 simp -dsimp only [↓gp,gq,simprocAttr,gT]
 refine zah (fun ((i,l):Nat × List Int) s=>s.sl 0 = .own 1000000 1∧s.rw 1000000 = ⟨1,.sli 3 1 false (iL l)⟩∧s.sl 1 = int 0∧s.sl 2 = int xs.length∧s.sl 6 = int i∧1 ≤ i∧l.Perm xs∧zD0 l i∧(i ≤ xs.length ∨ xs.length = 0)) (fun (i,_)=>xs.length - i) (1,xs) ⟨by simp -dsimp only [gr,simprocAttr],by simp -dsimp only [gr,simprocAttr],by simp -dsimp only [gr,simprocAttr],by simp -dsimp only [gr,simprocAttr],by simp -dsimp only [gr,simprocAttr];rfl,by omega,List.Perm.refl _,fun a b h1 h2=>by omega,by omega⟩ ?_
 intro (i,l) s1 ⟨h0,r0,h1,h2,h6,hi,hp,hs,hb⟩
 have hlen:=hp.length_eq
 simp -dsimp only [↓gp,gq,simprocAttr,gT,h0,r0,h1,h2,h6]
 refine ⟨fun hin=>?_,fun hin=>?_⟩
 rotate_left
 ·have e:l = ziG xs:=by
   refine zCd hp fun a b q1 q2=>?_
   rcases hb with hb | hb
   ·exact hs a b q1 (by omega)
   ·omega
  rw [← e]
 ·refine zah (fun ((j,m):Nat × List Int) s=>s.sl 0 = .own 1000000 1∧s.rw 1000000 = ⟨1,.sli 3 1 false (iL m)⟩∧s.sl 1 = int 0∧s.sl 2 = int xs.length∧s.sl 6 = int i∧s.sl 7 = int j∧j ≤ i∧m.Perm xs∧zsz m i j) (fun (j,_)=>j) (i,l) ⟨by simp -dsimp only [gr,simprocAttr,h0],by simp -dsimp only [gr,simprocAttr,r0],by simp -dsimp only [gr,simprocAttr,h1],by simp -dsimp only [gr,simprocAttr,h2],by simp -dsimp only [gr,simprocAttr,h6],by simp -dsimp only [gr,simprocAttr],Nat.le_refl _,hp,zxR hs⟩ ?_
  intro (j,m) s2 ⟨g0,k0,g1,g2,g6,g7,hj,hpm,hsm⟩
  have hlm:=hpm.length_eq
  have hjl:j < m.length:=by omega
  by_cases hj0:0 < j
  ·have hw:IntKind.i64.wrap ((j:Int) - 1) = ((j - 1:Nat):Int):=by rw [zai (by omega) (by omega)];omega
   simp -dsimp only [↓gp,gq,simprocAttr,gT,g0,k0,g1,g2,g6,g7,hw]
   refine ⟨by kernel_rfl,fun _=>⟨hjl,hjl,by omega,by omega,zab (zxZ _ _) ?_⟩,fun h=>?_⟩
   ·simp -dsimp only [↓gp,gq,simprocAttr,gT,g0,k0,g1,g2,g6,g7,hw]
    refine ⟨fun hlt=>⟨by kernel_rfl,by omega,by omega,by omega,by omega,by omega,by omega,by omega,by omega,by kernel_rfl,?_⟩,fun hge=>?_⟩
    ·exact zac (j - 1,swj m j) ⟨by simp -dsimp only [gr,simprocAttr,g0],by simp -dsimp only [gr,simprocAttr,k0];rfl,by simp -dsimp only [gr,simprocAttr,g1],by simp -dsimp only [gr,simprocAttr,g2],by simp -dsimp only [gr,simprocAttr,g6],by simp -dsimp only [gr,simprocAttr,hw],by omega,(zDZ hj0 hjl).trans hpm,ztV hsm hj0 hj (by omega) hlt⟩ (by show j - 1 < j;omega)
    ·exact zac (i + 1,m) ⟨by simp -dsimp only [gr,simprocAttr,g0],by simp -dsimp only [gr,simprocAttr,k0],by simp -dsimp only [gr,simprocAttr,g1],by simp -dsimp only [gr,simprocAttr,g2],by simp -dsimp only [gr,simprocAttr];rw [zai (by omega) (by omega)];rfl,by omega,hpm,zma hsm hj (.inr (Int.not_lt.1 hge)),by omega⟩ (by show xs.length - (i + 1) < xs.length - i;omega)
   ·exact absurd (show (0:Int) < (j:Int) by omega) h
  ·simp -dsimp only [↓gp,gq,simprocAttr,gT,g0,k0,g1,g2,g6,g7]
   refine ⟨by kernel_rfl,fun h=>absurd (show (0:Int) < (j:Int) from h) (by omega),fun h=>?_⟩
   exact zac (i + 1,m) ⟨by simp -dsimp only [gr,simprocAttr,g0],by simp -dsimp only [gr,simprocAttr,k0],by simp -dsimp only [gr,simprocAttr,g1],by simp -dsimp only [gr,simprocAttr,g2],by simp -dsimp only [gr,simprocAttr];rw [zai (by omega) (by omega)];rfl,by omega,hpm,zma hsm hj (.inl (by omega)),by omega⟩ (by show xs.length - (i + 1) < xs.length - i;omega)
theorem zCf (xs:List Int) (hx:xs.length ≤ 12) (k:Int):AM Tryz.prog 195 [.own 1000000 1,int 0,int xs.length,int k] [⟨3,1,iL xs⟩] [iL (ziG xs)] (.tuple #[]):=by
 refine AM.go (rs:=[]) zaD mixed Tryz.func195 rfl rfl rfl (by kernel_rfl) (zcm (za9 _) zec) (zcl (za9 _) zeb) rfl fun hl=>?_
 simp -dsimp only [↓gp,gq,simprocAttr,gT]
 refine zah (fun (_:Unit) s=>s.sl 0 = .own 1000000 1∧s.rw 1000000 = ⟨1,.sli 3 1 false (iL xs)⟩∧s.sl 1 = int 0∧s.sl 2 = int xs.length) (fun _=>0) () ⟨by simp -dsimp only [gr,simprocAttr],by simp -dsimp only [gr,simprocAttr],by simp -dsimp only [gr,simprocAttr],by simp -dsimp only [gr,simprocAttr]⟩ ?_
 intro _ s1 ⟨h0,r0,h1,h2⟩
 have hw:IntKind.i64.wrap ((xs.length:Int) - 0) = (xs.length:Int):=by rw [zai (by omega) (by omega)];omega
 simp -dsimp only [↓gp,gq,simprocAttr,gT,h0,r0,h1,h2,hw]
 refine ⟨fun h=>?_,fun h=>absurd (show (xs.length:Int) ≤ 12 by omega) h⟩
 refine zkt (zmg xs (by omega)) [(1000000,1)] (by repeat (first | exact GiveL.nil | refine GiveL.v ?_ | refine GiveL.clo ?_ | refine GiveL.own 0 rfl ?_ | refine GiveL.own 1 rfl ?_ | refine GiveL.ag ?_ ?_)) ⟨by simp -dsimp only [gr,simprocAttr,r0],trivial⟩ (by decide) ?_
 simp -dsimp only [↓gp,gq,simprocAttr,gT,r0]
theorem zpz (xs:List Int) (hx:xs.length ≤ 8):AM Tryz.prog 172 [.own 1000000 1] [⟨3,1,iL xs⟩] [iL (ziG xs)] (.tuple #[]):=by
 refine AM.go (rs:=[]) zaD mixed Tryz.func172 rfl rfl rfl (by kernel_rfl) (zcm (za9 _) zec) (zcl (za9 _) zeb) rfl fun hl=>?_
 obtain ⟨k,hk⟩:=zx0 xs.length (by omega)
 have hu:IntKind.u64.wrap (xs.length:Int) = (xs.length:Int):=zaV (by omega)
 simp -dsimp only [↓gp,gq,simprocAttr,gT,hu]
 refine zab hk ?_
 simp -dsimp only [↓gp,gq,simprocAttr,gT,hu]
 refine zkt (zCf xs (by omega) k) [(1000000,1)] (by repeat (first | exact GiveL.nil | refine GiveL.v ?_ | refine GiveL.clo ?_ | refine GiveL.own 0 rfl ?_ | refine GiveL.own 1 rfl ?_ | refine GiveL.ag ?_ ?_)) ⟨by simp -dsimp only [gr,simprocAttr],trivial⟩ (by decide) ?_
 simp -dsimp only [↓gp,gq,simprocAttr,gT]
open Nat (reduceEqDiff reduceMod reduceAdd reduceLT reduceLeDiff reduceSub reduceMul)
def oC (items:List Int) (f:FuncId) (fl:List Bool) (p:PV):List PV:=.sl false 1 (iL items) :: .clo f [] :: (bL fl ++ [p])
section
variable {items:List Int} {f:FuncId} {fl:List Bool} {p:PV} {Kp:PV→Prop}
theorem zsB (h:fl.length = 256):(oC items f fl p).length = 259:=by simp [oC,bL,h]
theorem zmd {t:TypeId} (h0:(T t).k.agg = false) (h1:0 < (T t).size):ldK T t .asis (oC items f fl p) 0 Kp = Kp (.sl false 1 (iL items)):=by simp [ldK,h0,h1,oC,Md.fix]
theorem zme {t:TypeId} (h0:(T t).k.agg = false) (h1:0 < (T t).size):ldK T t .asis (oC items f fl p) 1 Kp = Kp (.clo f []):=by simp [ldK,h0,h1,oC,Md.fix]
theorem zKr {t:TypeId} (n:Nat) (h:fl.length = 256) (hn:n < 256) (h0:(T t).k.agg = false) (h1:0 < (T t).size):ldK T t .asis (oC items f fl p) (2 + n) Kp = Kp (.v (.bool (fl.getD n false))):=by
 have e:(oC items f fl p).getD (2 + n) .junk = .v (.bool (fl.getD n false)):=by
  have h2:n < (bL fl).length:=by simp [bL,h,hn]
  simp only [oC,List.getD,show 2 + n = n + 1 + 1 by omega,List.getElem?_cons_succ]
  rw [List.getElem?_append_left h2]
  simp [bL,h,hn]
 have hl:=zsB (items:=items) (f:=f) (p:=p) h
 simp only [ldK,h0,h1,hl,true_and]
 rw [e]
 simp [Md.fix];omega
theorem zmf {t:TypeId} (h:fl.length = 256) (h0:(T t).k.agg = false) (h1:0 < (T t).size):ldK T t .asis (oC items f fl p) 258 Kp = Kp p:=by
 have e:(oC items f fl p).getD 258 .junk = p:=by
  have h2:(bL fl).length = 256:=by simp [bL,h]
  simp only [oC,List.getD,show 258 = 256 + 1 + 1 by omega,List.getElem?_cons_succ]
  rw [List.getElem?_append_right (by omega),h2]
  simp
 have hl:=zsB (items:=items) (f:=f) (p:=p) h
 simp only [ldK,h0,h1,hl,true_and]
 rw [e]
 simp [Md.fix]
theorem ztW (h:fl.length = 256) (q:PV):spl (oC items f fl p) 258 [q] = oC items f fl q:=by
 have h2:(bL fl).length = 256:=by simp [bL,h]
 show (oC items f fl p).set 258 q = _
 simp only [oC,show 258 = 256 + 1 + 1 by omega,List.set_cons_succ]
 rw [List.set_append_right _ _ (by omega),h2]
 simp
theorem zHk (n:Nat) (h:fl.length = 256) (hn:n < 256) (b:Bool):spl (oC items f fl p) (2 + n) [.v (.bool b)] = oC items f (fl.set n b) p:=by
 have h2:n < (bL fl).length:=by simp [bL,h,hn]
 show (oC items f fl p).set (2 + n) (.v (.bool b)) = _
 simp only [oC,show 2 + n = n + 1 + 1 by omega,List.set_cons_succ]
 rw [List.set_append_left _ _ h2]
 simp [bL,List.map_set]
end
def oR (b:Bool) (items:List Int) (f:FuncId) (fl:List Bool) (list:List Int) (k:Nat):Row :=
 if k = 1000000 then ⟨1,.box 127 (oC items f fl (if b = true then .v (.slice none 0 0) else .own 1000001 1))⟩ else if k = 1000001∧b = false then ⟨1,.sli 3 1 false (iL list)⟩ else ⟨0,.dead⟩
def zxX (ft:List Int→Int→Bool) (items:List Int) (f:FuncId) (n:Nat) (list:List Int) (R1:Nat→Row) (p:PV):Prop :=
 ∃ fl v,fl.length = 256∧zHZ ft items (fun u=>fl.getD u false)∧p = bool (zch ft items n list).isSome∧R1 1000000 = ⟨1,.box 127 (oC items f fl (.own 1000001 v))⟩∧R1 1000001 = ⟨v,.sli 3 1 false (iL ((zch ft items n list).getD list))⟩
theorem ziH:(T 101).size = 1:=by decide +kernel
theorem ziI:(T 101).k = .other:=by first | rfl | decide +kernel
theorem zKs:∀ u,u < 256→∀ k,k < 8→(zfE .i64 (zte .i64 (u:Nat) (k:Nat)) 1 == 1) = Nat.testBit u k:=by decide +kernel
theorem zKt:∀ u,u < 256→∀ k,k < 8→ior .i64 (u:Nat) (zip .i64 1 (k:Nat)) = ((u ||| 2 ^ k:Nat):Int):=by decide +kernel
theorem zgB {items:List Int} {f:FuncId} {fl:List Bool} {list:List Int} (b:Bool) (hf:fl.length = 256) (hb:b = true→list = []) {s:St} (hr:∀ k,s.rw k = oR b items f fl list k) :
 ∃ s',Wk s s'∧s'.sl = s.sl∧s'.rw 1000000 = ⟨1,.box 127 (oC items f fl (.own 1000001 1))⟩∧s'.rw 1000001 = ⟨1,.sli 3 1 false (iL list)⟩∧∀ k,k < 1000000→s'.rw k = ⟨0,.dead⟩:=by
 cases b with
 | false=>exact ⟨s,Wk.refl s,rfl,by rw [hr];rfl,by rw [hr];rfl,fun k hk=>by rw [hr];unfold oR;rw [if_neg (by omega),if_neg (by omega)]⟩
 | true =>
   have hl:=hb rfl
   subst hl
   have h0:s.rw 1000000 = ⟨1,.box 127 (oC items f fl (.v (.slice none 0 0)))⟩:=by rw [hr];rfl
   have h1:s.rw 1000001 = ⟨0,.dead⟩:=by rw [hr];rfl
   have ho:(oC items f fl (.v (.slice none 0 0)))[258]? = some (.v (.slice none 0 0)):=by
    have h2:(bL fl).length = 256:=by simp [bL,hf]
    simp only [oC,show 258 = 256 + 1 + 1 by omega,List.getElem?_cons_succ]
    rw [List.getElem?_append_right (by omega),h2];rfl
   have hw:=Wk.nilBox 1000001 3 h0 ho (by decide)
   rw [h1] at hw
   have e:(oC items f fl (.v (.slice none 0 0))).set 258 (.own 1000001 (0 + 1)) = oC items f fl (.own 1000001 1):=ztW hf _
   rw [e] at hw
   refine ⟨_,hw,rfl,by rw [zaF],by rw [zas _ _ _ _ (by decide),zaF];rfl,fun k hk=>?_⟩
   rw [zas _ _ _ _ (by omega),zas _ _ _ _ (by omega),hr];unfold oR;rw [if_neg (by omega),if_neg (by omega)]
theorem zFN {rho:Nat→Option Nat} {Ln:Nat→Prop} {R0 R:Nat→Row} {l l':List PV} (h:GvL rho Ln R0 R l l'):∀ fl:List Bool,GvL rho Ln R0 R (bL fl ++ l) (bL fl ++ l'):=by
 intro fl
 induction fl with
 | nil=>exact h
 | cons b fl ih=>exact .one (.v _) ih
theorem zFO {rho:Nat→Option Nat} {R1:Nat→Row} {nv:Nat→Nat} {items:List Int} {f:FuncId} {fl:List Bool} {j v:Nat} {nl:Bool} (h1:rho 1000001 = some j) (h2:(R1 1000001).ver = v) :
 (oC items f fl (.own 1000001 v)).map (zwf rho R1 nv nl) = (match nl with | true=>oC items f fl (.own j (nv 1000001)) | false=>.junk :: (oC items f fl (.own j (nv 1000001))).tail):=by
 have hb:(bL fl).map (zwf rho R1 nv nl) = bL fl:=by
  unfold bL;rw [List.map_map];exact List.map_congr_left fun x _=>rfl
 have hp:zwf rho R1 nv nl (.own 1000001 v) = .own j (nv 1000001):=by
  show zxy rho R1 nv nl (.own 1000001 v) = _
  rw [zeG,h1,h2,beq_self_eq_true]
 unfold oC
 rw [List.map_cons,List.map_cons,List.map_append,hb,List.map_singleton,hp]
 cases nl <;> rfl
def zHl (k:Nat):Option Nat:=if k = 1000000 ∨ k = 1000001 then some k else none
theorem zdK {k j:Nat} (h:zHl k = some j):k = j∧(k = 1000000 ∨ k = 1000001):=by
 unfold zHl at h
 by_cases hk:k = 1000000 ∨ k = 1000001
 ·rw [if_pos hk] at h;exact ⟨Option.some.inj h,hk⟩
 ·rw [if_neg hk] at h;cases h
theorem zLj {items:List Int} {f:FuncId} {fl:List Bool} {list:List Int} {k:Nat} (h:(oR false items f fl list k).kind.nd = true):k = 1000000 ∨ k = 1000001:=by
 unfold oR at h
 by_cases h0:k = 1000000
 ·exact .inl h0
 ·rw [if_neg h0] at h
  by_cases h1:k = 1000001∧false = false
  ·exact .inr h1.1
  ·rw [if_neg h1] at h;cases h
theorem zHm {s:St} {K:St→Prop} {g f:FuncId} {ft:List Int→Int→Bool} {items list:List Int} {fl:List Bool} {n d v:Nat} {u:Int} {lent:List PV} {Ka:RV→Prop} {us:Dm s} {uu:Dm K}
 (h:AG Tryz.prog g [.ref 1000000 1 0,int u] (oR false items f fl list) (zxX ft items f n list)) (hb:s.rw 1000000 = ⟨1,.box 127 (oC items f fl (.own 1000001 v))⟩) (hl:s.rw 1000001 = ⟨v,.sli 3 1 false (iL list)⟩)
 (hk:∀ (S:St) (fl':List Bool) (v':Nat),fl'.length = 256→zHZ ft items (fun u=>fl'.getD u false)→S.sl d = bool (zch ft items n list).isSome→(∀ t,t ≠ d→S.sl t = s.sl t) →
  S.rw 1000000 = ⟨1,.box 127 (oC items f fl' (.own 1000001 v'))⟩→S.rw 1000001 = ⟨v',.sli 3 1 false (iL ((zch ft items n list).getD list))⟩→(∀ i,i ≠ 1000000→i ≠ 1000001→S.rw i = s.rw i)→K S) :
 ziS Tryz.prog g lent Ka (zsO Tryz.prog g lent [.ref 1000000 1 0,int u] (some d) (kk s us) (kk K uu)):=by
 have r0:zHl 1000000 = some 1000000:=rfl
 have r1:zHl 1000001 = some 1000001:=rfl
 have R00:oR false items f fl list 1000000 = ⟨1,.box 127 (oC items f fl (.own 1000001 1))⟩:=rfl
 have R01:oR false items f fl list 1000001 = ⟨1,.sli 3 1 false (iL list)⟩:=rfl
 refine zyQ h zHl (fun _=>False) (.one (.ref r0 (by rw [R00]) (by rw [hb]) (by rw [R00];rfl)) (.one (.v _) .nil)) ⟨fun k hk=>?_,fun k k' j _ _ h1 h2=>?_,fun k j _ _ h=>h⟩ fun R1 p hp=>?_
 ·rcases zLj hk with rfl | rfl
  ·refine ⟨Nat.le_refl _,by rw [R00];exact Nat.one_pos,1000000,r0,?_⟩
   rw [R00,hb]
   exact ⟨rfl,.one (.sl _ _ _) (.clo .nil (zFN (.one (.own r1 (by rw [R01]) (by rw [hl]) (by rw [R01];rfl)) .nil) fl))⟩
  ·refine ⟨by decide,by rw [R01];exact Nat.one_pos,1000001,r1,?_⟩
   rw [R01,hl]
   exact ⟨rfl,rfl,rfl,za9 _⟩
 ·rw [(zdK h1).1,(zdK h2).1]
 ·obtain ⟨fl',v',hfl,hI,rfl,hb1,hl1⟩:=hp
  refine ⟨zHl,fun k=>if k = 1000001 then (if v' = 1 then v else v + 1) else 1,true,⟨fun _ _=>rfl,fun a b i h1 h2=>?_,fun a i h1 h2 h3=>?_,fun a i h1 h2=>?_,fun _ _ h=>h⟩,fun S hS=>?_⟩
  ·rw [(zdK h1).1,(zdK h2).1]
  ·obtain ⟨rfl,rfl | rfl⟩:=zdK h1
   ·rw [hb];rfl
   ·rw [hl1,R01] at h3
    have h3:v' = 1:=h3
    rw [hl]
    simp [h3]
  ·obtain ⟨rfl,rfl | rfl⟩:=zdK h1
   ·have:=h2 (by rw [R00];rfl)
    rw [hb1,R00] at this
    exact absurd rfl this
   ·have:=h2 (by rw [R01];rfl)
    rw [hl1,R01] at this
    have h3:¬ v' = 1:=this
    rw [hl]
    simp [h3]
  ·have e0:=hS.row 1000000 1000000 r0
   have e1:=hS.row 1000001 1000001 r1
   rw [hb1] at e0
   rw [hl1] at e1
   have e0:S.rw 1000000 = ⟨1,.box 127 ((oC items f fl' (.own 1000001 v')).map (zwf zHl R1 _ true))⟩:=e0
   rw [zFO r1 (by rw [hl1])] at e0
   refine hk S fl' _ hfl hI ?_ (fun t ht=>?_) e0 e1 fun i h1 h2=>hS.off i fun k hk=>?_
   ·rw [hS.sl,zay];rfl
   ·rw [hS.sl,zaO _ _ _ _ ht]
   ·obtain ⟨rfl,h | h⟩:=zdK hk
    ·exact h1 h
    ·exact h2 h
theorem zxY (f:FuncId) (ft:List Int→Int→Bool) (hF:∀ l x,okL l→(0 ≤ x∧x < 64)→AC Tryz.prog f [zax l,int x] (.im (bool (ft l x)))) (hP:∀ l l' x,l.Perm l'→ft l x = ft l' x) (items:List Int) (hn:items.Nodup) (hok:okL items) (h8:items.length ≤ 8) :
 ∀ (n:Nat) (b:Bool) (fl:List Bool) (u:Nat) (list:List Int),(b = true→list = [])→fl.length = 256→zHZ ft items (fun u=>fl.getD u false)→zmc items u list→list.length + n = items.length→okL list→u < 256 →
  AG Tryz.prog 173 [.ref 1000000 1 0,int u] (oR b items f fl list) (zxX ft items f n list):=by
 intro n
 induction n with
 | zero =>
   intro b fl u list hb hfl hI hc hll hol hu
   refine AG.goW (rs:=[.tmp 4]) zaD mixed Tryz.func173 rfl rfl rfl (by kernel_rfl) fun hl hrl z hz hr=>?_
   obtain ⟨s,hw,hsl,y0,y1,hlow⟩:=zgB b hfl hb hr
   refine ⟨s,hw,?_⟩
   have z0:s.sl 0 = .ref 1000000 1 0:=by rw [hsl,hz];rfl
   have z1:s.sl 1 = int u:=by rw [hsl,hz];rfl
   clear hz hr hw hsl z
   simp (maxSteps:=9^7) -dsimp only [↓gp,gq,reduceCtorEq,reduceEqDiff,reduceLT,reduceLeDiff,reduceAdd,reduceMul,reduceSub,Nat.reduceBEq,Int.reduceToNat,Int.reduceLE,Int.reduceLT,Int.reduceNeg,reduceMod,gT,z0,z1,y0,y1,zmf hfl,zmd,zme]
   have e:((list.length:Int) == (items.length:Int)) = true:=by rw [beq_iff_eq];omega
   exact ⟨by kernel_rfl,fun _=>⟨fl,1,hfl,hI,rfl,y0,y1⟩,fun h=>absurd (e.symm.trans h) (by decide)⟩
 | succ n ih =>
   intro b fl u list hb hfl hI hc hll hol hu
   refine AG.goW (rs:=[.tmp 4]) zaD mixed Tryz.func173 rfl rfl rfl (by kernel_rfl) fun hl hrl z hz hr=>?_
   obtain ⟨s,hw,hsl,y0,y1,hlow⟩:=zgB b hfl hb hr
   refine ⟨s,hw,?_⟩
   have z0:s.sl 0 = .ref 1000000 1 0:=by rw [hsl,hz];rfl
   have z1:s.sl 1 = int u:=by rw [hsl,hz];rfl
   clear hz hr hw hsl z
   simp (maxSteps:=9^7) -dsimp only [↓gp,gq,reduceCtorEq,reduceEqDiff,reduceLT,reduceLeDiff,reduceAdd,reduceMul,reduceSub,Nat.reduceBEq,Int.reduceToNat,Int.reduceLE,Int.reduceLT,Int.reduceNeg,reduceMod,gT,z0,z1,y0,y1,zmf hfl,zmd,zme]
   have e:((list.length:Int) == (items.length:Int)) = false:=by rw [beq_eq_false_iff_ne];omega
   refine ⟨by kernel_rfl,fun h=>absurd (e.symm.trans h) (by decide),fun _=>⟨hu,?_⟩⟩
   simp (maxSteps:=9^7) -dsimp only [↓gp,gq,reduceCtorEq,reduceEqDiff,reduceLT,reduceLeDiff,reduceAdd,reduceMul,reduceSub,Nat.reduceBEq,Int.reduceToNat,Int.reduceLE,Int.reduceLT,Int.reduceNeg,reduceMod,gT,zKr u hfl hu,zmd,zme,zmf hfl,z0,z1,y0,y1]
   refine ⟨fun h=>?_,fun h=>?_⟩
   ·unfold zxX
    rw [show zch ft items (n + 1) list = none from hI u h (n + 1) list hc hll]
    exact ⟨fl,1,hfl,hI,rfl,y0,y1⟩
   ·have hdef:zch ft items (n + 1) list = items.findSome? (fun g=>if decide (g ∈ list) || !ft list g then none else zch ft items n (list ++ [g])):=rfl
    generalize hff:(fun g=>if decide (g ∈ list) || !ft list g then none else zch ft items n (list ++ [g])) = F at *
    refine zah (fun (za:Nat × Nat × List Bool) s=>match za with | (k,v,g)=>s.sl 0 = .ref 1000000 1 0∧s.sl 1 = int u∧s.sl 27 = zax items∧s.sl 28 = int items.length∧s.sl 29 = int k∧s.rw 1000000 = ⟨1,.box 127 (oC items f g (.own 1000001 v))⟩∧s.rw 1000001 = ⟨v,.sli 3 1 false (iL list)⟩∧(k ≤ items.length∧g.length = 256∧zHZ ft items (fun u=>g.getD u false)∧(items.take k).findSome? F = none)) (fun (k,v,g)=>items.length - k) ((0,1,fl)) (by refine ⟨?_,?_,?_,?_,?_,?_,?_,⟨Nat.zero_le _,hfl,hI,rfl⟩⟩ <;> (first | (simp (maxSteps:=9^7) -dsimp only [gr,reduceEqDiff,reduceLT,reduceAdd,reduceMod,Nat.reduceBEq,z0,z1,y0,y1];first | done | rfl | (simp;done)) | assumption | rfl)) ?_
    intro (k,v,g) sa ⟨h0a,h1a,h27a,h28a,h29a,r1000000a,r1000001a,hIa⟩
    obtain ⟨hk,hgl,hgI,hnone⟩:=hIa
    by_cases h:k < items.length
    ·have hk8:k < 8:=by omega
     have hu8:IntKind.u64.wrap (k:Int) = (k:Int):=zaV (by omega)
     have hb1:=zKs u hu k hk8
     have hb2:=zKt u hu k hk8
     simp (maxSteps:=9^7) -dsimp only [↓gp,gq,reduceCtorEq,reduceEqDiff,reduceLT,reduceLeDiff,reduceAdd,reduceMul,reduceSub,Nat.reduceBEq,Int.reduceToNat,Int.reduceLE,Int.reduceLT,Int.reduceNeg,reduceMod,gT,h0a,h1a,h27a,h28a,h29a,r1000000a,r1000001a,zmd,zme,zmf hgl,ziH,ziI,hu8,hb1]
     have hgk:=hok _ (zaj 0 h)
     have hgo:F (items.getD k 0) = if decide (items.getD k 0 ∈ list) || !ft list (items.getD k 0) then none else zch ft items n (list ++ [items.getD k 0]):=by rw [← hff]
     have hmem:=zCe hn hc h
     have hskip:F (items.getD k 0) = none→(items.take (k + 1)).findSome? F = none:=fun e=>by rw [zeV F 0 h,hnone,e];rfl
     refine ⟨fun _=>⟨h,h,by kernel_rfl,fun hbit=>zab (hF list _ hol hgk) ?_,fun hbit=>?_⟩,fun h'=>absurd h h'⟩
     ·simp (maxSteps:=9^7) -dsimp only [↓gp,gq,reduceCtorEq,reduceEqDiff,reduceLT,reduceLeDiff,reduceAdd,reduceMul,reduceSub,Nat.reduceBEq,Int.reduceToNat,Int.reduceLE,Int.reduceLT,Int.reduceNeg,reduceMod,gT,h0a,h1a,h27a,h28a,h29a,r1000000a,r1000001a,zmd,zme,zmf hgl,ztW hgl,ziH,ziI,hu8,hb1]
      refine ⟨fun hb=>?_,fun hb=>?_⟩
      ·have e0:F (items.getD k 0) = none:=by rw [hgo,if_pos (by rw [show ft list (items.getD k 0) = false by simpa using hb];simp)]
       exact zac ((k + 1,v,g)) (by refine ⟨?_,?_,?_,?_,?_,?_,?_,⟨by omega,hgl,hgI,hskip e0⟩⟩ <;> (first | (simp (maxSteps:=9^7) -dsimp only [gr,reduceEqDiff,reduceLT,reduceAdd,reduceMod,Nat.reduceBEq,h0a,h1a,h27a,h28a,h29a,r1000000a,r1000001a,zaa h (by omega)];first | done | rfl | (simp;done)) | assumption | rfl)) (by first | omega | (simp only;omega) | (dsimp only;omega) | (show _ < _;simp;omega))
      ·have hft:ft list (items.getD k 0) = true:=by simpa using hb
       have e0:F (items.getD k 0) = zch ft items n (list ++ [items.getD k 0]):=by rw [hgo,if_neg (by rw [hmem,hbit,hft];decide)]
       have hu2:u ||| 2 ^ k < 256:=by
        have:u ||| 2 ^ k < 2 ^ 8:=Nat.or_lt_two_pow hu (Nat.pow_lt_pow_right (by omega) hk8)
        exact this
       have hIH:=ih false g (u ||| 2 ^ k) (list ++ [items.getD k 0]) (fun h=>by cases h) hgl hgI (zxU hc h hbit) (by simp;omega) (fun b hb'=>by
        rcases List.mem_append.1 hb' with h' | h'
        ·exact hol b h'
        ·rw [List.mem_singleton.1 h'];exact hgk) hu2
       rw [← hb2] at hIH
       refine ⟨by omega,by rw [zsB hgl];exact Nat.le_refl _,zHm (v:=v + 1) hIH (by simp (maxSteps:=9^7) -dsimp only [gr,reduceEqDiff,reduceLT,reduceAdd,reduceMod,Nat.reduceBEq,h0a,h1a,h27a,h28a,h29a,r1000000a,r1000001a]) (by simp (maxSteps:=9^7) -dsimp only [gr,reduceEqDiff,reduceLT,reduceAdd,reduceMod,Nat.reduceBEq,h0a,h1a,h27a,h28a,h29a,r1000000a,r1000001a]) fun S g' v' hgl' hgI' hSd hSs w0 w1 hoff=>?_⟩
       rw [← e0] at hSd w1
       have u0:S.sl 0 = .ref 1000000 1 0:=by rw [hSs 0 (by decide)];simp (maxSteps:=9^7) -dsimp only [gr,reduceEqDiff,reduceLT,reduceAdd,reduceMod,Nat.reduceBEq,h0a,h1a,h27a,h28a,h29a,r1000000a,r1000001a]
       have u1:S.sl 1 = int u:=by rw [hSs 1 (by decide)];simp (maxSteps:=9^7) -dsimp only [gr,reduceEqDiff,reduceLT,reduceAdd,reduceMod,Nat.reduceBEq,h0a,h1a,h27a,h28a,h29a,r1000000a,r1000001a]
       have u27:S.sl 27 = zax items:=by rw [hSs 27 (by decide)];simp (maxSteps:=9^7) -dsimp only [gr,reduceEqDiff,reduceLT,reduceAdd,reduceMod,Nat.reduceBEq,h0a,h1a,h27a,h28a,h29a,r1000000a,r1000001a]
       have u28:S.sl 28 = int items.length:=by rw [hSs 28 (by decide)];simp (maxSteps:=9^7) -dsimp only [gr,reduceEqDiff,reduceLT,reduceAdd,reduceMod,Nat.reduceBEq,h0a,h1a,h27a,h28a,h29a,r1000000a,r1000001a]
       have u29:S.sl 29 = int k:=by rw [hSs 29 (by decide)];simp (maxSteps:=9^7) -dsimp only [gr,reduceEqDiff,reduceLT,reduceAdd,reduceMod,Nat.reduceBEq,h0a,h1a,h27a,h28a,h29a,r1000000a,r1000001a]
       clear hSs hoff
       simp (maxSteps:=9^7) -dsimp only [↓gp,gq,reduceCtorEq,reduceEqDiff,reduceLT,reduceLeDiff,reduceAdd,reduceMul,reduceSub,Nat.reduceBEq,Int.reduceToNat,Int.reduceLE,Int.reduceLT,Int.reduceNeg,reduceMod,gT,hSd,u0,u1,u27,u28,u29,w0,w1,zmd,zme,zmf hgl',ztW hgl']
       refine ⟨fun hs=>?_,fun hs=>?_⟩
       ·obtain ⟨x,hx⟩:=Option.isSome_iff_exists.1 hs
        unfold zxX
        rw [hdef,zjj F 0 h hnone hx]
        rw [hx] at w1
        exact ⟨g',v',hgl',hgI',rfl,w0,w1⟩
       ·have e1:F (items.getD k 0) = none:=by
         cases hx:F (items.getD k 0) with
         | none=>rfl
         | some x=>rw [hx] at hs;cases hs
        have el:((F (items.getD k 0)).getD (list ++ [items.getD k 0])).length = list.length + 1:=by rw [e1];simp
        have ew:IntKind.i64.wrap (((F (items.getD k 0)).getD (list ++ [items.getD k 0])).length - 1:Int) = (list.length:Int):=by rw [el,zai (by omega) (by omega)];omega
        have et:((F (items.getD k 0)).getD (list ++ [items.getD k 0])).take ((list.length:Nat):Int).toNat = list:=by rw [e1];simp
        rw [ew,el]
        refine ⟨by kernel_rfl,⟨by decide +kernel,by kernel_rfl,by decide +kernel,by kernel_rfl⟩,by omega,by omega,by rw [zsB hgl'];exact Nat.le_refl _,by kernel_rfl,?_⟩
        exact zac ((k + 1,v' + 1,g')) (by refine ⟨?_,?_,?_,?_,?_,?_,?_,⟨by omega,hgl',hgI',hskip e1⟩⟩ <;> (first | (simp (maxSteps:=9^7) -dsimp only [gr,reduceEqDiff,reduceLT,reduceAdd,reduceMod,Nat.reduceBEq,h0a,h1a,h27a,h28a,h29a,r1000000a,r1000001a,u0,u1,u27,u28,u29,et,zaa h (show items.length ≤ 9223372036854775807 by omega)];first | done | rfl | (simp;done)) | assumption | rfl)) (by first | omega | (simp only;omega) | (dsimp only;omega) | (show _ < _;simp;omega))
     ·have e0:F (items.getD k 0) = none:=by rw [hgo,if_pos (by rw [hmem,hbit];rfl)]
      exact zac ((k + 1,v,g)) (by refine ⟨?_,?_,?_,?_,?_,?_,?_,⟨by omega,hgl,hgI,hskip e0⟩⟩ <;> (first | (simp (maxSteps:=9^7) -dsimp only [gr,reduceEqDiff,reduceLT,reduceAdd,reduceMod,Nat.reduceBEq,h0a,h1a,h27a,h28a,h29a,r1000000a,r1000001a,zaa h (by omega)];first | done | rfl | (simp;done)) | assumption | rfl)) (by first | omega | (simp only;omega) | (dsimp only;omega) | (show _ < _;simp;omega))
    ·have hke:k = items.length:=by omega
     simp (maxSteps:=9^7) -dsimp only [↓gp,gq,reduceCtorEq,reduceEqDiff,reduceLT,reduceLeDiff,reduceAdd,reduceMul,reduceSub,Nat.reduceBEq,Int.reduceToNat,Int.reduceLE,Int.reduceLT,Int.reduceNeg,reduceMod,gT,h0a,h1a,h27a,h28a,h29a,r1000000a,r1000001a,zmd,zme,zmf hgl,zHk u hgl hu]
     refine ⟨fun h'=>absurd h' h,fun _=>⟨hu,by rw [zsB hgl];omega,?_⟩⟩
     rw [hke,List.take_length] at hnone
     unfold zxX
     rw [hdef,hnone]
     refine ⟨g.set u true,v,by rw [List.length_set];exact hgl,?_,rfl,by simp (maxSteps:=9^7) -dsimp only [gr,reduceEqDiff,reduceLT,reduceAdd,reduceMod,Nat.reduceBEq],by simp (maxSteps:=9^7) -dsimp only [gr,reduceEqDiff,reduceLT,reduceAdd,reduceMod,Nat.reduceBEq,h0a,h1a,h27a,h28a,h29a,r1000000a,r1000001a];rfl⟩
     have:=zD2 hP hgI hc hll (by rw [hdef,hnone])
     intro w hw
     refine this w ?_
     show (if w = u then true else g.getD w false) = true
     by_cases e:w = u
     ·rw [if_pos e]
     ·rw [if_neg e]
      have hw:(g.set u true).getD w false = true:=hw
      simpa [List.getD,List.getElem?_set_ne (Ne.symm e)] using hw
def oX (p0:PV) (f:FuncId) (fl:List Bool) (p:PV):List PV:=p0 :: .clo f [] :: (bL fl ++ [p])
theorem zFM (p0:PV) (f:FuncId):p0 :: .clo f [] :: List.map PV.v (List.replicate 256 (Value.bool false) ++ [Value.slice none 0 0]) = oX p0 f (List.replicate 256 false) (.v (.slice none 0 0)):=by
 unfold oX bL
 rw [List.map_append,List.map_replicate,List.map_replicate];rfl
theorem zwI {p0 p:PV} {f:FuncId} {fl:List Bool} (h:fl.length = 256):(oX p0 f fl p).length = 259:=by simp [oX,bL,h]
theorem zKq {p0 p:PV} {f:FuncId} {fl:List Bool} {Kp:PV→Prop} {t:TypeId} (h:fl.length = 256) (h0:(T t).k.agg = false) (h1:0 < (T t).size):ldK T t .asis (oX p0 f fl p) 258 Kp = Kp p:=by
 have e:(oX p0 f fl p).getD 258 .junk = p:=by
  have h2:(bL fl).length = 256:=by simp [bL,h]
  simp only [oX,List.getD,show 258 = 256 + 1 + 1 by omega,List.getElem?_cons_succ]
  rw [List.getElem?_append_right (by omega),h2]
  simp
 have hl:=zwI (p0:=p0) (f:=f) (p:=p) h
 simp only [ldK,h0,h1,hl,true_and]
 rw [e]
 simp [Md.fix]
theorem zHh {c c':List PV} (h:c'.length = c.length):spl c 0 c' = c':=by
 rw [zFi c 0 c' (by omega)]
 simp [h]
theorem zHi {rw:Nat→Row} {p0 p:PV} {f:FuncId} {fl:List Bool} (h0:zjb rw p0) (h1:zjb rw p):Go.Abs.allP rw (oX p0 f fl p):=by
 unfold oX Go.Abs.allP
 intro q hq
 rcases List.mem_cons.1 hq with rfl | hq
 ·exact h0
 rcases List.mem_cons.1 hq with rfl | hq
 ·trivial
 rcases List.mem_append.1 hq with hq | hq
 ·obtain ⟨b,_,rfl⟩:=List.mem_map.1 hq
  rfl
 ·rw [List.mem_singleton.1 hq];exact h1
theorem zD3 {s:St} {K:St→Prop} {j ver:Nat} {bt:TypeId} {c:List PV} {p0 p:PV} {f:FuncId} {fl:List Bool} (hf:fl.length = 256) (hc:c.length = 259) (h0:zjb s.rw p0) (h1:zjb s.rw p) (u:Dm K) :
 K (s.row j ⟨ver,.box bt (oX p0 f fl p)⟩)→zeZ s 259 j ver 0 ⟨ver,.box bt c⟩ (.ag (oX p0 f fl p)) (kk K u):=by
 intro hk
 rw [zfq 258,zoG]
 refine ⟨zwI hf,by rw [zwI hf,hc];exact Nat.le_refl _,zHi h0 h1,?_⟩
 rw [zHh (by rw [zwI hf,hc])]
 exact hk
theorem zHj {s:St} {K:St→Prop} {g f:FuncId} {ft:List Int→Int→Bool} {items:List Int} {fl:List Bool} {n d kb ki vi ei:Nat} {fz:Bool} {lent:List PV} {Ka:RV→Prop} {us:Dm s} {uu:Dm K}
 (h:AG Tryz.prog g [.ref 1000000 1 0,int 0] (oR true items f fl []) (zxX ft items f n [])) (hb:s.rw kb = ⟨1,.box 127 (oX (.own ki vi) f fl (.v (.slice none 0 0)))⟩) (hi:s.rw ki = ⟨vi,.sli ei 1 fz (iL items)⟩) (hd:s.rw d = ⟨0,.dead⟩)
 (h1:ki ≠ kb) (h2:d ≠ kb)
 (hk:∀ (S:St) (fl':List Bool),fl'.length = 256→S.sl d = bool (zch ft items n []).isSome→(∀ t,t ≠ d→S.sl t = s.sl t) →
  S.rw kb = ⟨1,.box 127 (oX .junk f fl' (.own d 1))⟩→S.rw d = ⟨1,.sli 3 1 false (iL ((zch ft items n []).getD []))⟩→(∀ i,i ≠ kb→i ≠ d→S.rw i = s.rw i)→K S) :
 ziS Tryz.prog g lent Ka (zsO Tryz.prog g lent [.ref kb 1 0,int 0] (some d) (kk s us) (kk K uu)):=by
 have R00:oR true items f fl [] 1000000 = ⟨1,.box 127 (oC items f fl (.v (.slice none 0 0)))⟩:=rfl
 have R0n:∀ k,k ≠ 1000000→oR true items f fl [] k = ⟨0,.dead⟩:=fun k hk=>by unfold oR;rw [if_neg hk,if_neg (fun h=>by cases h.2)]
 have nd0:∀ k,(oR true items f fl [] k).kind.nd = true→k = 1000000:=fun k hk=>by
  by_cases h:k = 1000000
  ·exact h
  ·rw [R0n k h] at hk;cases hk
 have r0:(fun k:Nat=>if k = 1000000 then some kb else none) 1000000 = some kb:=if_pos rfl
 have q0:(fun k:Nat=>if k = 1000000 then some kb else if k = 1000001 then some d else none) 1000000 = some kb:=if_pos rfl
 have q1:(fun k:Nat=>if k = 1000000 then some kb else if k = 1000001 then some d else none) 1000001 = some d:=rfl
 have qq:∀ {k j:Nat},(fun k:Nat=>if k = 1000000 then some kb else if k = 1000001 then some d else none) k = some j→(k = 1000000∧j = kb) ∨ (k = 1000001∧j = d):=fun {k j} h=>by
  have h:(if k = 1000000 then some kb else if k = 1000001 then some d else none) = some j:=h
  by_cases a:k = 1000000
  ·rw [if_pos a] at h;exact .inl ⟨a,(Option.some.inj h).symm⟩
  ·rw [if_neg a] at h
   by_cases b:k = 1000001
   ·rw [if_pos b] at h;exact .inr ⟨b,(Option.some.inj h).symm⟩
   ·rw [if_neg b] at h;cases h
 refine zyQ h (fun k=>if k = 1000000 then some kb else none) (fun j=>j = ki) (.one (.ref r0 (by rw [R00]) (by rw [hb]) (by rw [R00];rfl)) (.one (.v _) .nil)) ⟨fun k hk=>?_,fun k k' j a b _ _=>by rw [nd0 k a,nd0 k' b],fun k j a b e=>?_⟩ fun R1 p hp=>?_
 ·have:=nd0 k hk;subst this
  refine ⟨Nat.le_refl _,by rw [R00];exact Nat.one_pos,kb,r0,?_⟩
  rw [R00,hb]
  exact ⟨rfl,.one (.lent rfl hi) (.clo .nil (zFN (.one (.v _) .nil) fl))⟩
 ·have:=nd0 k a;subst this
  have b:some kb = some j:=b
  cases b
  exact h1 e.symm
 ·obtain ⟨fl',v',hfl,hI,rfl,hb1,hl1⟩:=hp
  refine ⟨fun k=>if k = 1000000 then some kb else if k = 1000001 then some d else none,fun k=>1,false,⟨fun k hk=>?_,fun a b i a1 a2=>?_,fun a i a1 a2 a3=>?_,fun a i a1 a2=>?_,fun h=>by cases h⟩,fun S hS=>?_⟩
  ·have:=nd0 k hk;subst this;rfl
  ·rcases qq a1 with ⟨rfl,e1⟩ | ⟨rfl,e1⟩ <;> rcases qq a2 with ⟨rfl,e2⟩ | ⟨rfl,e2⟩ <;> first | rfl | (exact absurd (e1.symm.trans e2) (Ne.symm h2)) | (exact absurd (e1.symm.trans e2) h2)
  ·have:=nd0 a a2;subst this
   rcases qq a1 with ⟨_,rfl⟩ | ⟨h,_⟩
   ·rw [hb]
   ·exact absurd h (by decide)
  ·rcases qq a1 with ⟨rfl,rfl⟩ | ⟨rfl,rfl⟩
   ·have:=a2 (by rw [R00];rfl)
    rw [hb1,R00] at this
    exact absurd rfl this
   ·rw [hd];exact Nat.one_pos
  ·have e0:=hS.row 1000000 kb q0
   have e1:=hS.row 1000001 d q1
   rw [hb1] at e0
   rw [hl1] at e1
   have e0:S.rw kb = ⟨1,.box 127 ((oC items f fl' (.own 1000001 v')).map (zwf (fun k:Nat=>if k = 1000000 then some kb else if k = 1000001 then some d else none) R1 _ false))⟩:=e0
   rw [zFO q1 (by rw [hl1])] at e0
   refine hk S fl' hfl ?_ (fun t ht=>?_) e0 e1 fun i a b=>hS.off i fun k hk=>?_
   ·rw [hS.sl,zay];rfl
   ·rw [hS.sl,zaO _ _ _ _ ht]
   ·rcases qq hk with ⟨_,rfl⟩ | ⟨_,rfl⟩
    ·exact a rfl
    ·exact b rfl
def zop (ft:List Int→Int→Bool) (xs:List Int):Option (List Int):=if xs.length ≤ 8 then zch ft (ziG xs) xs.length [] else none
theorem zsA (f:FuncId) (ft:List Int→Int→Bool) (hF:∀ l x,okL l→(0 ≤ x∧x < 64)→AC Tryz.prog f [zax l,int x] (.im (bool (ft l x)))) (hP:∀ l l' x,l.Perm l'→ft l x = ft l' x) (xs:List Int) (hn:xs.Nodup) (hok:okL xs) :
 AC Tryz.prog 123 [zax xs,.clo f []] (.tup [.fr 3 1 (iL ((zop ft xs).getD [])),.im (bool (zop ft xs).isSome)]):=by
 refine AC.go (rs:=[.tmp 4,.tmp 5]) zaD mixed Tryz.func123 rfl rfl rfl (by kernel_rfl) fun hl=>?_
 simp only [zaN,za4,and_true,zbZ,zdx,zcE,zbI,zcD,true_and] at hl
 simp (maxSteps:=9^7) -dsimp only [↓gp,gq,reduceCtorEq,reduceEqDiff,reduceLT,reduceLeDiff,reduceAdd,reduceMul,reduceSub,Nat.reduceBEq,Int.reduceToNat,Int.reduceLE,Int.reduceLT,Int.reduceNeg,reduceMod,gT,ziH,ziI]
 refine ⟨fun h=>?_,fun h=>?_⟩
 ·unfold zop;rw [if_neg (by omega)];exact ⟨rfl,rfl⟩
 ·have h8:xs.length ≤ 8:=by omega
  unfold zop;rw [if_pos h8]
  refine zab (zmr xs (by omega)) ?_
  simp (maxSteps:=9^7) -dsimp only [↓gp,gq,reduceCtorEq,reduceEqDiff,reduceLT,reduceLeDiff,reduceAdd,reduceMul,reduceSub,Nat.reduceBEq,Int.reduceToNat,Int.reduceLE,Int.reduceLT,Int.reduceNeg,reduceMod,gT,ziH,ziI]
  refine zkt (zpz xs h8) [(12,1)] (by repeat (first | exact GiveL.nil | refine GiveL.v ?_ | refine GiveL.clo ?_ | refine GiveL.own 0 rfl ?_ | refine GiveL.own 1 rfl ?_ | refine GiveL.ag ?_ ?_)) ⟨by simp (maxSteps:=9^7) -dsimp only [gr,reduceEqDiff,reduceLT,reduceAdd,reduceMod,Nat.reduceBEq];try rfl,trivial⟩ (by decide) ?_
  simp (maxSteps:=9^7) -dsimp only [↓gp,gq,reduceCtorEq,reduceEqDiff,reduceLT,reduceLeDiff,reduceAdd,reduceMul,reduceSub,Nat.reduceBEq,Int.reduceToNat,Int.reduceLE,Int.reduceLT,Int.reduceNeg,reduceMod,gT,ziH,ziI,zFM]
  refine zD3 List.length_replicate (by simp only [List.length_cons,List.length_map,List.length_append,List.length_replicate,List.length_nil]) ?_ (by exact rfl) _ ?_
  ·simp (maxSteps:=9^7) -dsimp only [↓gp,gq,reduceCtorEq,reduceEqDiff,reduceLT,reduceLeDiff,reduceAdd,reduceMul,reduceSub,Nat.reduceBEq,Int.reduceToNat,Int.reduceLE,Int.reduceLT,Int.reduceNeg,reduceMod,gT,zoH]
  have hC:=zxY f ft hF hP (ziG xs) ((zgb xs).nodup_iff.2 hn) (fun b hb=>hok b ((zgb xs).mem_iff.1 hb)) (by rw [zmb];exact h8) xs.length true (List.replicate 256 false) 0 [] (fun _=>rfl) List.length_replicate (fun u hu=>by
   have hu:(List.replicate 256 false).getD u false = true:=hu
   have:(List.replicate 256 false).getD u false = false:=by
    rw [List.getD,List.getElem?_replicate];split <;> rfl
   rw [this] at hu;cases hu) (zxS _) (by rw [zmb];simp) (fun b hb=>by cases hb) (by decide)
  simp (maxSteps:=9^7) -dsimp only [↓gp,gq,reduceCtorEq,reduceEqDiff,reduceLT,reduceLeDiff,reduceAdd,reduceMul,reduceSub,Nat.reduceBEq,Int.reduceToNat,Int.reduceLE,Int.reduceLT,Int.reduceNeg,reduceMod,gT,ziH,ziI,zFM]
  refine zHj (ki:=12) (vi:=1) (ei:=3) (fz:=false) hC (by simp (maxSteps:=9^7) -dsimp only [gr,reduceEqDiff,reduceLT,reduceAdd,reduceMod,Nat.reduceBEq]) (by simp (maxSteps:=9^7) -dsimp only [gr,reduceEqDiff,reduceLT,reduceAdd,reduceMod,Nat.reduceBEq]) (by simp (maxSteps:=9^7) -dsimp only [gr,reduceEqDiff,reduceLT,reduceAdd,reduceMod,Nat.reduceBEq]) (by decide) (by decide) fun S fl' hfl' hSd hSs w7 w18 hoff=>?_
  have u7:S.sl 7 = .ref 7 1 0:=by rw [hSs 7 (by decide)];simp (maxSteps:=9^7) -dsimp only [gr,reduceEqDiff,reduceLT,reduceAdd,reduceMod,Nat.reduceBEq]
  simp (maxSteps:=9^7) -dsimp only [↓gp,gq,reduceCtorEq,reduceEqDiff,reduceLT,reduceLeDiff,reduceAdd,reduceMul,reduceSub,Nat.reduceBEq,Int.reduceToNat,Int.reduceLE,Int.reduceLT,Int.reduceNeg,reduceMod,gT,hSd,u7,w7,w18,zKq hfl']
  generalize zch ft (ziG xs) xs.length [] = o
  cases o with
  | none=>exact ⟨fun _=>⟨rfl,rfl⟩,fun h=>by cases h⟩
  | some l=>exact ⟨fun h=>(by cases h),fun _=>rfl⟩
theorem zFL {n:Int} {xs:List Int} (h:cxP n xs):okL xs:=fun b hb=>by
 obtain ⟨i,hi,rfl⟩:=zaR 0 hb
 exact zeH (h.2.2 i hi).1
def zH0 (l:List Nat):Prop:=∀ g ∈ l,g < 64
theorem zpA {l:List Nat} (h:zH0 l) {k:Nat} (hk:k < l.length):l.getD k 0 < 64:=h _ (zaj 0 hk)
theorem ztY {α:Type} (f:α→Nat→α) (a:α) {l:List Nat} {k:Nat} (h:k < l.length):(l.take (k + 1)).foldl f a = f ((l.take k).foldl f a) (l.getD k 0):=by
 rw [zau 0 h,List.foldl_append];rfl
theorem zmK (bs:List Nat) (fc:Nat) (hb:zH0 bs) (hs:fc < 64):AC Tryz.prog 174 [zax (ofN bs),int fc] (.im (int (npN bs fc:Nat))):=by
 refine AC.go (rs:=[.tmp 4]) zaD mixed Tryz.func174 rfl rfl rfl (by kernel_rfl) fun hl=>?_
 simp only [zaN,za4,and_true,zcD,zbI,true_and,zad] at hl
 have hol:=zad bs
 simp -dsimp only [↓gp,gq,simprocAttr,gT]
 refine zah (fun (k:Nat) s=>s.sl 1 = int fc∧s.sl 5 = int ((bs.take k).foldl (npS fc) 0:Nat)∧s.sl 9 = zax (ofN bs)∧s.sl 10 = int bs.length∧s.sl 11 = int k∧(k ≤ bs.length)) (fun k=>bs.length - k) (0) (by refine ⟨?_,?_,?_,?_,?_,by simp⟩ <;> (first | (simp -dsimp only [gr,simprocAttr,hol];first | done | rfl | (simp;done)) | assumption | rfl)) ?_
 intro k sa ⟨h1a,h5a,h9a,h10a,h11a,hIa⟩
 simp -dsimp only [↓gp,gq,simprocAttr,gT,h1a,h5a,h9a,h10a,h11a,hol]
 refine ⟨fun h=>?_,fun h=>?_⟩
 ·have hg:=zpA hb h
  have hx:zco .i64 (fc:Int) (bs.getD k 0:Nat) = ((fc ^^^ (fc &&& bs.getD k 0):Nat):Int):=zbi (by omega) (by omega)
  have hx64:=zpx (s:=fc) (g:=bs.getD k 0) hs
  have hpp:zms ((fc ^^^ (fc &&& bs.getD k 0):Nat):Int) = (zat (fc ^^^ (fc &&& bs.getD k 0)):Nat):=by rw [zc1 (by omega)];simp
  have hst:(bs.take (k + 1)).foldl (npS fc) 0 = npS fc ((bs.take k).foldl (npS fc) 0) (bs.getD k 0):=ztY (npS fc) 0 h
  have hlt:(bs.take k).foldl (npS fc) 0 < 64:=zKn (bs:=bs.take k) hs
  have hor:ior .i64 (((bs.take k).foldl (npS fc) 0:Nat):Int) ((fc ^^^ (fc &&& bs.getD k 0):Nat):Int) = (((bs.take k).foldl (npS fc) 0 ||| (fc ^^^ (fc &&& bs.getD k 0)):Nat):Int):=zlE (by omega) (by omega)
  rw [zaG h,hx]
  refine ⟨h,h,zab (zaA _) ?_⟩
  simp -dsimp only [↓gp,gq,simprocAttr,gT,h1a,h5a,h9a,h10a,h11a,hol,zaG h,hx,hpp]
  refine ⟨fun hp=>?_,fun hp=>?_⟩
  ·have hn:npS fc ((bs.take k).foldl (npS fc) 0) (bs.getD k 0) = (bs.take k).foldl (npS fc) 0 ||| (fc ^^^ (fc &&& bs.getD k 0)):=by unfold npS;rw [if_pos (by have:=beq_iff_eq.1 hp;omega)]
   exact zac (k + 1) (by refine ⟨?_,?_,?_,?_,?_,by omega⟩ <;> (first | (simp -dsimp only [gr,simprocAttr,h1a,h5a,h9a,h10a,h11a,zaa h hl,hst,hn,hor,hx];first | done | rfl | (simp;done)) | assumption | rfl)) (by first | omega | (simp only;omega) | (dsimp only;omega) | (show _ < _;simp;omega))
  ·have hn:npS fc ((bs.take k).foldl (npS fc) 0) (bs.getD k 0) = (bs.take k).foldl (npS fc) 0:=by unfold npS;rw [if_neg (by have:=beq_eq_false_iff_ne.1 hp;omega)]
   exact zac (k + 1) (by refine ⟨?_,?_,?_,?_,?_,by omega⟩ <;> (first | (simp -dsimp only [gr,simprocAttr,h1a,h5a,h9a,h10a,h11a,zaa h hl,hst,hn,hx];first | done | rfl | (simp;done)) | assumption | rfl)) (by first | omega | (simp only;omega) | (dsimp only;omega) | (show _ < _;simp;omega))
 ·obtain rfl:k = bs.length:=by omega
  unfold npN
  rw [List.take_length]
theorem zjD (bs:List Nat) (fc:Nat) (hb:zH0 bs) (hs:fc < 64):AC Tryz.prog 124 [zax (ofN bs),int fc] (.im (bool (zx8 bs fc))):=by
 refine AC.go (rs:=[.tmp 4]) zaD mixed Tryz.func124 rfl rfl rfl (by kernel_rfl) fun hl=>?_
 simp only [zaN,za4,and_true,zcD,zbI,true_and,zad] at hl
 have hol:=zad bs
 simp -dsimp only [↓gp,gq,simprocAttr,gT]
 refine zab (zmK bs fc hb hs) ?_
 simp -dsimp only [↓gp,gq,simprocAttr,gT]
 refine zah (fun (k:Nat) s=>s.sl 5 = int (npN bs fc:Nat)∧s.sl 11 = zax (ofN bs)∧s.sl 12 = int bs.length∧s.sl 13 = int k∧(k ≤ bs.length∧∀ i,i < k→(npN bs fc ^^^ (npN bs fc &&& bs.getD i 0) != 0) = true)) (fun k=>bs.length - k) (0) (by refine ⟨?_,?_,?_,?_,by simp⟩ <;> (first | (simp -dsimp only [gr,simprocAttr,hol];first | done | rfl | (simp;done)) | assumption | rfl)) ?_
 intro k sa ⟨h5a,h11a,h12a,h13a,hIa⟩
 obtain ⟨hk,hall⟩:=hIa
 simp -dsimp only [↓gp,gq,simprocAttr,gT,h5a,h11a,h12a,h13a,hol]
 refine ⟨fun h=>?_,fun h=>?_⟩
 ·have hg:=zpA hb h
  have hlt:=zKn (bs:=bs) hs
  have hx:zco .i64 (npN bs fc:Nat) (bs.getD k 0:Nat) = ((npN bs fc ^^^ (npN bs fc &&& bs.getD k 0):Nat):Int):=zbi (by omega) (by omega)
  rw [zaG h,hx]
  refine ⟨h,h,fun he=>?_,fun he=>zac (k + 1) ⟨(by (first | (simp -dsimp only [gr,simprocAttr,h5a,h11a,h12a,h13a,zaa h hl];first | done | rfl | (simp;done)) | assumption | rfl)),(by (first | (simp -dsimp only [gr,simprocAttr,h5a,h11a,h12a,h13a,zaa h hl];first | done | rfl | (simp;done)) | assumption | rfl)),(by (first | (simp -dsimp only [gr,simprocAttr,h5a,h11a,h12a,h13a,zaa h hl];first | done | rfl | (simp;done)) | assumption | rfl)),(by (first | (simp -dsimp only [gr,simprocAttr,h5a,h11a,h12a,h13a,zaa h hl];first | done | rfl | (simp;done)) | assumption | rfl)),⟨by omega,fun i hi=>?_⟩⟩ (by first | omega | (simp only;omega) | (dsimp only;omega) | (show _ < _;simp;omega))⟩
  ·unfold zx8
   rw [List.all_eq_false]
   refine ⟨_,zaj 0 h,?_⟩
   have he:npN bs fc ^^^ (npN bs fc &&& bs.getD k 0) = 0:=by have:=beq_iff_eq.1 he;omega
   rw [he];simp
  ·rcases Nat.lt_succ_iff_lt_or_eq.1 hi with hi | rfl
   ·exact hall i hi
   ·rw [bne_iff_ne]
    have:=beq_eq_false_iff_ne.1 he
    omega
 ·unfold zx8
  rw [List.all_eq_true]
  intro x hx
  obtain ⟨i,hi,rfl⟩:=zaR 0 hx
  exact hall i (by omega)
theorem zCg:∀ f,f < 64→∀ i,i < 6→(((f &&& 2 ^ i:Nat):Int) == 0) = !(Nat.testBit f i):=by decide +kernel
theorem zpB (bs:List Nat) (fc:Nat) (hb:zH0 bs) (hs:fc < 64):AC Tryz.prog 197 [zax (ofN bs),int fc] (.im (int (frN bs fc 6:Nat))):=by
 refine AC.go (rs:=[.tmp 4]) zaD mixed Tryz.func197 rfl rfl rfl (by kernel_rfl) fun hl=>?_
 simp only [zaN,za4,and_true,zcD,zbI,true_and,zad] at hl
 have hol:=zad bs
 simp (maxSteps:=9^7) -dsimp only [↓gp,gq,reduceCtorEq,reduceEqDiff,reduceLT,reduceLeDiff,reduceAdd,reduceMul,reduceSub,Nat.reduceBEq,Int.reduceToNat,Int.reduceLE,Int.reduceLT,Int.reduceNeg,reduceMod,gT]
 refine zah (fun (i:Nat) s=>s.sl 0 = zax (ofN bs)∧s.sl 1 = int fc∧s.sl 5 = int (frN bs fc i:Nat)∧s.sl 6 = int i∧(i ≤ 6)) (fun i=>6 - i) (0) (by refine ⟨?_,?_,?_,?_,by omega⟩ <;> (first | (simp (maxSteps:=9^7) -dsimp only [gr,reduceEqDiff,reduceLT,reduceAdd,reduceMod,Nat.reduceBEq,frN];first | done | rfl | (simp;done)) | assumption | rfl)) ?_
 intro i sa ⟨h0a,h1a,h5a,h6a,hIa⟩
 by_cases hi:i < 6
 ·have hui:IntKind.u64.wrap (i:Int) = (i:Int):=zaV (by omega)
  have hsh:zip .i64 1 (i:Int) = ((2 ^ i:Nat):Int):=zbf (by omega)
  have h2i:(2:Nat) ^ i ≤ 2 ^ 5:=Nat.pow_le_pow_right (by omega) (by omega)
  have han:zfE .i64 (fc:Int) ((2 ^ i:Nat):Int) = ((fc &&& 2 ^ i:Nat):Int):=zbc (by omega) (by omega)
  have hbit:(((fc &&& 2 ^ i:Nat):Int) == 0) = !(fc.testBit i):=zCg fc hs i hi
  have hfr:frN bs fc (i + 1) = if fc.testBit i && bs.any (fun g=>g &&& (fc - 2 ^ i) == fc - 2 ^ i) then frN bs fc i ||| 2 ^ i else frN bs fc i:=rfl
  simp (maxSteps:=9^7) -dsimp only [↓gp,gq,reduceCtorEq,reduceEqDiff,reduceLT,reduceLeDiff,reduceAdd,reduceMul,reduceSub,Nat.reduceBEq,Int.reduceToNat,Int.reduceLE,Int.reduceLT,Int.reduceNeg,reduceMod,gT,h0a,h1a,h5a,h6a,hui,hsh,han,hbit]
  refine ⟨fun _=>⟨fun hz=>?_,fun hz=>?_⟩,fun h=>absurd (show (i:Int) < 6 by omega) h⟩
  ·have hz:fc.testBit i = false:=by simpa using hz
   rw [hz,Bool.false_and,if_neg (by decide)] at hfr
   exact zac (i + 1) (by refine ⟨?_,?_,?_,?_,by omega⟩ <;> (first | (simp (maxSteps:=9^7) -dsimp only [gr,reduceEqDiff,reduceLT,reduceAdd,reduceMod,Nat.reduceBEq,h0a,h1a,h5a,h6a,zaa hi (by omega),hfr];first | done | rfl | (simp;done)) | assumption | rfl)) (by first | omega | (simp only;omega) | (dsimp only;omega) | (show _ < _;simp;omega))
  ·have hz:fc.testBit i = true:=by simpa using hz
   rw [hz,Bool.true_and] at hfr
   have hle:2 ^ i ≤ fc:=Nat.ge_two_pow_of_testBit hz
   have hsl:fc - 2 ^ i ≤ fc:=Nat.sub_le _ _
   have hsub:IntKind.i64.wrap ((fc:Int) - ((2 ^ i:Nat):Int)) = ((fc - 2 ^ i:Nat):Int):=by
    rw [← Int.ofNat_sub hle];exact zai (by omega) (by omega)
   generalize hq:(fun g=>g &&& (fc - 2 ^ i) == fc - 2 ^ i) = q at *
   refine zah (fun (k:Nat) s=>s.sl 0 = zax (ofN bs)∧s.sl 1 = int fc∧s.sl 5 = int (if (bs.take k).any q = true then frN bs fc i ||| 2 ^ i else frN bs fc i:Nat)∧s.sl 6 = int i∧s.sl 7 = int (2 ^ i:Nat)∧s.sl 8 = int k∧(k ≤ bs.length)) (fun k=>bs.length - k) (0) (by refine ⟨?_,?_,?_,?_,?_,?_,by omega⟩ <;> (first | (simp (maxSteps:=9^7) -dsimp only [gr,reduceEqDiff,reduceLT,reduceAdd,reduceMod,Nat.reduceBEq,h0a,h1a,h5a,h6a,hsh,hui,List.take_zero,List.any_nil];first | done | rfl | (simp;done)) | assumption | rfl)) ?_
   intro k sb ⟨h0b,h1b,h5b,h6b,h7b,h8b,hIb⟩
   simp (maxSteps:=9^7) -dsimp only [↓gp,gq,reduceCtorEq,reduceEqDiff,reduceLT,reduceLeDiff,reduceAdd,reduceMul,reduceSub,Nat.reduceBEq,Int.reduceToNat,Int.reduceLE,Int.reduceLT,Int.reduceNeg,reduceMod,gT,h0b,h1b,h5b,h6b,h7b,h8b,hol,hsub]
   refine ⟨fun hk=>?_,fun hk=>?_⟩
   ·have hg:=zpA hb hk
    have hx:zfE .i64 ((bs.getD k 0:Nat):Int) ((fc - 2 ^ i:Nat):Int) = ((bs.getD k 0 &&& (fc - 2 ^ i):Nat):Int):=zbc (by omega) (by omega)
    rw [zaG hk,hx]
    have hany:(bs.take (k + 1)).any q = ((bs.take k).any q || q (bs.getD k 0)):=by rw [zau 0 hk,List.any_append];simp
    have hqk:q (bs.getD k 0) = (bs.getD k 0 &&& (fc - 2 ^ i) == fc - 2 ^ i):=by rw [← hq]
    have hcast:(((bs.getD k 0 &&& (fc - 2 ^ i):Nat):Int) == ((fc - 2 ^ i:Nat):Int)) = (bs.getD k 0 &&& (fc - 2 ^ i) == fc - 2 ^ i):=by
     rw [Bool.eq_iff_iff,beq_iff_eq,beq_iff_eq];omega
    refine ⟨hk,hk,fun he=>?_,fun he=>?_⟩
    ·have he:q (bs.getD k 0) = true:=by rw [hqk,← hcast];exact he
     have hlt:frN bs fc i < 64:=zKo hs
     have hlt2:frN bs fc i ||| 2 ^ i < 64:=Nat.or_lt_two_pow (n:=6) hlt (by omega)
     have hor:ior .i64 ((if (bs.take k).any q = true then frN bs fc i ||| 2 ^ i else frN bs fc i:Nat):Int) ((2 ^ i:Nat):Int) = ((frN bs fc i ||| 2 ^ i:Nat):Int):=by
      rw [zlE (by split <;> omega) (by omega)]
      split
      ·rw [Nat.or_assoc,Nat.or_self]
      ·rfl
     exact zac (k + 1) (by refine ⟨?_,?_,?_,?_,?_,?_,by omega⟩ <;> (first | (simp (maxSteps:=9^7) -dsimp only [gr,reduceEqDiff,reduceLT,reduceAdd,reduceMod,Nat.reduceBEq,h0b,h1b,h5b,h6b,h7b,h8b,zaa hk hl,hany,he,hor,Bool.or_true,if_true];first | done | rfl | (simp;done)) | assumption | rfl)) (by first | omega | (simp only;omega) | (dsimp only;omega) | (show _ < _;simp;omega))
    ·have he:q (bs.getD k 0) = false:=by rw [hqk,← hcast];exact he
     exact zac (k + 1) (by refine ⟨?_,?_,?_,?_,?_,?_,by omega⟩ <;> (first | (simp (maxSteps:=9^7) -dsimp only [gr,reduceEqDiff,reduceLT,reduceAdd,reduceMod,Nat.reduceBEq,h0b,h1b,h5b,h6b,h7b,h8b,zaa hk hl,hany,he,Bool.or_false];first | done | rfl | (simp;done)) | assumption | rfl)) (by first | omega | (simp only;omega) | (dsimp only;omega) | (show _ < _;simp;omega))
   ·have e:k = bs.length:=by omega
    rw [e,List.take_length,← hfr] at h5b
    exact zac (i + 1) (by refine ⟨?_,?_,?_,?_,by omega⟩ <;> (first | (simp (maxSteps:=9^7) -dsimp only [gr,reduceEqDiff,reduceLT,reduceAdd,reduceMod,Nat.reduceBEq,h0a,h1a,h5a,h6a,h0b,h1b,h5b,h6b,zaa hi (by omega)];first | done | rfl | (simp;done)) | assumption | rfl)) (by first | omega | (simp only;omega) | (dsimp only;omega) | (show _ < _;simp;omega))
 ·have e:i = 6:=by omega
  subst e
  simp (maxSteps:=9^7) -dsimp only [↓gp,gq,reduceCtorEq,reduceEqDiff,reduceLT,reduceLeDiff,reduceAdd,reduceMul,reduceSub,Nat.reduceBEq,Int.reduceToNat,Int.reduceLE,Int.reduceLT,Int.reduceNeg,reduceMod,gT,h0a,h1a,h5a,h6a]
  exact fun h=>absurd h (by decide)
theorem zmL (bs:List Nat) (fc:Nat) (hb:zH0 bs) (hs:fc < 64):AC Tryz.prog 175 [zax (ofN bs),int fc] (.im (bool (zx8 bs fc))):=by
 refine AC.go (rs:=[.tmp 4]) zaD mixed Tryz.func175 rfl rfl rfl (by kernel_rfl) fun hl=>?_
 simp only [zaN,za4,and_true,zcD,zbI,true_and,zad] at hl
 have hol:=zad bs
 rw [zKp hs hb]
 simp -dsimp only [↓gp,gq,simprocAttr,gT,hol]
 refine ⟨fun h=>?_,fun h=>?_⟩
 ·have:bs = []:=List.eq_nil_of_length_eq_zero (by have:=beq_iff_eq.1 h;omega)
  subst this;rfl
 ·refine zab (zpB bs fc hb hs) ?_
  simp -dsimp only [↓gp,gq,simprocAttr,gT]
  have hlt:frN bs fc 6 < 64:=zKo hs
  refine zah (fun (k:Nat) s=>s.sl 0 = zax (ofN bs)∧s.sl 1 = int fc∧s.sl 5 = int (frN bs fc 6:Nat)∧s.sl 6 = int k∧(k ≤ bs.length∧∀ i,i < k→((bs.getD i 0 &&& fc) &&& frN bs fc 6 != frN bs fc 6) = true)) (fun k=>bs.length - k) (0) (by refine ⟨?_,?_,?_,?_,by simp⟩ <;> (first | (simp -dsimp only [gr,simprocAttr];first | done | rfl | (simp;done)) | assumption | rfl)) ?_
  intro k sa ⟨h0a,h1a,h5a,h6a,hIa⟩
  obtain ⟨hk,hall⟩:=hIa
  simp -dsimp only [↓gp,gq,simprocAttr,gT,h0a,h1a,h5a,h6a,hol]
  refine ⟨fun h=>?_,fun h=>?_⟩
  ·have hg:=zpA hb h
   have h1:bs.getD k 0 &&& fc ≤ fc:=Nat.and_le_right
   have hx:zfE .i64 (zfE .i64 ((bs.getD k 0:Nat):Int) (fc:Int)) ((frN bs fc 6:Nat):Int) = (((bs.getD k 0 &&& fc) &&& frN bs fc 6:Nat):Int):=by rw [zbc (by omega) (by omega),zbc (by omega) (by omega)]
   rw [zaG h,hx]
   refine ⟨h,h,fun he=>?_,fun he=>zac (k + 1) ⟨(by (first | (simp -dsimp only [gr,simprocAttr,h0a,h1a,h5a,h6a,zaa h hl];first | done | rfl | (simp;done)) | assumption | rfl)),(by (first | (simp -dsimp only [gr,simprocAttr,h0a,h1a,h5a,h6a,zaa h hl];first | done | rfl | (simp;done)) | assumption | rfl)),(by (first | (simp -dsimp only [gr,simprocAttr,h0a,h1a,h5a,h6a,zaa h hl];first | done | rfl | (simp;done)) | assumption | rfl)),(by (first | (simp -dsimp only [gr,simprocAttr,h0a,h1a,h5a,h6a,zaa h hl];first | done | rfl | (simp;done)) | assumption | rfl)),⟨by omega,fun i hi=>?_⟩⟩ (by first | omega | (simp only;omega) | (dsimp only;omega) | (show _ < _;simp;omega))⟩
   ·unfold zHX
    rw [List.all_eq_false]
    refine ⟨_,zaj 0 h,?_⟩
    have he:(bs.getD k 0 &&& fc) &&& frN bs fc 6 = frN bs fc 6:=by have:=beq_iff_eq.1 he;omega
    rw [he];simp
   ·rcases Nat.lt_succ_iff_lt_or_eq.1 hi with hi | rfl
    ·exact hall i hi
    ·rw [bne_iff_ne]
     have:=beq_eq_false_iff_ne.1 he
     omega
  ·unfold zHX
   rw [List.all_eq_true]
   intro x hx
   obtain ⟨i,hi,rfl⟩:=zaR 0 hx
   exact hall i (by omega)
def shB (l:List Int) (x:Int):Bool:=zx8 (l.map Int.toNat) x.toNat
theorem zsD {l:List Int} (h:okL l):ofN (l.map Int.toNat) = l:=by
 unfold ofN
 rw [List.map_map]
 have:∀ x ∈ l,((fun s:Nat=>(s:Int)) ∘ Int.toNat) x = id x:=fun x hx=>by
  have:=h x hx
  show ((x.toNat:Nat):Int) = x
  omega
 rw [List.map_congr_left this,List.map_id]
theorem zoq {l:List Int} (h:okL l):zH0 (l.map Int.toNat):=fun g hg=>by
 obtain ⟨x,hx,rfl⟩:=List.mem_map.1 hg
 have:=h x hx
 omega
theorem zD5 (l l':List Int) (x:Int) (h:l.Perm l'):shB l x = shB l' x:=zCb _ (h.map _)
theorem zx1 (l:List Int) (x:Int) (hl:okL l) (hx:0 ≤ x∧x < 64):AC Tryz.prog 124 [zax l,int x] (.im (bool (shB l x))):=by
 have:=zjD (l.map Int.toNat) x.toNat (zoq hl) (by omega)
 rw [zsD hl,show ((x.toNat:Nat):Int) = x by omega] at this
 exact this
theorem zx2 (l:List Int) (x:Int) (hl:okL l) (hx:0 ≤ x∧x < 64):AC Tryz.prog 175 [zax l,int x] (.im (bool (shB l x))):=by
 have:=zmL (l.map Int.toNat) x.toNat (zoq hl) (by omega)
 rw [zsD hl,show ((x.toNat:Nat):Int) = x by omega] at this
 exact this
theorem zmJ (gens:List Int) (hg:okL gens) (hgl:gens.length ≤ 1000):∀ (n:Nat) (head:List Int),okL head→head.length + n = gens.length →
 AF Tryz.prog 126 [.sl false 1 (iL gens)] (iL head) 3 (iL ((zch shB gens n head).getD [])) (zch shB gens n head).isSome:=by
 intro n
 induction n with
 | zero =>
   intro head hh hn
   unfold AF
   refine AG.go (rs:=[.tmp 4,.tmp 5]) zaD mixed Tryz.func126 rfl rfl rfl (by kernel_rfl) fun hl hrl z hz hr=>?_
   have z0:z.sl 0 = zax gens:=by rw [hz];rfl
   have z1:z.sl 1 = .own 1000000 1:=by rw [hz];rfl
   have y0:z.rw 1000000 = ⟨1,.sli 3 1 false (iL head)⟩:=by rw [hr,zfv]
   clear hz hr
   simp -dsimp only [↓gp,gq,simprocAttr,gT,z0,z1,y0]
   refine ⟨fun _=>⟨1000000,1,.inl rfl,rfl,by simp -dsimp only [gr,simprocAttr,y0];rfl⟩,fun h=>?_⟩
   rw [beq_eq_false_iff_ne] at h
   exact absurd (by omega) h
 | succ n ih =>
   intro head hh hn
   unfold AF
   refine AG.go (rs:=[.tmp 4,.tmp 5]) zaD mixed Tryz.func126 rfl rfl rfl (by kernel_rfl) fun hl hrl z hz hr=>?_
   have z0:z.sl 0 = zax gens:=by rw [hz];rfl
   have z1:z.sl 1 = .own 1000000 1:=by rw [hz];rfl
   have y0:z.rw 1000000 = ⟨1,.sli 3 1 false (iL head)⟩:=by rw [hr,zfv]
   clear hz hr
   simp -dsimp only [↓gp,gq,simprocAttr,gT,z0,z1,y0]
   have hne:((head.length:Int) == (gens.length:Int)) = false:=by rw [beq_eq_false_iff_ne];omega
   refine ⟨fun h=>absurd (hne.symm.trans h) (by decide),fun _=>?_⟩
   have hF:∀ g,(if decide (g ∈ head) || !shB head g then none else zch shB gens n (head ++ [g])) = (fun g=>if decide (g ∈ head) || !shB head g then none else zch shB gens n (head ++ [g])) g:=fun _=>rfl
   have hdef:zch shB gens (n + 1) head = gens.findSome? (fun g=>if decide (g ∈ head) || !shB head g then none else zch shB gens n (head ++ [g])):=rfl
   rw [hdef]
   generalize hf:(fun g=>if decide (g ∈ head) || !shB head g then none else zch shB gens n (head ++ [g])) = f at *
   refine zah (fun (k:Nat) s=>s.sl 0 = zax gens∧s.sl 1 = .own 1000000 1∧s.rw 1000000 = ⟨1,.sli 3 1 false (iL head)⟩∧s.sl 6 = int k∧(k ≤ gens.length∧(gens.take k).findSome? f = none)) (fun k=>gens.length - k) (0) (by refine ⟨?_,?_,?_,?_,⟨Nat.zero_le _,rfl⟩⟩ <;> (first | (simp -dsimp only [gr,simprocAttr,z0,z1,y0];first | done | rfl | (simp;done)) | assumption | rfl)) ?_
   intro k sa ⟨h0a,h1a,r1000000a,h6a,hIa⟩
   obtain ⟨hk,hnone⟩:=hIa
   simp -dsimp only [↓gp,gq,simprocAttr,gT,h0a,h1a,r1000000a,h6a]
   refine ⟨fun h=>?_,fun h=>?_⟩
   ·have hgk:=hg _ (zaj 0 h)
    refine ⟨h,h,zab (zdN head _) ?_⟩
    simp -dsimp only [↓gp,gq,simprocAttr,gT,h0a,h1a,r1000000a,h6a]
    have hgo:f (gens.getD k 0) = if decide (gens.getD k 0 ∈ head) || !shB head (gens.getD k 0) then none else zch shB gens n (head ++ [gens.getD k 0]):=by rw [← hf]
    have hskip:f (gens.getD k 0) = none→(gens.take (k + 1)).findSome? f = none:=fun e=>by rw [zeV f 0 h,hnone,e];rfl
    refine ⟨fun hm=>⟨h,h,zab (zx2 head _ hh hgk) ?_⟩,fun hm=>?_⟩
    ·simp -dsimp only [↓gp,gq,simprocAttr,gT,h0a,h1a,r1000000a,h6a]
     refine ⟨fun hb=>?_,fun hb=>?_⟩
     ·have e:f (gens.getD k 0) = none:=by rw [hgo,if_pos (by rw [show shB head (gens.getD k 0) = false by simpa using hb];simp)]
      exact zac (k + 1) (by refine ⟨?_,?_,?_,?_,⟨by omega,hskip e⟩⟩ <;> (first | (simp -dsimp only [gr,simprocAttr,h0a,h1a,r1000000a,h6a,zaa h (by omega)];first | done | rfl | (simp;done)) | assumption | rfl)) (by first | omega | (simp only;omega) | (dsimp only;omega) | (show _ < _;simp;omega))
     ·have hb:shB head (gens.getD k 0) = true:=by simpa using hb
      have e:f (gens.getD k 0) = zch shB gens n (head ++ [gens.getD k 0]):=by
       rw [hgo,if_neg (by rw [hb];simpa using hm)]
      have hIH:=ih (head ++ [gens.getD k 0]) (fun b hb'=>by
       rcases List.mem_append.1 hb' with h' | h'
       ·exact hh b h'
       ·rw [List.mem_singleton.1 h'];exact hgk) (by simp;omega)
      rw [← e] at hIH
      refine ⟨by kernel_rfl,by omega,h,h,by omega,zu1 hIH (fun _ _ _ _=>.one (.sl _ _ _) .nil) rfl (by simp -dsimp only [gr,simprocAttr];rw [show iL (head ++ [gens.getD k 0]) = iL head ++ iL [gens.getD k 0] from by simp [iL]]) (za9 _) (by decide) (by decide) ?_⟩
      simp -dsimp only [↓gp,gq,simprocAttr,gT,h0a,h1a,r1000000a,h6a]
      refine ⟨by kernel_rfl,fun hs=>?_,fun hs=>?_⟩
      ·obtain ⟨x,hx⟩:=Option.isSome_iff_exists.1 hs
       rw [zjj f 0 h hnone hx]
       rw [hx]
       exact ⟨47,_,.inr (by decide),rfl,by simp -dsimp only [gr,simprocAttr]⟩
      ·have e0:f (gens.getD k 0) = none:=by
        cases hx:f (gens.getD k 0) with
        | none=>rfl
        | some x=>rw [hx] at hs;cases hs
       exact zac (k + 1) (by refine ⟨?_,?_,?_,?_,⟨by omega,hskip e0⟩⟩ <;> (first | (simp -dsimp only [gr,simprocAttr,h0a,h1a,r1000000a,h6a,zaa h (by omega)];first | done | rfl | (simp;done)) | assumption | rfl)) (by first | omega | (simp only;omega) | (dsimp only;omega) | (show _ < _;simp;omega))
    ·have e:f (gens.getD k 0) = none:=by rw [hgo,if_pos (by simpa using Or.inl hm)]
     exact zac (k + 1) (by refine ⟨?_,?_,?_,?_,⟨by omega,hskip e⟩⟩ <;> (first | (simp -dsimp only [gr,simprocAttr,h0a,h1a,r1000000a,h6a,zaa h (by omega)];first | done | rfl | (simp;done)) | assumption | rfl)) (by first | omega | (simp only;omega) | (dsimp only;omega) | (show _ < _;simp;omega))
   ·have e:k = gens.length:=by omega
    rw [e,List.take_length] at hnone
    rw [hnone]
    exact ⟨52,_,.inr (by decide),rfl,by simp -dsimp only [gr,simprocAttr];rfl⟩
noncomputable def zwH (n:Int) (xs:List Int):Option (List Int):=if zaL n xs = true∧xs.length ≤ 8 then zch shB (ztX xs) (ztX xs).length [] else none
theorem zgQ (n:Int) (xs:List Int):AC Tryz.prog 62 [.ag [int n,zax xs]] (.tup [.fr 3 1 (iL ((zwH n xs).getD [])),.im (bool (zwH n xs).isSome)]):=by
 refine AC.go (rs:=[.tmp 2,.tmp 3]) zaD mixed Tryz.func62 rfl rfl rfl (by kernel_rfl) fun hl=>?_
 simp -dsimp only [↓gp,gq,simprocAttr,gT]
 refine zab (zaE n xs) ?_
 simp -dsimp only [↓gp,gq,simprocAttr,gT]
 unfold zwH
 refine ⟨fun hc=>?_,fun hc=>?_⟩
 ·have hc:zaL n xs = true:=by simpa using hc
  refine ⟨fun h8=>?_,fun h8=>?_⟩
  ·rw [if_neg (by omega)];exact ⟨rfl,rfl⟩
  ·rw [if_pos ⟨hc,by omega⟩]
   refine zah (fun (za:Nat × Nat) s=>match za with | (m,v)=>s.sl 1 = .ref 1 1 0∧s.rw 1 = ⟨1,.box 27 [int n,zax xs]⟩∧s.sl 4 = .own 18 v∧s.rw 18 = ⟨v,.sli 3 1 false (iL (ofN ((List.range m).filter (inF xs))))⟩∧s.sl 5 = int m∧(m ≤ 64)) (fun (m,v)=>64 - m) ((0,1)) (by refine ⟨?_,?_,?_,?_,?_,by simp⟩ <;> (first | (simp -dsimp only [gr,simprocAttr];first | done | rfl | (simp;done)) | assumption | rfl)) ?_
   intro (m,v) sa ⟨h1a,r1a,h4a,r18a,h5a,hIa⟩
   have hfl:((List.range m).filter (inF xs)).length ≤ 64:=by
    have:=List.length_filter_le (inF xs) (List.range m)
    rw [List.length_range] at this
    omega
   simp -dsimp only [↓gp,gq,simprocAttr,gT,h1a,r1a,h4a,r18a,h5a]
   refine ⟨fun h=>zab (zdN xs _) ?_,fun h=>?_⟩
   ·simp -dsimp only [↓gp,gq,simprocAttr,gT,h1a,r1a,h4a,r18a,h5a]
    have hyes:(m:Int) ∈ xs→ofN ((List.range (m + 1)).filter (inF xs)) = ofN ((List.range m).filter (inF xs)) ++ [(m:Int)]:=fun h=>by
     rw [List.range_succ,List.filter_append,zaS]
     simp [inF,h,ofN]
    have hno:¬ (m:Int) ∈ xs→ofN ((List.range (m + 1)).filter (inF xs)) = ofN ((List.range m).filter (inF xs)):=fun h=>by
     rw [List.range_succ,List.filter_append,zaS]
     simp [inF,h,ofN]
    refine ⟨fun hm=>⟨by rw [zad];omega,zac ((m + 1,v + 1)) (by refine ⟨?_,?_,?_,?_,?_,by dsimp only;omega⟩ <;> (first | (simp -dsimp only [gr,simprocAttr,h1a,r1a,h4a,r18a,h5a,zaa (show m < 64 by omega) (by omega),hyes hm];first | done | rfl | (simp;done)) | assumption | rfl)) (by first | omega | (simp only;omega) | (dsimp only;omega) | (show _ < _;simp;omega))⟩,fun hm=>zac ((m + 1,v)) (by refine ⟨?_,?_,?_,?_,?_,by dsimp only;omega⟩ <;> (first | (simp -dsimp only [gr,simprocAttr,h1a,r1a,h4a,r18a,h5a,zaa (show m < 64 by omega) (by omega),hno hm];first | done | rfl | (simp;done)) | assumption | rfl)) (by first | omega | (simp only;omega) | (dsimp only;omega) | (show _ < _;simp;omega))⟩
   ·have e64:m = 64:=by omega
    subst e64
    have hF:=zmJ (ztX xs) (zKu xs) (by have:=zHn xs;omega) (ztX xs).length [] (fun b hb=>by cases hb) (by simp)
    generalize zch shB (ztX xs) (ztX xs).length [] = o at *
    refine zAR hF (fun _ _=>.one (.lent (by decide) (show _ = (⟨v,.sli 3 1 false _⟩:Row) by simp -dsimp only [gr,simprocAttr,h1a,r1a,h4a,r18a,h5a];rfl)) .nil) rfl (by simp -dsimp only [gr,simprocAttr];rfl) (za9 _) (by decide) fun S v2 r hr hSd hSr hSs hSrw=>?_
    rcases hr with rfl | rfl
    ·simp -dsimp only [↓gp,gq,simprocAttr,gT,hSd,hSr]
    ·simp -dsimp only [↓gp,gq,simprocAttr,gT,hSd,hSr]
 ·rw [if_neg (fun h=>by rw [h.1] at hc;cases hc)];exact ⟨rfl,rfl⟩
theorem zHg (n:Int) (xs:List Int):zwH n xs = if zaL n xs = true then zop shB xs else none:=by
 unfold zwH zop
 by_cases hc:zaL n xs = true
 ·have hp:=zaP.1 hc
  have e:=zD4 (zor hp) (zFL hp)
  rw [if_pos hc,← e,zmb]
  by_cases h8:xs.length ≤ 8
  ·rw [if_pos ⟨hc,h8⟩,if_pos h8]
  ·rw [if_neg (fun h=>h8 h.2),if_neg h8]
 ·rw [if_neg hc,if_neg (fun h=>hc h.1)]
theorem zgR (n:Int) (xs:List Int):AC Tryz.prog 61 [.ag [int n,zax xs]] (.tup [.fr 3 1 (iL ((zwH n xs).getD [])),.im (bool (zwH n xs).isSome)]):=by
 refine AC.go (rs:=[.tmp 2,.tmp 3]) zaD mixed Tryz.func61 rfl rfl rfl (by kernel_rfl) fun hl=>?_
 rw [zHg]
 simp -dsimp only [↓gp,gq,simprocAttr,gT]
 refine zab (zaq n xs) ?_
 simp -dsimp only [↓gp,gq,simprocAttr,gT]
 refine ⟨fun hc=>?_,fun hc=>?_⟩
 ·have hc:zaL n xs = false:=by simpa using hc
  rw [if_neg (by rw [hc];decide)];exact ⟨rfl,rfl⟩
 ·have hc:zaL n xs = true:=by simpa using hc
  have hp:=zaP.1 hc
  rw [if_pos hc]
  refine zab (zsA 124 shB zx1 zD5 xs (zor hp) (zFL hp)) ?_
  simp -dsimp only [↓gp,gq,simprocAttr,gT]
theorem zDM {m:Nat} {xs:List Int} (h:zaL (m:Int) xs = true) {s:Nat} (hs:s < 64):zag (ofN (zd9 (inF (zl5 xs s)) true)) = zbx (zag xs) s:=by
 funext t
 rw [← zBL h hs t]
 unfold zbh
 rw [zBK h hs,Bool.true_and]
theorem zhZ (n:Int) (xs:List Int):AC Tryz.prog 73 [.ag [int n,zax xs]] (.im (bool (zwH n xs).isSome)):=by
 refine AC.go (rs:=[.tmp 2]) zaD mixed Tryz.func73 rfl rfl rfl (by kernel_rfl) fun hl=>?_
 simp -dsimp only [↓gp,gq,simprocAttr,gT]
 refine zab (zgQ n xs) ?_
 simp -dsimp only [↓gp,gq,simprocAttr,gT]
theorem zDy {n:Int} {xs:List Int} (h:zaL n xs = true) (h2:¬ zjf n xs = true):(za8 (zag xs):Int) - 2 = zdi n xs:=by
 have e:=zl0 h h2
 subst e
 have h1:zdi n [] = -2:=if_neg h2
 have h3:za8 (zag []) = 0:=by
  have:(fun s=>zag [] s) = fun _=>false:=funext fun s=>rfl
  show za8 (fun s=>zag [] s) = 0
  rw [this];decide +kernel
 rw [h1,h3];rfl
theorem zdc (n:Int) (xs:List Int):AC Tryz.prog 37 [.ag [int n,zax xs]] (.im (int (zdi n xs))):=by
 refine AC.go (rs:=[.tmp 2]) zaD mixed Tryz.func37 rfl rfl rfl (by kernel_rfl) fun hl=>?_
 simp -dsimp only [↓gp,gq,simprocAttr,gT]
 refine zab (zaq n xs) ?_
 simp -dsimp only [↓gp,gq,simprocAttr,gT]
 refine ⟨fun hg=>?_,fun hg=>?_⟩
 ·have e:zdi n xs = -2:=if_neg fun h=>by have:=(zbz.1 h).1;rw [this] at hg;cases hg
  rw [e]
 ·have hg:zaL n xs = true:=by simpa using hg
  refine zab (zaW n xs (zb4 hg)) ?_
  simp -dsimp only [↓gp,gq,simprocAttr,gT]
  refine zab (zc4 (zag xs)) ?_
  have hd:=zbj (zag xs)
  have hw:IntKind.i64.wrap ((za8 (zag xs):Int) - 1 - 1) = zdi n xs:=by
   rw [zai (by omega) (by omega)]
   by_cases hF:zjf n xs = true
   ·have:=zlZ hF;omega
   ·have:=zDy hg hF;omega
  simp -dsimp only [↓gp,gq,simprocAttr,gT,hw]
theorem zdW (n:Int) (xs:List Int) (k:Nat) (hk7:k < 100):AC Tryz.prog 202 [.ag [int n,zax xs],int k] (.fr 3 1 (iL (ofN (zaQ (zbh n xs) k 64)))):=by
 refine AC.go (rs:=[.tmp 4]) zaD mixed Tryz.func202 rfl rfl rfl (by kernel_rfl) fun hl=>?_
 simp -dsimp only [↓gp,gq,simprocAttr,gT]
 refine zab (zaq n xs) ?_
 simp -dsimp only [↓gp,gq,simprocAttr,gT]
 refine ⟨fun hg=>?_,fun hg=>?_⟩
 ·have e:zaQ (zbh n xs) k 64 = []:=by
   unfold zaQ
   refine List.filter_eq_nil_iff.2 fun s hs hp=>?_
   rw [Bool.and_eq_true] at hp
   have:=hp.1
   unfold zbh at this
   rw [show zaL n xs = false by simpa using hg] at this
   cases this
  rw [e];rfl
 ·have hg:zaL n xs = true:=by simpa using hg
  have ef:zbh n xs = zag xs:=funext fun s=>by unfold zbh;rw [hg,Bool.true_and]
  rw [ef]
  refine zab (zaW n xs (zb4 hg)) ?_
  simp -dsimp only [↓gp,gq,simprocAttr,gT]
  have hE:AC Tryz.prog 150 [u64 (zaB (zag xs) 64:Nat)] (.tb 22 3 ((zeo (zag xs)).map iL)):=by
   have:=zgw (zag xs)
   unfold zeo
   rw [List.map_map]
   exact this
  have hsl:=zeM (zag xs)
  have hd:=zbj (zag xs)
  refine zBM hE (fun i hi=>by simp -dsimp only [gr,simprocAttr]) fun S hS0 hSd0 hSs hSr=>?_
  simp only [u64,zho] at hS0 hSd0
  have hS:TabI S.rw 11 1 22 3 (List.range (zeo (zag xs)).length) (zeo (zag xs)):=hS0
  have hSd:S.sl 11 = .own 11 1:=hSd0
  have u1:S.sl 1 = int k:=by rw [hSs 1 (by decide)];simp -dsimp only [gr,simprocAttr]
  have u4:S.sl 4 = .own 4 1:=by rw [hSs 4 (by decide)];simp -dsimp only [gr,simprocAttr]
  have w4:S.rw 4 = ⟨1,.sli 3 1 false []⟩:=by rw [hSr 4 (by decide)];simp -dsimp only [gr,simprocAttr]
  rw [hsl] at hS
  have htop:=hS.top
  simp -dsimp only [↓gp,gq,simprocAttr,gT,hSd,u1,u4,w4,htop,zk3,zar,List.length_range]
  refine ⟨fun _=>⟨fun h=>?_,fun h=>⟨by omega,by omega,?_⟩⟩,fun h=>absurd h (by omega)⟩
  ·have e:zaQ (zag xs) k 64 = []:=by
    unfold zaQ
    refine List.filter_eq_nil_iff.2 fun s hs hp=>?_
    rw [Bool.and_eq_true,beq_iff_eq] at hp
    have:zat s < za8 (zag xs):=zeP 64 s (List.mem_range.1 hs) hp.1
    omega
   rw [e];rfl
  ·have e2:(List.range (za8 (zag xs))).getD k 0 = k:=by simp [List.getD,show k < za8 (zag xs) by omega]
   have hr:=hS.is.row k (by rw [List.length_range];omega)
   rw [e2] at hr ⊢
   have hsid:∀ k,k < 7→sid 11 k < lent:=by decide
   rw [hr,zc9,zdH _ (by omega),zie _ _ _ _ _ _ (hsid k (by omega))]
   exact ⟨rfl,by simp⟩
noncomputable def goL (n:Int) (xs:List Int):List Int:=if zaL n xs = true then ofN (zaQ (zag xs) 2 64) else []
noncomputable def goN (n:Int) (xs:List Int):Int:=if zaL n xs = true then n else 0
theorem zmC (n:Int) (xs:List Int):AC Tryz.prog 203 [.ag [int n,zax xs]] (.tup [.ag [.im (int (goN n xs)),.fr 3 1 (iL (goL n xs))],.im (bool (zaL n xs))]):=by
 refine AC.go (rs:=[.cell 2 147,.tmp 3]) zaD mixed Tryz.func203 rfl rfl rfl (by kernel_rfl) fun hl=>?_
 simp -dsimp only [↓gp,gq,simprocAttr,gT]
 refine zab (zaq n xs) ?_
 simp -dsimp only [↓gp,gq,simprocAttr,gT]
 have h2:AC Tryz.prog 202 [.ag [int n,zax xs],int 2] (.fr 3 1 (iL (ofN (zaQ (zbh n xs) 2 64)))):=zdW n xs 2 (by decide)
 refine ⟨fun hg=>?_,fun hg=>⟨by kernel_rfl,zab h2 ?_⟩⟩
 ·unfold goN goL
  rw [show zaL n xs = false by simpa using hg];exact ⟨rfl,rfl,rfl⟩
 ·have hg:zaL n xs = true:=by simpa using hg
  have e1:goN n xs = n:=if_pos hg
  have e:zbh n xs = zag xs:=funext fun s=>by unfold zbh;rw [hg,Bool.true_and]
  have e2:goL n xs = ofN (zaQ (zag xs) 2 64):=if_pos hg
  rw [e1,hg,e2,e]
  simp -dsimp only [↓gp,gq,simprocAttr,gT]
  kernel_rfl
def mxP (l:List Nat):Int:=l.foldl (fun m s=>if m < (zat s:Int) then (zat s:Int) else m) (-1)
theorem zws (l:List Nat) (s:Nat):mxP (l ++ [s]) = if mxP l < (zat s:Int) then (zat s:Int) else mxP l:=by
 unfold mxP;rw [List.foldl_append];rfl
theorem zwt:∀ (L:List Nat),L.Pairwise zsJ→∀ k,k ≤ L.length→mxP (L.take k) = if k = 0 then -1 else (zat (L.getD (k - 1) 0):Int)
 | L,h,0,_=>by rw [List.take_zero];rfl
 | L,h,k + 1,hk=>by
   have ih:=zwt L h k (by omega)
   have hg:(if k + 1 = 0 then (-1:Int) else (zat (L.getD (k + 1 - 1) 0):Int)) = (zat (L.getD k 0):Int):=by rw [if_neg (by omega),Nat.add_sub_cancel]
   rw [zau 0 (by omega),zws,ih,hg]
   by_cases h0:k = 0
   ·rw [if_pos h0,if_pos (by omega)]
   ·rw [if_neg h0]
    have hb:=List.pairwise_iff_getElem.1 h (k - 1) k (by omega) (by omega) (by omega)
    have e1:L.getD (k - 1) 0 = L[k - 1]:=by simp [List.getD,show k - 1 < L.length by omega]
    have e2:L.getD k 0 = L[k]:=by simp [List.getD,show k < L.length by omega]
    rw [e1,e2]
    unfold zsJ at hb
    by_cases hlt:(zat L[k - 1]:Int) < zat L[k]
    ·rw [if_pos hlt]
    ·rw [if_neg hlt];omega
theorem zGF (n:Int) (xs:List Int):mxP (zka n xs) = gmO n xs:=by
 have h:=zwt (zka n xs) ((zo7 _).filter _) (zka n xs).length (Nat.le_refl _)
 rw [List.take_length] at h
 rw [h]
 unfold gmO
 by_cases e:zka n xs = []
 ·rw [if_pos e,e];rfl
 ·rw [if_neg e,if_neg fun h=>e (List.eq_nil_of_length_eq_zero h)]
theorem zfh (n:Int) (xs:List Int):AC Tryz.prog 131 [.ag [int n,zax xs]] (.im (int (gmO n xs))):=by
 refine AC.go (rs:=[.tmp 2]) zaD mixed Tryz.func131 rfl rfl rfl (by kernel_rfl) fun hl=>?_
 simp -dsimp only [↓gp,gq,simprocAttr,gT]
 refine zab (zdY n xs) ?_
 rw [← zGF]
 have h64:=fun i=>zBo (n:=n) (xs:=xs) (i:=i)
 have hml:=zhX n xs
 generalize zka n xs = L at *
 simp -dsimp only [↓gp,gq,simprocAttr,gT,zad]
 refine zah (fun (k:Nat) s=>s.sl 3 = int (mxP (L.take k))∧s.sl 7 = .own 7 1∧s.rw 7 = ⟨1,.sli 3 1 false (iL (ofN L))⟩∧s.sl 8 = int L.length∧s.sl 9 = int k∧(k ≤ L.length)) (fun k=>L.length - k) (0) (by refine ⟨?_,?_,?_,?_,?_,Nat.zero_le _⟩ <;> (first | (simp -dsimp only [gr,simprocAttr];first | done | rfl | (simp;done)) | assumption | rfl)) ?_
 intro k sa ⟨h3a,h7a,r7a,h8a,h9a,hIa⟩
 simp -dsimp only [↓gp,gq,simprocAttr,gT,h3a,h7a,r7a,h8a,h9a,zad]
 refine ⟨fun hk=>?_,fun hk=>?_⟩
 ·have h6:=h64 k hk
  have hge:(ofN L).getD k 0 = ((L.getD k 0:Nat):Int):=zaG hk
  have hs:=zws (L.take k) (L.getD k 0)
  rw [← zau 0 hk] at hs
  have hsz:zms ((L.getD k 0:Nat):Int) = (zat (L.getD k 0):Int):=zc3 h6
  rw [hge]
  refine ⟨hk,hk,zab (zaA _) ?_⟩
  simp -dsimp only [↓gp,gq,simprocAttr,gT,h3a,h7a,r7a,h8a,h9a,zad,hsz]
  refine ⟨fun hlt=>zab (zaA _) ?_,fun hlt=>?_⟩
  ·rw [if_pos hlt] at hs
   simp -dsimp only [↓gp,gq,simprocAttr,gT,h3a,h7a,r7a,h8a,h9a,hsz]
   exact zac (k + 1) (by refine ⟨?_,?_,?_,?_,?_,by omega⟩ <;> (first | (simp -dsimp only [gr,simprocAttr,h3a,h7a,r7a,h8a,h9a,hs,zaa hk (by omega)];first | done | rfl | (simp;done)) | assumption | rfl)) (by first | omega | (simp only;omega) | (dsimp only;omega) | (show _ < _;simp;omega))
  ·rw [if_neg hlt] at hs
   exact zac (k + 1) (by refine ⟨?_,?_,?_,?_,?_,by omega⟩ <;> (first | (simp -dsimp only [gr,simprocAttr,h3a,h7a,r7a,h8a,h9a,hs,zaa hk (by omega)];first | done | rfl | (simp;done)) | assumption | rfl)) (by first | omega | (simp only;omega) | (dsimp only;omega) | (show _ < _;simp;omega))
 ·have:k = L.length:=by omega
  rw [this,List.take_length]
theorem zhN (n:Int) (xs:List Int):AC Tryz.prog 65 [.ag [int n,zax xs]] (.im (bool (zwH n xs).isSome)):=by
 refine AC.go (rs:=[.tmp 2]) zaD mixed Tryz.func65 rfl rfl rfl (by kernel_rfl) fun hl=>?_
 simp -dsimp only [↓gp,gq,simprocAttr,gT]
 refine zab (zgR n xs) ?_
 simp -dsimp only [↓gp,gq,simprocAttr,gT]
theorem zph (n:Int) (xs:List Int):AC Tryz.prog 68 [.ag [int n,zax xs]] (.im (bool (zDz n xs))):=by
 refine AC.go (rs:=[.tmp 2]) zaD mixed Tryz.func68 rfl rfl rfl (by kernel_rfl) fun hl=>?_
 simp -dsimp only [↓gp,gq,simprocAttr,gT]
 refine zab (zaq n xs) ?_
 simp -dsimp only [↓gp,gq,simprocAttr,gT]
 unfold zDz
 refine ⟨fun h=>zab (zfh n xs) ?_,fun h=>?_⟩
 ·rw [h];simp -dsimp only [↓gp,gq,simprocAttr,gT]
 ·rw [h];rfl
end Go.Proofs.YtkledeboboplmaaGreatDoor

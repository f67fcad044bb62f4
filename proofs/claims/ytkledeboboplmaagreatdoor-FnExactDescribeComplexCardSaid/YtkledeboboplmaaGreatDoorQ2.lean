/- DERIVED by an AI agent. -/
import Derived.Test.YtkledeboboplmaaGreatDoorQ1
import Derived.Test.YtkledeboboplmaaGreatDoorP1
namespace Go.Proofs.YtkledeboboplmaaGreatDoor
open Go.Abs
set_option linter.unusedSimpArgs false
set_option linter.unusedVariables false
theorem zcs (p:Int):AC Tryz.prog 85 [int p] (.im (bool (isP p))):=by
 refine AC.go (rs:=[.tmp 2]) zaD mixed Tryz.func85 rfl rfl rfl (by kernel_rfl) fun hl=>?_
 simp -dsimp only [↓gp,gq,simprocAttr,gT]
 unfold isP
 exact ⟨fun h=>⟨fun h2=>by simp [h,h2],fun h2=>by simp [h,h2]⟩,fun h=>by simp [h]⟩
theorem zbR (p:Int):AC Tryz.prog 97 [int p] (.im (bool (isP p))):=by
 refine AC.go (rs:=[.tmp 2]) zaD mixed Tryz.func97 rfl rfl rfl (by kernel_rfl) fun hl=>?_
 simp -dsimp only [↓gp,gq,simprocAttr,gT]
 unfold isP
 exact ⟨fun h=>⟨fun h2=>by simp [h,h2],fun h2=>by simp [h,h2]⟩,fun h=>by simp [h]⟩
theorem zoj {a p:Int} (hp:0 < p):-p < a.tmod p∧a.tmod p < p:=⟨Int.lt_tmod_of_pos a hp,Int.tmod_lt_of_pos a hp⟩
theorem zeQ (a p:Int) (hp:isP p = true):AC Tryz.prog 184 [int a,int p] (.im (int (a % p))):=by
 refine AC.go (rs:=[.tmp 4]) zaD mixed Tryz.func184 rfl rfl rfl (by kernel_rfl) fun hl=>?_
 have hp:=zcq hp
 have h1:=zoj (a:=a) (by omega:0 < p)
 have hw:IntKind.i64.wrap (a.tmod p + p) = a.tmod p + p:=zai (by omega) (by omega)
 have hm:=zBu a p (by omega)
 simp -dsimp only [↓gp,gq,simprocAttr,gT,hw,hm]
 omega
theorem zgx (a p:Int) (hp:isP p = true):AC Tryz.prog 214 [int a,int p] (.im (int (a % p))):=by
 refine AC.go (rs:=[.tmp 4]) zaD mixed Tryz.func214 rfl rfl rfl (by kernel_rfl) fun hl=>?_
 have hp:=zcq hp
 have h1:=zoj (a:=a) (by omega:0 < p)
 have hw:IntKind.i64.wrap (a.tmod p + p) = a.tmod p + p:=zai (by omega) (by omega)
 have hm:=zBu a p (by omega)
 simp -dsimp only [↓gp,gq,simprocAttr,gT,hw]
 refine ⟨by omega,fun h=>?_,fun h=>?_⟩
 ·rw [← hm,zcV (by omega),Int.emod_eq_of_lt (by omega) (by omega)]
 ·rw [← hm,Int.tmod_eq_emod_of_nonneg (by omega),Int.add_emod_right,Int.emod_eq_of_lt (by omega) (by omega)]
theorem zj9 {p r b:Int} (h:b < p):zdh p r b (p - b).toNat = if r * b % p = 1 then b else zdh p r (b + 1) (p - (b + 1)).toNat:=by
 have e:(p - b).toNat = (p - (b + 1)).toNat + 1:=by omega
 rw [e,zdh]
theorem ziA (a p:Int) (hp:isP p = true):AC Tryz.prog 208 [int a,int p] (.im (int (zmD p a))):=by
 refine AC.go (rs:=[.tmp 4]) zaD mixed Tryz.func208 rfl rfl rfl (by kernel_rfl) fun hl=>?_
 have hp2:=zcq hp
 simp -dsimp only [↓gp,gq,simprocAttr,gT]
 refine zab (zcs p) ?_
 simp -dsimp only [↓gp,gq,simprocAttr,gT,hp]
 have hr:=Int.emod_nonneg a (by omega:p ≠ 0)
 have hr2:=Int.emod_lt_of_pos a (by omega:0 < p)
 refine zah (fun (b:Int) s=>s.sl 0 = int a∧s.sl 1 = int p∧s.sl 5 = int b∧(1 ≤ b∧b ≤ p∧zmD p a = zdh p (a % p) b (p - b).toNat)) (fun b=>(p - b).toNat) (1) (by refine ⟨?_,?_,?_,⟨by omega,by omega,rfl⟩⟩ <;> (first | (simp -dsimp only [gr,simprocAttr];first | done | rfl | (simp;done)) | assumption | rfl)) ?_
 intro b sa ⟨h0a,h1a,h5a,hIa⟩
 obtain ⟨hb,hb2,hv⟩:=hIa
 simp -dsimp only [↓gp,gq,simprocAttr,gT,h0a,h1a,h5a]
 refine ⟨fun h=>zab (zeQ a p hp) ?_,fun h=>?_⟩
 ·have hm:0 ≤ a % p * b∧a % p * b ≤ 20:=by
   refine ⟨Int.mul_nonneg hr (by omega),?_⟩
   have:=Int.mul_le_mul (show a % p ≤ 4 by omega) (show b ≤ 5 by omega) (by omega) (by omega)
   omega
  have hw:IntKind.i64.wrap (a % p * b) = a % p * b:=zai (by omega) (by omega)
  have hw2:IntKind.i64.wrap (b + 1) = b + 1:=zai (by omega) (by omega)
  simp -dsimp only [↓gp,gq,simprocAttr,gT,h0a,h1a,h5a,hw,hw2,zcV hm.1]
  refine ⟨by omega,fun h1=>?_,fun h1=>zac (b + 1) ⟨(by (first | (simp -dsimp only [gr,simprocAttr,h0a,h1a,h5a,hw2];first | done | rfl | (simp;done)) | assumption | rfl)),(by (first | (simp -dsimp only [gr,simprocAttr,h0a,h1a,h5a,hw2];first | done | rfl | (simp;done)) | assumption | rfl)),(by (first | (simp -dsimp only [gr,simprocAttr,h0a,h1a,h5a,hw2];first | done | rfl | (simp;done)) | assumption | rfl)),⟨by omega,by omega,?_⟩⟩ (by first | omega | (simp only;omega) | (dsimp only;omega) | (show _ < _;simp;omega))⟩
  ·have h1:=beq_iff_eq.1 h1
   rw [hv,zj9 h,if_pos h1]
  ·have h1:¬ a % p * b % p = 1:=by simpa using h1
   rw [hv,zj9 h,if_neg h1]
 ·have:(p - b).toNat = 0:=by omega
  rw [hv,this];rfl
theorem ziB (a p:Int) (hp:isP p = true):AC Tryz.prog 213 [int a,int p] (.im (int (zmD p a))):=by
 refine AC.go (rs:=[.tmp 4]) zaD mixed Tryz.func213 rfl rfl rfl (by kernel_rfl) fun hl=>?_
 have hp2:=zcq hp
 simp -dsimp only [↓gp,gq,simprocAttr,gT]
 refine zab (zbR p) ?_
 simp -dsimp only [↓gp,gq,simprocAttr,gT,hp]
 have hr:=Int.emod_nonneg a (by omega:p ≠ 0)
 have hr2:=Int.emod_lt_of_pos a (by omega:0 < p)
 refine zab (zgx a p hp) ?_
 simp -dsimp only [↓gp,gq,simprocAttr,gT]
 refine zah (fun (b:Int) s=>s.sl 1 = int p∧s.sl 5 = int (a % p)∧s.sl 6 = int b∧(1 ≤ b∧b ≤ p∧zmD p a = zdh p (a % p) b (p - b).toNat)) (fun b=>(p - b).toNat) (1) (by refine ⟨?_,?_,?_,⟨by omega,by omega,rfl⟩⟩ <;> (first | (simp -dsimp only [gr,simprocAttr];first | done | rfl | (simp;done)) | assumption | rfl)) ?_
 intro b sa ⟨h1a,h5a,h6a,hIa⟩
 obtain ⟨hb,hb2,hv⟩:=hIa
 have hm:0 ≤ a % p * b∧a % p * b ≤ 20:=by
  refine ⟨Int.mul_nonneg hr (by omega),?_⟩
  have:=Int.mul_le_mul (show a % p ≤ 4 by omega) (show b ≤ 5 by omega) (by omega) (by omega)
  omega
 have hw:IntKind.i64.wrap (a % p * b) = a % p * b:=zai (by omega) (by omega)
 have hw2:IntKind.i64.wrap (b + 1) = b + 1:=zai (by omega) (by omega)
 simp -dsimp only [↓gp,gq,simprocAttr,gT,h1a,h5a,h6a,hw,hw2,zcV hm.1]
 refine ⟨fun h=>⟨by omega,fun h1=>?_,fun h1=>zac (b + 1) ⟨(by (first | (simp -dsimp only [gr,simprocAttr,h1a,h5a,h6a,hw2];first | done | rfl | (simp;done)) | assumption | rfl)),(by (first | (simp -dsimp only [gr,simprocAttr,h1a,h5a,h6a,hw2];first | done | rfl | (simp;done)) | assumption | rfl)),(by (first | (simp -dsimp only [gr,simprocAttr,h1a,h5a,h6a,hw2];first | done | rfl | (simp;done)) | assumption | rfl)),⟨by omega,by omega,?_⟩⟩ (by first | omega | (simp only;omega) | (dsimp only;omega) | (show _ < _;simp;omega))⟩,fun h=>?_⟩
 ·have h1:=beq_iff_eq.1 h1
  rw [hv,zj9 h,if_pos h1]
 ·have h1:¬ a % p * b % p = 1:=by simpa using h1
  rw [hv,zj9 h,if_neg h1]
 ·have:(p - b).toNat = 0:=by omega
  rw [hv,this];rfl
theorem zwy (p:Int) {r:List Int} {j:Nat} (h:j < r.length):(r.map fun x=>x % p).getD j 0 = r.getD j 0 % p:=by simp [List.getD,h]
theorem zsn (p:Int) {M:Mat} {i:Nat} (h:i < M.length):zgZ p (M.take i) ++ [(M.getD i []).map fun x=>x % p] = zgZ p (M.take (i + 1)):=by
 rw [zau [] h];simp [zgZ]
theorem zhV (p:Int) {M:Mat} {i:Nat} (h:i ≤ M.length):(zgZ p (M.take i)).length = i:=by simp [zgZ];omega
theorem zjA (M:Mat) (p:Int) (hp:isP p = true) (hM:M.length ≤ 900) (hr:∀ i,i < M.length→(M.getD i []).length ≤ 1000):AC Tryz.prog 189 [zCx M,int p] (.tb 22 3 ((zgZ p M).map iL)):=by
 refine AC.go (rs:=[.tmp 4]) zaD mixed Tryz.func189 rfl rfl rfl (by kernel_rfl) fun hl=>?_
 simp -dsimp only [↓gp,gq,simprocAttr,gT]
 refine ⟨by omega,by omega,?_⟩
 refine zwh (k:=12) (v:=1) (e:=22) (e2:=3) (n:=M.length) (by simp -dsimp only [gr,simprocAttr]) (fun j=>by simp -dsimp only [gr,simprocAttr]) (fun (i:Nat) s=>s.sl 0 = zCx M∧s.sl 1 = int p∧s.sl 5 = .own 12 1∧s.sl 13 = zCx M∧s.sl 14 = int M.length∧s.sl 15 = int i∧(i ≤ M.length∧TabP s.rw 12 1 22 3 M.length i (zgZ p (M.take i)))) (fun i=>M.length - i) (0) (fun sX htX hslX hoX=>(by refine ⟨?_,?_,?_,?_,?_,?_,⟨by omega,htX⟩⟩ <;> (first | (simp -dsimp only [gr,simprocAttr,hslX,hoX];first | done | rfl | (simp;done)) | assumption | rfl))) ?_
 intro i sa ⟨h0a,h1a,h5a,h13a,h14a,h15a,hIa⟩
 obtain ⟨hi,ht⟩:=hIa
 simp -dsimp only [↓gp,gq,simprocAttr,gT,h0a,h1a,h5a,h13a,h14a,h15a,ht.top,zbN]
 refine ⟨fun h=>⟨h,h,by have:=hr i h;omega,by have:=hr i h;omega,h,by omega,?_⟩,fun h=>?_⟩
 ·have hri:=hr i h
  have hlen:=zhV p hi
  generalize hrow:M.getD i [] = row at *
  refine zr2 (k:=12) (v:=1) (e:=22) (e2:=3) (n:=M.length) (i:=i) (d:=24) (vd:=(sa.rw 24).ver + 1) (M:=zgZ p (M.take i)) (r:=List.replicate row.length 0) (by simp -dsimp only [gr,simprocAttr,ht.top]) hlen (fun j hj=>by simp -dsimp only [gr,simprocAttr,ht.row j hj]) (fun j hj=>by simp -dsimp only [gr,simprocAttr,ht.rest j hj]) (by simp -dsimp only [gr,simprocAttr]) (by decide) (by decide) h (fun (j:Nat) s=>s.sl 0 = zCx M∧s.sl 1 = int p∧s.sl 5 = .own 12 1∧s.sl 13 = zCx M∧s.sl 14 = int M.length∧s.sl 15 = int i∧s.sl 6 = int i∧s.sl 7 = zax row∧s.sl 26 = zax row∧s.sl 27 = int row.length∧s.sl 28 = int j∧(j ≤ row.length∧TabP s.rw 12 1 22 3 M.length (i + 1) (zgZ p (M.take i) ++ [prt (row.map fun x=>x % p) (List.replicate row.length 0) j]))) (fun j=>row.length - j) (0) (fun sX htX hslX hoX=>(by refine ⟨?_,?_,?_,?_,?_,?_,?_,?_,?_,?_,?_,⟨by omega,by rw [zeL];exact htX⟩⟩ <;> (first | (simp -dsimp only [gr,simprocAttr,hslX,hoX,h0a,h1a,h5a,h13a,h14a,h15a];first | done | rfl | (simp;done)) | assumption | rfl))) ?_
  intro j sb ⟨h0b,h1b,h5b,h13b,h14b,h15b,h6b,h7b,h26b,h27b,h28b,hIb⟩
  obtain ⟨hj,ht2⟩:=hIb
  have hrr:=ht2.row i (by omega)
  rw [zr3 hlen] at hrr
  have hpl:∀ t,(prt (row.map fun x=>x % p) (List.replicate row.length 0) t).length = row.length:=fun t=>by rw [zcT (by simp)];simp
  simp -dsimp only [↓gp,gq,simprocAttr,gT,h0b,h1b,h5b,h13b,h14b,h15b,h6b,h7b,h26b,h27b,h28b,ht2.top,zlA,hrr,hpl,zbN]
  refine ⟨fun h2=>⟨h2,h2,by kernel_rfl,h,h,zab (zgx _ p hp) ?_⟩,fun h2=>?_⟩
  ·simp -dsimp only [↓gp,gq,simprocAttr,gT,h0b,h1b,h5b,h13b,h14b,h15b,h6b,h7b,h26b,h27b,h28b,ht2.top,zlA,hrr,hpl,zbN]
   refine ⟨h2,by omega,by kernel_rfl,zac (j + 1) ⟨(by (first | (simp -dsimp only [gr,simprocAttr,h0b,h1b,h5b,h13b,h14b,h15b,h6b,h7b,h26b,h27b,h28b,zaa h2 (by omega)];first | done | rfl | (simp;done)) | assumption | rfl)),(by (first | (simp -dsimp only [gr,simprocAttr,h0b,h1b,h5b,h13b,h14b,h15b,h6b,h7b,h26b,h27b,h28b,zaa h2 (by omega)];first | done | rfl | (simp;done)) | assumption | rfl)),(by (first | (simp -dsimp only [gr,simprocAttr,h0b,h1b,h5b,h13b,h14b,h15b,h6b,h7b,h26b,h27b,h28b,zaa h2 (by omega)];first | done | rfl | (simp;done)) | assumption | rfl)),(by (first | (simp -dsimp only [gr,simprocAttr,h0b,h1b,h5b,h13b,h14b,h15b,h6b,h7b,h26b,h27b,h28b,zaa h2 (by omega)];first | done | rfl | (simp;done)) | assumption | rfl)),(by (first | (simp -dsimp only [gr,simprocAttr,h0b,h1b,h5b,h13b,h14b,h15b,h6b,h7b,h26b,h27b,h28b,zaa h2 (by omega)];first | done | rfl | (simp;done)) | assumption | rfl)),(by (first | (simp -dsimp only [gr,simprocAttr,h0b,h1b,h5b,h13b,h14b,h15b,h6b,h7b,h26b,h27b,h28b,zaa h2 (by omega)];first | done | rfl | (simp;done)) | assumption | rfl)),(by (first | (simp -dsimp only [gr,simprocAttr,h0b,h1b,h5b,h13b,h14b,h15b,h6b,h7b,h26b,h27b,h28b,zaa h2 (by omega)];first | done | rfl | (simp;done)) | assumption | rfl)),(by (first | (simp -dsimp only [gr,simprocAttr,h0b,h1b,h5b,h13b,h14b,h15b,h6b,h7b,h26b,h27b,h28b,zaa h2 (by omega)];first | done | rfl | (simp;done)) | assumption | rfl)),(by (first | (simp -dsimp only [gr,simprocAttr,h0b,h1b,h5b,h13b,h14b,h15b,h6b,h7b,h26b,h27b,h28b,zaa h2 (by omega)];first | done | rfl | (simp;done)) | assumption | rfl)),(by (first | (simp -dsimp only [gr,simprocAttr,h0b,h1b,h5b,h13b,h14b,h15b,h6b,h7b,h26b,h27b,h28b,zaa h2 (by omega)];first | done | rfl | (simp;done)) | assumption | rfl)),(by (first | (simp -dsimp only [gr,simprocAttr,h0b,h1b,h5b,h13b,h14b,h15b,h6b,h7b,h26b,h27b,h28b,zaa h2 (by omega)];first | done | rfl | (simp;done)) | assumption | rfl)),⟨by omega,?_⟩⟩ (by first | omega | (simp only;omega) | (dsimp only;omega) | (show _ < _;simp;omega))⟩
   have e:zgZ p (M.take i) ++ [prt (row.map fun x=>x % p) (List.replicate row.length 0) (j + 1)] = (zgZ p (M.take i) ++ [prt (row.map fun x=>x % p) (List.replicate row.length 0) j]).set i ((prt (row.map fun x=>x % p) (List.replicate row.length 0) j).set j (row.getD j 0 % p)):=by
    rw [zwi hlen,← zgN (by simp) (by simpa using h2),zwy p h2]
   rw [e]
   exact ht2.set (by omega) (by simp -dsimp only [gr,simprocAttr,h0b,h1b,h5b,h13b,h14b,h15b,h6b,h7b,h26b,h27b,h28b]) (by simp -dsimp only [gr,simprocAttr,h0b,h1b,h5b,h13b,h14b,h15b,h6b,h7b,h26b,h27b,h28b]) (fun x hx=>by simp -dsimp only [gr,simprocAttr,h0b,h1b,h5b,h13b,h14b,h15b,h6b,h7b,h26b,h27b,h28b,hx])
  ·have:j = row.length:=by omega
   subst this
   refine zac (i + 1) ⟨(by (first | (simp -dsimp only [gr,simprocAttr,h0a,h1a,h5a,h13a,h14a,h15a,h0b,h1b,h5b,h13b,h14b,h15b,h6b,h7b,h26b,h27b,h28b,zaa h (by omega)];first | done | rfl | (simp;done)) | assumption | rfl)),(by (first | (simp -dsimp only [gr,simprocAttr,h0a,h1a,h5a,h13a,h14a,h15a,h0b,h1b,h5b,h13b,h14b,h15b,h6b,h7b,h26b,h27b,h28b,zaa h (by omega)];first | done | rfl | (simp;done)) | assumption | rfl)),(by (first | (simp -dsimp only [gr,simprocAttr,h0a,h1a,h5a,h13a,h14a,h15a,h0b,h1b,h5b,h13b,h14b,h15b,h6b,h7b,h26b,h27b,h28b,zaa h (by omega)];first | done | rfl | (simp;done)) | assumption | rfl)),(by (first | (simp -dsimp only [gr,simprocAttr,h0a,h1a,h5a,h13a,h14a,h15a,h0b,h1b,h5b,h13b,h14b,h15b,h6b,h7b,h26b,h27b,h28b,zaa h (by omega)];first | done | rfl | (simp;done)) | assumption | rfl)),(by (first | (simp -dsimp only [gr,simprocAttr,h0a,h1a,h5a,h13a,h14a,h15a,h0b,h1b,h5b,h13b,h14b,h15b,h6b,h7b,h26b,h27b,h28b,zaa h (by omega)];first | done | rfl | (simp;done)) | assumption | rfl)),(by (first | (simp -dsimp only [gr,simprocAttr,h0a,h1a,h5a,h13a,h14a,h15a,h0b,h1b,h5b,h13b,h14b,h15b,h6b,h7b,h26b,h27b,h28b,zaa h (by omega)];first | done | rfl | (simp;done)) | assumption | rfl)),⟨by omega,?_⟩⟩ (by first | omega | (simp only;omega) | (dsimp only;omega) | (show _ < _;simp;omega))
   have e:prt (row.map fun x=>x % p) (List.replicate row.length 0) row.length = row.map fun x=>x % p:=by
    have:=zgM (new:=row.map fun x=>x % p) (old:=List.replicate row.length 0) (by simp)
    simpa using this
   have ht3:=ht2
   rw [e,← hrow,zsn p h] at ht3
   exact ht3.same (by simp -dsimp only [gr,simprocAttr]) (fun x=>by simp -dsimp only [gr,simprocAttr])
 ·have:i = M.length:=by omega
  subst this
  rw [List.take_length] at ht
  exact zr1 ht.done (by decide) (fun j hj=>by have:=List.mem_range.1 hj;omega)
theorem zhU {a b p:Int} (h1:0 ≤ a∧a < p) (h2:0 ≤ b∧b ≤ 5) (hp:p ≤ 5):0 ≤ a * b∧a * b ≤ 25:=by
 refine ⟨Int.mul_nonneg h1.1 h2.1,?_⟩
 have:=Int.mul_le_mul (show a ≤ 5 by omega) h2.2 h2.1 (by omega)
 omega
theorem zDJ (l:List Int) (j:Nat):prt l l j = l:=by simp [prt]
theorem zlX (M:Mat) (n a c:Nat) (p:Int) (hp:isP p = true) (hM:MatOk p n M) (ha:a < M.length) (hc:c < n) (hn:n ≤ 1000):AT Tryz.prog 185 [.own 1000000 1,int a,int c,int p] 22 3 (M.map iL) ((zdF p a c M).map iL) .self:=by
 refine AT.goI (rs:=[.tmp 8]) zaD mixed Tryz.func185 rfl rfl rfl (by kernel_rfl) (zbe p a c M) fun hl s hs hlow ht=>?_
 have hp2:=zcq hp
 have hlen:=hM.len a ha
 have hres:=hM.res a ha
 have hac:=hres c
 have hra:=ht.row ha
 have hq:∀ i,i < M.length→(List.range M.length).getD i 0 = i:=fun i hi=>by simp [List.getD,hi]
 rw [hq a ha] at hra
 simp -dsimp only [↓gp,gq,simprocAttr,gT,hs,hlow,ht.top,hra,hq a ha]
 refine ⟨ha,ha,by omega,by omega,zab (ziA _ p hp) ?_⟩
 generalize hb:zmD p ((M.getD a []).getD c 0) = b at *
 have hbb:=zBq hp ((M.getD a []).getD c 0)
 rw [hb] at hbb
 simp -dsimp only [↓gp,gq,simprocAttr,gT,hs,hlow]
 generalize hold:M.getD a [] = old at *
 refine zah (fun (j:Nat) s=>s.sl 0 = .own 1000000 1∧s.sl 1 = int a∧s.sl 2 = int c∧s.sl 3 = int p∧s.sl 9 = int b∧s.sl 10 = int j∧(j ≤ n∧TabI s.rw 1000000 1 22 3 (List.range M.length) (M.set a (prt (scl p b old) old j)))) (fun j=>n - j) (0) (by refine ⟨?_,?_,?_,?_,?_,?_,⟨by omega,by rw [zeL,← hold,zb8];exact ht.same (by simp -dsimp only [gr,simprocAttr]) (fun x=>by simp -dsimp only [gr,simprocAttr])⟩⟩ <;> (first | (simp -dsimp only [gr,simprocAttr,hs];first | done | rfl | (simp;done)) | assumption | rfl)) ?_
 intro j sa ⟨h0a,h1a,h2a,h3a,h9a,h10a,hIa⟩
 obtain ⟨hj,ht1⟩:=hIa
 have hset:a < (M.set a (prt (scl p b old) old j)).length:=by simpa using ha
 have hr1:=ht1.row hset
 have hpl:(prt (scl p b old) old j).length = n:=by rw [zcT (zbT p b old)];exact hlen
 rw [zaK ha,hq a ha] at hr1
 have hpj:=zj7 (zbT p b old) (Nat.le_refl j)
 have hoj:=hres j
 have hmb:=zhU hoj ⟨hbb.1,by omega⟩ hp2.2
 have hw:IntKind.i64.wrap (old.getD j 0 * b) = old.getD j 0 * b:=zai (by omega) (by omega)
 simp -dsimp only [↓gp,gq,simprocAttr,gT,h0a,h1a,h2a,h3a,h9a,h10a,ht1.top,hr1,hq a ha,hpl,hpj,hw,zcV hmb.1]
 refine ⟨ha,ha,fun h=>⟨by kernel_rfl,ha,ha,ha,ha,h,h,by omega,h,by omega,by kernel_rfl,?_⟩,fun h=>?_⟩
 ·refine zac (j + 1) ⟨(by (first | (simp -dsimp only [gr,simprocAttr,h0a,h1a,h2a,h3a,h9a,h10a,zaa h (by omega)];first | done | rfl | (simp;done)) | assumption | rfl)),(by (first | (simp -dsimp only [gr,simprocAttr,h0a,h1a,h2a,h3a,h9a,h10a,zaa h (by omega)];first | done | rfl | (simp;done)) | assumption | rfl)),(by (first | (simp -dsimp only [gr,simprocAttr,h0a,h1a,h2a,h3a,h9a,h10a,zaa h (by omega)];first | done | rfl | (simp;done)) | assumption | rfl)),(by (first | (simp -dsimp only [gr,simprocAttr,h0a,h1a,h2a,h3a,h9a,h10a,zaa h (by omega)];first | done | rfl | (simp;done)) | assumption | rfl)),(by (first | (simp -dsimp only [gr,simprocAttr,h0a,h1a,h2a,h3a,h9a,h10a,zaa h (by omega)];first | done | rfl | (simp;done)) | assumption | rfl)),(by (first | (simp -dsimp only [gr,simprocAttr,h0a,h1a,h2a,h3a,h9a,h10a,zaa h (by omega)];first | done | rfl | (simp;done)) | assumption | rfl)),⟨by omega,?_⟩⟩ (by first | omega | (simp only;omega) | (dsimp only;omega) | (show _ < _;simp;omega))
  have e:M.set a (prt (scl p b old) old (j + 1)) = (M.set a (prt (scl p b old) old j)).set a ((prt (scl p b old) old j).set j (old.getD j 0 * b % p)):=by
   rw [zpj,← zgN (zbT p b old) (by omega),zf2 p b (by omega)]
  rw [e]
  refine ht1.set hset (by simp -dsimp only [gr,simprocAttr,h0a,h1a,h2a,h3a,h9a,h10a]) ?_ (fun x hx=>?_)
  ·rw [hq a ha];simp -dsimp only [gr,simprocAttr,h0a,h1a,h2a,h3a,h9a,h10a]
  ·rw [hq a ha] at hx
   simp -dsimp only [gr,simprocAttr,h0a,h1a,h2a,h3a,h9a,h10a,hx]
 have:j = n:=by omega
 subst this
 have hend:prt (scl p b old) old j = scl p b old:=by rw [← hlen];exact zgM (zbT p b old)
 rw [hend] at ht1
 have hclr:M.set a (scl p b old) = zsd p a c M:=by unfold zsd;rw [hold,hb]
 rw [hclr] at ht1
 have hM1:=ztA (p:=p) (n:=j) (at':=a) (col:=c) (by omega) hM ha
 have hl1:(zsd p a c M).length = M.length:=zcU p a c M
 have hgoal:zdF p a c M = zf3 p a c (zsd p a c M) M.length:=rfl
 rw [hgoal]
 generalize zsd p a c M = M1 at *
 refine zah (fun (i:Nat) s=>s.sl 0 = .own 1000000 1∧s.sl 1 = int a∧s.sl 2 = int c∧s.sl 3 = int p∧s.sl 11 = int i∧(i ≤ M.length∧TabI s.rw 1000000 1 22 3 (List.range M.length) (zf3 p a c M1 i))) (fun i=>M.length - i) (0) (by refine ⟨?_,?_,?_,?_,?_,⟨by omega,by rw [zse];exact ht1.same (by simp -dsimp only [gr,simprocAttr]) (fun x=>by simp -dsimp only [gr,simprocAttr])⟩⟩ <;> (first | (simp -dsimp only [gr,simprocAttr,h0a,h1a,h2a,h3a,h9a,h10a];first | done | rfl | (simp;done)) | assumption | rfl)) ?_
 intro i sb ⟨h0b,h1b,h2b,h3b,h11b,hIb⟩
 obtain ⟨hi,ht2⟩:=hIb
 have hlN:(zf3 p a c M1 i).length = M.length:=by rw [zbP,hl1]
 simp -dsimp only [↓gp,gq,simprocAttr,gT,h0b,h1b,h2b,h3b,h11b,ht2.top]
 refine ⟨fun h=>?_,fun h=>?_⟩
 ·have hi1:i < M1.length:=by omega
  have hr2:=ht2.row (i:=i) (by omega)
  rw [zix p a c hi1 (Nat.le_refl i),hq i h] at hr2
  have hl2:=hM1.len i hi1
  have hres2:=hM1.res i hi1
  generalize hold2:M1.getD i [] = old2 at *
  simp -dsimp only [↓gp,gq,simprocAttr,gT,h0b,h1b,h2b,h3b,h11b,ht2.top,hr2,hq i h]
  refine ⟨h,h,by omega,by omega,?_⟩
  have hf:=hres2 c
  generalize hfe:old2.getD c 0 = f at *
  have hra1:a < M1.length:=by omega
  have hnew:(zgY p a c M1 i).length = old2.length:=by
   rw [(zpk (p:=p) (by omega) hM1 hi1).1,hl2]
  refine zah (fun (t:Nat) s=>s.sl 0 = .own 1000000 1∧s.sl 1 = int a∧s.sl 2 = int c∧s.sl 3 = int p∧s.sl 11 = int i∧s.sl 12 = int f∧s.sl 13 = int t∧(t ≤ old2.length∧TabI s.rw 1000000 1 22 3 (List.range M.length) ((zf3 p a c M1 i).set i (prt (zgY p a c M1 i) old2 t)))) (fun t=>old2.length - t) (0) (by refine ⟨?_,?_,?_,?_,?_,?_,?_,⟨by omega,(ht2.same (by simp -dsimp only [gr,simprocAttr]) (fun x=>by simp -dsimp only [gr,simprocAttr])).to (by rw [zeL,← hold2,← zix p a c hi1 (Nat.le_refl i),zb8])⟩⟩ <;> (first | (simp -dsimp only [gr,simprocAttr,h0b,h1b,h2b,h3b,h11b];first | done | rfl | (simp;done)) | assumption | rfl)) ?_
  intro t sc ⟨h0c,h1c,h2c,h3c,h11c,h12c,h13c,hIc⟩
  obtain ⟨ht',ht3⟩:=hIc
  have hls:((zf3 p a c M1 i).set i (prt (zgY p a c M1 i) old2 t)).length = M.length:=by rw [List.length_set,hlN]
  have hr3:=ht3.row (i:=i) (by omega)
  rw [zaK (by omega),hq i h] at hr3
  have hpl3:(prt (zgY p a c M1 i) old2 t).length = old2.length:=zcT hnew t
  have hpj3:=zj7 hnew (Nat.le_refl t)
  simp -dsimp only [↓gp,gq,simprocAttr,gT,h0c,h1c,h2c,h3c,h11c,h12c,h13c,ht3.top,hr3,hq i h,hpl3]
  refine ⟨h,h,fun h2=>⟨fun hne=>?_,fun heq=>?_⟩,fun h2=>?_⟩
  ·have hia:¬ i = a:=by
    intro e
    simp [e] at hne
   have hr4:=ht3.row (i:=a) (by omega)
   rw [zbw hia,zBs p a c i hra1,hq a ha] at hr4
   have hla:=hM1.len a hra1
   have hresa:=hM1.res a hra1
   have hcI:zgY p a c M1 i = sbt p f (M1.getD a []) old2:=by unfold zgY;rw [if_neg hia,hold2,hfe]
   generalize hpiv:M1.getD a [] = piv at *
   have hft:=zhU hf ⟨(hresa t).1,by have:=(hresa t).2;omega⟩ hp2.2
   have hot:=hres2 t
   have hw3:IntKind.i64.wrap (f * piv.getD t 0) = f * piv.getD t 0:=zai (by omega) (by omega)
   have hw4:IntKind.i64.wrap (old2.getD t 0 - f * piv.getD t 0) = old2.getD t 0 - f * piv.getD t 0:=zai (by omega) (by omega)
   simp -dsimp only [↓gp,gq,simprocAttr,gT,h0c,h1c,h2c,h3c,h11c,h12c,h13c,ht3.top,hr3,hq i h,hpl3,hr4,hq a ha,hpj3,hw3,hw4]
   refine ⟨by kernel_rfl,h,h,h,h,h2,h2,ha,ha,by omega,by omega,zab (zeQ _ p hp) ?_⟩
   simp -dsimp only [↓gp,gq,simprocAttr,gT,h0c,h1c,h2c,h3c,h11c,h12c,h13c,ht3.top,hr3,hq i h,hpl3,hr4,hq a ha,hpj3,hw3,hw4]
   refine ⟨h2,by omega,by kernel_rfl,zac (t + 1) ⟨(by (first | (simp -dsimp only [gr,simprocAttr,h0c,h1c,h2c,h3c,h11c,h12c,h13c,zaa h2 (by omega)];first | done | rfl | (simp;done)) | assumption | rfl)),(by (first | (simp -dsimp only [gr,simprocAttr,h0c,h1c,h2c,h3c,h11c,h12c,h13c,zaa h2 (by omega)];first | done | rfl | (simp;done)) | assumption | rfl)),(by (first | (simp -dsimp only [gr,simprocAttr,h0c,h1c,h2c,h3c,h11c,h12c,h13c,zaa h2 (by omega)];first | done | rfl | (simp;done)) | assumption | rfl)),(by (first | (simp -dsimp only [gr,simprocAttr,h0c,h1c,h2c,h3c,h11c,h12c,h13c,zaa h2 (by omega)];first | done | rfl | (simp;done)) | assumption | rfl)),(by (first | (simp -dsimp only [gr,simprocAttr,h0c,h1c,h2c,h3c,h11c,h12c,h13c,zaa h2 (by omega)];first | done | rfl | (simp;done)) | assumption | rfl)),(by (first | (simp -dsimp only [gr,simprocAttr,h0c,h1c,h2c,h3c,h11c,h12c,h13c,zaa h2 (by omega)];first | done | rfl | (simp;done)) | assumption | rfl)),(by (first | (simp -dsimp only [gr,simprocAttr,h0c,h1c,h2c,h3c,h11c,h12c,h13c,zaa h2 (by omega)];first | done | rfl | (simp;done)) | assumption | rfl)),⟨by omega,?_⟩⟩ (by first | omega | (simp only;omega) | (dsimp only;omega) | (show _ < _;simp;omega))⟩
   have e:(zf3 p a c M1 i).set i (prt (zgY p a c M1 i) old2 (t + 1)) = ((zf3 p a c M1 i).set i (prt (zgY p a c M1 i) old2 t)).set i ((prt (zgY p a c M1 i) old2 t).set t ((old2.getD t 0 - f * piv.getD t 0) % p)):=by
    rw [zpj,← zgN hnew h2,← zdq p f (piv:=piv) h2,hcI]
   rw [e]
   refine ht3.set (by omega) (by simp -dsimp only [gr,simprocAttr,h0c,h1c,h2c,h3c,h11c,h12c,h13c]) ?_ (fun x hx=>?_)
   ·rw [hq i h];simp -dsimp only [gr,simprocAttr,h0c,h1c,h2c,h3c,h11c,h12c,h13c]
   ·rw [hq i h] at hx
    simp -dsimp only [gr,simprocAttr,h0c,h1c,h2c,h3c,h11c,h12c,h13c,hx]
  ·have hia:i = a:=by
    have h9:(i:Int) = a:=by simpa using heq
    omega
   have hcI:zgY p a c M1 i = old2:=by unfold zgY;rw [if_pos hia,hold2]
   have ht4:=ht3
   rw [hcI,zDJ,← hcI,zfL p a c hi1] at ht4
   exact zac (i + 1) (by refine ⟨?_,?_,?_,?_,?_,⟨by omega,ht4.same (by simp -dsimp only [gr,simprocAttr]) (fun x=>by simp -dsimp only [gr,simprocAttr])⟩⟩ <;> (first | (simp -dsimp only [gr,simprocAttr,h0b,h1b,h2b,h3b,h11b,h0c,h1c,h2c,h3c,h11c,h12c,h13c,zaa h (by omega)];first | done | rfl | (simp;done)) | assumption | rfl)) (by first | omega | (simp only;omega) | (dsimp only;omega) | (show _ < _;simp;omega))
  ·have:t = old2.length:=by omega
   have ht4:=ht3
   rw [this,zgM hnew,zfL p a c hi1] at ht4
   exact zac (i + 1) (by refine ⟨?_,?_,?_,?_,?_,⟨by omega,ht4.same (by simp -dsimp only [gr,simprocAttr]) (fun x=>by simp -dsimp only [gr,simprocAttr])⟩⟩ <;> (first | (simp -dsimp only [gr,simprocAttr,h0b,h1b,h2b,h3b,h11b,h0c,h1c,h2c,h3c,h11c,h12c,h13c,zaa h (by omega)];first | done | rfl | (simp;done)) | assumption | rfl)) (by first | omega | (simp only;omega) | (dsimp only;omega) | (show _ < _;simp;omega))
 ·have:i = M.length:=by omega
  rw [this] at ht2
  exact zly (ht2.same (by simp -dsimp only [gr,simprocAttr]) (fun x=>by simp -dsimp only [gr,simprocAttr])) (List.Perm.refl _)
theorem zK9 (q:List Nat) {a b:Nat} (ha:a < q.length) (hb:b < q.length):((q.set a (q.getD b 0)).set b (q.getD a 0)).getD a 0 = q.getD b 0:=by
 by_cases h:b = a
 ·subst h;simp [List.getD,ha]
 ·simp only [List.getD]
  rw [List.getElem?_set_ne h,List.getElem?_set_self ha];rfl
theorem zLa {M:Mat} {a b:Nat} (ha:a < M.length):(swp M a b).getD a [] = M.getD b []:=by
 unfold swp
 by_cases h:b = a
 ·subst h;rw [zaK (by simpa using ha)]
 ·rw [zbw h,zaK ha]
theorem zhT {M:Mat} {col a m:Nat} (h:a < m):zbd M col a (m - a) = if (M.getD a []).getD col 0 = 0 then zbd M col (a + 1) (m - (a + 1)) else a:=by
 have e:m - a = (m - (a + 1)) + 1:=by omega
 rw [e,zbd]
theorem zwx {p:Int} {M:Mat} {piv:List Nat} {col n:Nat} (h:col < n) (h2:piv.length < M.length):zgO p M piv col (n - col) = zgO p (zbn p M col piv).1 (zbn p M col piv).2 (col + 1) (n - (col + 1)):=by
 have e:n - col = (n - (col + 1)) + 1:=by omega
 rw [e,zgO,if_pos h2]
theorem zsm {p:Int} {a c i:Nat} {M:Mat} (h:Res p (M.getD i [])) (hz:i = a ∨ (M.getD i []).getD c 0 = 0):zgY p a c M i = M.getD i []:=by
 unfold zgY
 split
 ·rfl
 ·rename_i hne
  rw [hz.resolve_left hne,zDA h]
theorem zGM {p x f y:Int} (hp:0 < p):(x + (p - f) * y) % p = (x - f * y) % p:=by
 have e:x + (p - f) * y = (x - f * y) + p * y:=by rw [Int.sub_mul];omega
 rw [e,Int.add_mul_emod_self_left]
theorem zjz (M:Mat) (n:Nat) (p:Int) (hp:isP p = true) (hM:MatOk p n M) (hm:M.length ≤ 900) (hn:n ≤ 1000):AT Tryz.prog 188 [.own 1000000 1,int n,int p] 22 3 (M.map iL) ((zgO p M [] 0 n).1.map iL) (.rv (.fr 3 1 (iL (ofN (zgO p M [] 0 n).2)))):=by
 refine AT.goI (rs:=[.tmp 6]) zaD mixed Tryz.func188 rfl rfl rfl (by kernel_rfl) (ztB p n M [] 0) fun hl s hs hlow ht=>?_
 have hp2:=zcq hp
 simp -dsimp only [↓gp,gq,simprocAttr,gT,hs,hlow]
 refine zah (fun (za:Mat × List Nat × Nat × List Nat × Nat) s=>match za with | (cur,piv,col,q,v)=>s.sl 0 = .own 1000000 1∧s.sl 1 = int n∧s.sl 2 = int p∧s.sl 7 = .own 7 v∧s.rw 7 = ⟨v,.sli 3 1 false (iL (ofN piv))⟩∧s.sl 8 = int col∧(col ≤ n∧MatOk p n cur∧cur.length = M.length∧piv.length ≤ M.length∧TabI s.rw 1000000 1 22 3 q cur∧q.Perm (List.range M.length)∧zgO p M [] 0 n = zgO p cur piv col (n - col))) (fun (cur,piv,col,q,v)=>n - col) ((M,[],0,List.range M.length,1)) (by refine ⟨?_,?_,?_,?_,?_,?_,⟨by omega,hM,rfl,by simp,ht.same (by simp -dsimp only [gr,simprocAttr]) (fun x=>by simp -dsimp only [gr,simprocAttr]),List.Perm.refl _,rfl⟩⟩ <;> (first | (simp -dsimp only [gr,simprocAttr,hs,hlow];first | done | rfl | (simp;done)) | assumption | rfl)) ?_
 intro (cur,piv,col,q,v) sa ⟨h0a,h1a,h2a,h7a,r7a,h8a,hIa⟩
 obtain ⟨hcol,hcur,hlc,hpl,htc,hperm,hred⟩:=hIa
 have hlq:q.length = cur.length:=htc.len
 simp -dsimp only [↓gp,gq,simprocAttr,gT,h0a,h1a,h2a,h7a,r7a,h8a,htc.top,hlq,zad]
 refine ⟨fun h1=>⟨fun h2=>?_,fun h2=>?_⟩,fun h1=>?_⟩
 ·have h1:col < n:=by omega
  have h2:piv.length < cur.length:=by omega
  rw [zwx h1 h2] at hred
  refine zah (fun (a:Nat) s=>s.sl 0 = .own 1000000 1∧s.sl 1 = int n∧s.sl 2 = int p∧s.sl 7 = .own 7 v∧s.rw 7 = ⟨v,.sli 3 1 false (iL (ofN piv))⟩∧s.sl 8 = int col∧s.sl 9 = int piv.length∧s.sl 10 = int a∧(piv.length ≤ a∧a ≤ cur.length∧zbd cur col piv.length (cur.length - piv.length) = zbd cur col a (cur.length - a)∧TabI s.rw 1000000 1 22 3 q cur)) (fun a=>cur.length - a) (piv.length) (by refine ⟨?_,?_,?_,?_,?_,?_,?_,?_,⟨by omega,by omega,rfl,htc.same (by simp -dsimp only [gr,simprocAttr]) (fun x=>by simp -dsimp only [gr,simprocAttr])⟩⟩ <;> (first | (simp -dsimp only [gr,simprocAttr,h0a,h1a,h2a,h7a,r7a,h8a];first | done | rfl | (simp;done)) | assumption | rfl)) ?_
  intro a sb ⟨h0b,h1b,h2b,h7b,r7b,h8b,h9b,h10b,hIb⟩
  obtain ⟨ha1,ha2,hfind,htb⟩:=hIb
  have stop:(¬ a < cur.length ∨ ¬ (cur.getD a []).getD col 0 = 0)→zbd cur col piv.length (cur.length - piv.length) = a:=fun h=>by
   rw [hfind]
   by_cases hlt:a < cur.length
   ·rw [zhT hlt,if_neg (h.resolve_left (by omega))]
   ·rw [show cur.length - a = 0 by omega];rfl
  simp -dsimp only [↓gp,gq,simprocAttr,gT,h0b,h1b,h2b,h7b,r7b,h8b,h9b,h10b,htb.top,hlq]
  refine ⟨fun h3=>?_,fun h3=>?_⟩
  ·have hra:=htb.row h3
   have hlen:=hcur.len a h3
   simp -dsimp only [↓gp,gq,simprocAttr,gT,h0b,h1b,h2b,h7b,r7b,h8b,h9b,h10b,htb.top,hlq,hra]
   refine ⟨h3,h3,by omega,by omega,fun hz=>?_,fun hz=>?_⟩
   ·have hz:=beq_iff_eq.1 hz
    rw [zhT h3,if_pos hz] at hfind
    exact zac (a + 1) (by refine ⟨?_,?_,?_,?_,?_,?_,?_,?_,⟨by omega,by omega,hfind,htb.same (by simp -dsimp only [gr,simprocAttr]) (fun x=>by simp -dsimp only [gr,simprocAttr])⟩⟩ <;> (first | (simp -dsimp only [gr,simprocAttr,h0b,h1b,h2b,h7b,r7b,h8b,h9b,h10b,zaa h3 (by omega)];first | done | rfl | (simp;done)) | assumption | rfl)) (by first | omega | (simp only;omega) | (dsimp only;omega) | (show _ < _;simp;omega))
   ·have hz:¬ (cur.getD a []).getD col 0 = 0:=by simpa using hz
    have hfa:=stop (.inr hz)
    have hne:((a:Int) == (cur.length:Int)) = false:=by simp;omega
    have hst:zbn p cur col piv = (zdF p piv.length col (swp cur piv.length a),piv ++ [col]):=by unfold zbn;rw [hfa,if_neg (by omega)]
    rw [hst] at hred
    have hda:(q.set piv.length (q.getD a 0)).length = q.length:=by simp
    have hrd:=htb.row h2
    have hsa:=zK9 q (a:=piv.length) (b:=a) (by omega) (by omega)
    simp -dsimp only [↓gp,gq,simprocAttr,gT,h0b,h1b,h2b,h7b,r7b,h8b,h9b,h10b,htb.top,hlq,hra,hne,hrd,hsa]
    refine ⟨by kernel_rfl,h3,h3,h2,h2,h2,by omega,h3,by omega,by kernel_rfl,h2,h2,by omega,by omega,?_⟩
    refine zab (ziB _ p hp) ?_
    have hold:=hcur.len a h3
    have hrold:=hcur.res a h3
    generalize hoe:cur.getD a [] = old at *
    have hiv:zmD p (old.getD col 0) = zmD p (old.getD col 0):=rfl
    have hbb:=zBq hp (old.getD col 0)
    generalize hbe:zmD p (old.getD col 0) = b at *
    have hswl:(swp cur piv.length a).length = cur.length:=zb9 _ _ _
    have hswa:(swp cur piv.length a).getD piv.length [] = old:=by rw [zLa h2,hoe]
    have hsw:=zwu hcur h2 h3
    simp -dsimp only [↓gp,gq,simprocAttr,gT,h0b,h1b,h2b,h7b,r7b,h8b,h9b,h10b,htb.top,hlq,hra,hne,hrd,hsa]
    refine ⟨h2,h2,?_⟩
    have hlq':((q.set piv.length (q.getD a 0)).set a (q.getD piv.length 0)).length = cur.length:=by simp [hlq]
    have hperm':((q.set piv.length (q.getD a 0)).set a (q.getD piv.length 0)).Perm q:=by
     have e1:q.getD piv.length 0 = q[piv.length]'(by omega):=by simp [List.getD,(by omega:piv.length < q.length)]
     have e2:q.getD a 0 = q[a]'(by omega):=by simp [List.getD,(by omega:a < q.length)]
     rw [e1,e2];exact List.set_set_perm (by omega) (by omega)
    have hclr1:(swp cur piv.length a).set piv.length (scl p b old) = zsd p piv.length col (swp cur piv.length a):=by unfold zsd;rw [hswa,hbe]
    have hcl:zdF p piv.length col (swp cur piv.length a) = zf3 p piv.length col (zsd p piv.length col (swp cur piv.length a)) cur.length:=by unfold zdF;rw [hswl]
    refine zah (fun (j:Nat) s=>s.sl 0 = .own 1000000 1∧s.sl 1 = int n∧s.sl 2 = int p∧s.sl 7 = .own 7 v∧s.rw 7 = ⟨v,.sli 3 1 false (iL (ofN piv))⟩∧s.sl 8 = int col∧s.sl 9 = int piv.length∧s.sl 11 = int b∧s.sl 78 = int old.length∧s.sl 79 = int j∧(j ≤ n∧TabI s.rw 1000000 1 22 3 ((q.set piv.length (q.getD a 0)).set a (q.getD piv.length 0)) ((swp cur piv.length a).set piv.length (prt (scl p b old) old j)))) (fun j=>n - j) (0) (by refine ⟨?_,?_,?_,?_,?_,?_,?_,?_,?_,?_,⟨by omega,by rw [zeL,← hswa,zb8];exact (htb.swap h2 h3 (by simp -dsimp only [gr,simprocAttr,h0b,h1b,h2b,h7b,r7b,h8b,h9b,h10b]) (fun x=>by simp -dsimp only [gr,simprocAttr,h0b,h1b,h2b,h7b,r7b,h8b,h9b,h10b])).1⟩⟩ <;> (first | (simp -dsimp only [gr,simprocAttr,h0b,h1b,h2b,h7b,r7b,h8b,h9b,h10b];first | done | rfl | (simp;done)) | assumption | rfl)) ?_
    intro j sc ⟨h0c,h1c,h2c,h7c,r7c,h8c,h9c,h11c,h78c,h79c,hIc⟩
    obtain ⟨hj,ht1⟩:=hIc
    generalize (q.set piv.length (q.getD a 0)).set a (q.getD piv.length 0) = q' at *
    generalize hSe:swp cur piv.length a = S at *
    have hset:piv.length < (S.set piv.length (prt (scl p b old) old j)).length:=by rw [List.length_set];omega
    have hr1:=ht1.row hset
    rw [zaK (by omega)] at hr1
    have hpl1:(prt (scl p b old) old j).length = n:=by rw [zcT (zbT p b old)];exact hold
    have hpj:=zj7 (zbT p b old) (Nat.le_refl j)
    have hoj:=hrold j
    have hmb:=zhU hoj ⟨hbb.1,by omega⟩ hp2.2
    have hw:IntKind.i64.wrap (old.getD j 0 * b) = old.getD j 0 * b:=zai (by omega) (by omega)
    simp -dsimp only [↓gp,gq,simprocAttr,gT,h0c,h1c,h2c,h7c,r7c,h8c,h9c,h11c,h78c,h79c,ht1.top,hr1,hpl1,hpj,hw,zcV hmb.1,hlq']
    refine ⟨fun h=>⟨by kernel_rfl,h2,h2,h2,h2,by omega,by omega,by omega,by omega,by omega,by kernel_rfl,?_⟩,fun h=>?_⟩
    ·have h:j < n:=by omega
     refine zac (j + 1) ⟨(by (first | (simp -dsimp only [gr,simprocAttr,h0c,h1c,h2c,h7c,r7c,h8c,h9c,h11c,h78c,h79c,zaa h (by omega)];first | done | rfl | (simp;done)) | assumption | rfl)),(by (first | (simp -dsimp only [gr,simprocAttr,h0c,h1c,h2c,h7c,r7c,h8c,h9c,h11c,h78c,h79c,zaa h (by omega)];first | done | rfl | (simp;done)) | assumption | rfl)),(by (first | (simp -dsimp only [gr,simprocAttr,h0c,h1c,h2c,h7c,r7c,h8c,h9c,h11c,h78c,h79c,zaa h (by omega)];first | done | rfl | (simp;done)) | assumption | rfl)),(by (first | (simp -dsimp only [gr,simprocAttr,h0c,h1c,h2c,h7c,r7c,h8c,h9c,h11c,h78c,h79c,zaa h (by omega)];first | done | rfl | (simp;done)) | assumption | rfl)),(by (first | (simp -dsimp only [gr,simprocAttr,h0c,h1c,h2c,h7c,r7c,h8c,h9c,h11c,h78c,h79c,zaa h (by omega)];first | done | rfl | (simp;done)) | assumption | rfl)),(by (first | (simp -dsimp only [gr,simprocAttr,h0c,h1c,h2c,h7c,r7c,h8c,h9c,h11c,h78c,h79c,zaa h (by omega)];first | done | rfl | (simp;done)) | assumption | rfl)),(by (first | (simp -dsimp only [gr,simprocAttr,h0c,h1c,h2c,h7c,r7c,h8c,h9c,h11c,h78c,h79c,zaa h (by omega)];first | done | rfl | (simp;done)) | assumption | rfl)),(by (first | (simp -dsimp only [gr,simprocAttr,h0c,h1c,h2c,h7c,r7c,h8c,h9c,h11c,h78c,h79c,zaa h (by omega)];first | done | rfl | (simp;done)) | assumption | rfl)),(by (first | (simp -dsimp only [gr,simprocAttr,h0c,h1c,h2c,h7c,r7c,h8c,h9c,h11c,h78c,h79c,zaa h (by omega)];first | done | rfl | (simp;done)) | assumption | rfl)),(by (first | (simp -dsimp only [gr,simprocAttr,h0c,h1c,h2c,h7c,r7c,h8c,h9c,h11c,h78c,h79c,zaa h (by omega)];first | done | rfl | (simp;done)) | assumption | rfl)),⟨by omega,?_⟩⟩ (by first | omega | (simp only;omega) | (dsimp only;omega) | (show _ < _;simp;omega))
     have e:S.set piv.length (prt (scl p b old) old (j + 1)) = (S.set piv.length (prt (scl p b old) old j)).set piv.length ((prt (scl p b old) old j).set j (old.getD j 0 * b % p)):=by
      rw [zpj,← zgN (zbT p b old) (by omega),zf2 p b (by omega)]
     rw [e]
     exact ht1.set hset (by simp -dsimp only [gr,simprocAttr,h0c,h1c,h2c,h7c,r7c,h8c,h9c,h11c,h78c,h79c]) (by simp -dsimp only [gr,simprocAttr,h0c,h1c,h2c,h7c,r7c,h8c,h9c,h11c,h78c,h79c]) (fun x hx=>by simp -dsimp only [gr,simprocAttr,h0c,h1c,h2c,h7c,r7c,h8c,h9c,h11c,h78c,h79c,hx])
    have:j = old.length:=by omega
    rw [this,zgM (zbT p b old),hclr1] at ht1
    have hM1:=ztA (p:=p) (n:=n) (at':=piv.length) (col:=col) (by omega) hsw (by omega)
    have hl1:(zsd p piv.length col S).length = cur.length:=by rw [zcU,hswl]
    rw [hcl] at hred
    generalize zsd p piv.length col S = M1 at *
    refine zah (fun (i:Nat) s=>s.sl 0 = .own 1000000 1∧s.sl 1 = int n∧s.sl 2 = int p∧s.sl 7 = .own 7 v∧s.rw 7 = ⟨v,.sli 3 1 false (iL (ofN piv))⟩∧s.sl 8 = int col∧s.sl 9 = int piv.length∧s.sl 101 = int cur.length∧s.sl 102 = int i∧(i ≤ cur.length∧TabI s.rw 1000000 1 22 3 q' (zf3 p piv.length col M1 i))) (fun i=>cur.length - i) (0) (by refine ⟨?_,?_,?_,?_,?_,?_,?_,?_,?_,⟨by omega,by rw [zse];exact ht1.same (by simp -dsimp only [gr,simprocAttr]) (fun x=>by simp -dsimp only [gr,simprocAttr])⟩⟩ <;> (first | (simp -dsimp only [gr,simprocAttr,h0c,h1c,h2c,h7c,r7c,h8c,h9c,h11c,h78c,h79c];first | done | rfl | (simp;done)) | assumption | rfl)) ?_
    intro i sd ⟨h0d,h1d,h2d,h7d,r7d,h8d,h9d,h101d,h102d,hId⟩
    obtain ⟨hi,ht2⟩:=hId
    have hlN:(zf3 p piv.length col M1 i).length = cur.length:=by rw [zbP,hl1]
    simp -dsimp only [↓gp,gq,simprocAttr,gT,h0d,h1d,h2d,h7d,r7d,h8d,h9d,h101d,h102d,ht2.top,hlq']
    refine ⟨fun h=>⟨fun he=>?_,fun he=>?_⟩,fun h=>?_⟩
    ·have hid:¬ i = piv.length:=by
      intro e
      simp [e] at he
     have hi1:i < M1.length:=by omega
     have hr2:=ht2.row (i:=i) (by omega)
     rw [zix p piv.length col hi1 (Nat.le_refl i)] at hr2
     have hl2:=hM1.len i hi1
     have hres2:=hM1.res i hi1
     have hnewl:(zgY p piv.length col M1 i).length = (M1.getD i []).length:=by rw [(zpk (p:=p) (by omega) hM1 hi1).1,hl2]
     simp -dsimp only [↓gp,gq,simprocAttr,gT,h0d,h1d,h2d,h7d,r7d,h8d,h9d,h101d,h102d,ht2.top,hlq',hr2]
     refine ⟨h,h,by omega,by omega,fun hz=>?_,fun hz=>?_⟩
     ·have hz:(M1.getD i []).getD col 0 = 0:=beq_iff_eq.1 hz
      have ht4:=ht2
      have hcI:=zsm (p:=p) (a:=piv.length) (c:=col) hres2 (.inr hz)
      have hset2:(zf3 p piv.length col M1 i).set i (M1.getD i []) = zf3 p piv.length col M1 i:=by rw [← zix p piv.length col hi1 (Nat.le_refl i),zb8]
      rw [← hset2,← hcI,zfL p piv.length col hi1] at ht4
      exact zac (i + 1) (by refine ⟨?_,?_,?_,?_,?_,?_,?_,?_,?_,⟨by omega,ht4.same (by simp -dsimp only [gr,simprocAttr]) (fun x=>by simp -dsimp only [gr,simprocAttr])⟩⟩ <;> (first | (simp -dsimp only [gr,simprocAttr,h0d,h1d,h2d,h7d,r7d,h8d,h9d,h101d,h102d,zaa h (by omega)];first | done | rfl | (simp;done)) | assumption | rfl)) (by first | omega | (simp only;omega) | (dsimp only;omega) | (show _ < _;simp;omega))
     ·have hz:¬ (M1.getD i []).getD col 0 = 0:=by simpa using hz
      have hcI:zgY p piv.length col M1 i = sbt p ((M1.getD i []).getD col 0) (M1.getD piv.length []) (M1.getD i []):=by unfold zgY;rw [if_neg hid]
      have hfb:=hres2 col
      have hset2:(zf3 p piv.length col M1 i).set i (M1.getD i []) = zf3 p piv.length col M1 i:=by rw [← zix p piv.length col hi1 (Nat.le_refl i),zb8]
      generalize M1.getD i [] = old2 at *
      generalize old2.getD col 0 = f at *
      have hwg:IntKind.i64.wrap (p - f) = p - f:=zai (by omega) (by omega)
      simp -dsimp only [↓gp,gq,simprocAttr,gT,h0d,h1d,h2d,h7d,r7d,h8d,h9d,h101d,h102d,ht2.top,hlq',hr2,hwg]
      refine ⟨h,h,by omega,by omega,h,h,?_⟩
      refine zah (fun (t:Nat) s=>s.sl 0 = .own 1000000 1∧s.sl 1 = int n∧s.sl 2 = int p∧s.sl 7 = .own 7 v∧s.rw 7 = ⟨v,.sli 3 1 false (iL (ofN piv))⟩∧s.sl 8 = int col∧s.sl 9 = int piv.length∧s.sl 101 = int cur.length∧s.sl 102 = int i∧s.sl 13 = int i∧s.sl 14 = int (p - f)∧s.sl 131 = int old2.length∧s.sl 132 = int t∧(t ≤ old2.length∧TabI s.rw 1000000 1 22 3 q' ((zf3 p piv.length col M1 i).set i (prt (zgY p piv.length col M1 i) old2 t)))) (fun t=>old2.length - t) (0) (by refine ⟨?_,?_,?_,?_,?_,?_,?_,?_,?_,?_,?_,?_,?_,⟨by omega,by rw [zeL,hset2];exact ht2.same (by simp -dsimp only [gr,simprocAttr]) (fun x=>by simp -dsimp only [gr,simprocAttr])⟩⟩ <;> (first | (simp -dsimp only [gr,simprocAttr,h0d,h1d,h2d,h7d,r7d,h8d,h9d,h101d,h102d,hwg];first | done | rfl | (simp;done)) | assumption | rfl)) ?_
      intro t se ⟨h0e,h1e,h2e,h7e,r7e,h8e,h9e,h101e,h102e,h13e,h14e,h131e,h132e,hIe⟩
      obtain ⟨ht',ht3⟩:=hIe
      have hls:((zf3 p piv.length col M1 i).set i (prt (zgY p piv.length col M1 i) old2 t)).length = cur.length:=by rw [List.length_set,hlN]
      have hr3:=ht3.row (i:=i) (by omega)
      rw [zaK (by omega)] at hr3
      have hpl3:(prt (zgY p piv.length col M1 i) old2 t).length = old2.length:=zcT hnewl t
      have hpj3:=zj7 hnewl (Nat.le_refl t)
      have hra1:piv.length < M1.length:=by omega
      have hr4:=ht3.row (i:=piv.length) (by omega)
      rw [zbw hid,zBs p piv.length col i hra1] at hr4
      have hla:=hM1.len piv.length hra1
      have hresa:=hM1.res piv.length hra1
      generalize M1.getD piv.length [] = pr at *
      have hft:=zhU (show 0 ≤ p - f∧p - f < p by omega) ⟨(hresa t).1,by have:=(hresa t).2;omega⟩ hp2.2
      have hot:=hres2 t
      have hw3:IntKind.i64.wrap ((p - f) * pr.getD t 0) = (p - f) * pr.getD t 0:=zai (by omega) (by omega)
      have hw4:IntKind.i64.wrap (old2.getD t 0 + (p - f) * pr.getD t 0) = old2.getD t 0 + (p - f) * pr.getD t 0:=zai (by omega) (by omega)
      have hmod:(old2.getD t 0 + (p - f) * pr.getD t 0).tmod p = (old2.getD t 0 - f * pr.getD t 0) % p:=by rw [zcV (by omega),zGM (by omega)]
      simp -dsimp only [↓gp,gq,simprocAttr,gT,h0e,h1e,h2e,h7e,r7e,h8e,h9e,h101e,h102e,h13e,h14e,h131e,h132e,ht3.top,hlq',hr3,hr4,hpl3,hpj3,hw3,hw4,hmod]
      refine ⟨fun h2'=>⟨by kernel_rfl,h,h,h,h,h2',h2',h2,h2,by omega,by omega,by omega,h2',by omega,by kernel_rfl,?_⟩,fun h2'=>?_⟩
      ·refine zac (t + 1) ⟨(by (first | (simp -dsimp only [gr,simprocAttr,h0e,h1e,h2e,h7e,r7e,h8e,h9e,h101e,h102e,h13e,h14e,h131e,h132e,zaa h2' (by omega)];first | done | rfl | (simp;done)) | assumption | rfl)),(by (first | (simp -dsimp only [gr,simprocAttr,h0e,h1e,h2e,h7e,r7e,h8e,h9e,h101e,h102e,h13e,h14e,h131e,h132e,zaa h2' (by omega)];first | done | rfl | (simp;done)) | assumption | rfl)),(by (first | (simp -dsimp only [gr,simprocAttr,h0e,h1e,h2e,h7e,r7e,h8e,h9e,h101e,h102e,h13e,h14e,h131e,h132e,zaa h2' (by omega)];first | done | rfl | (simp;done)) | assumption | rfl)),(by (first | (simp -dsimp only [gr,simprocAttr,h0e,h1e,h2e,h7e,r7e,h8e,h9e,h101e,h102e,h13e,h14e,h131e,h132e,zaa h2' (by omega)];first | done | rfl | (simp;done)) | assumption | rfl)),(by (first | (simp -dsimp only [gr,simprocAttr,h0e,h1e,h2e,h7e,r7e,h8e,h9e,h101e,h102e,h13e,h14e,h131e,h132e,zaa h2' (by omega)];first | done | rfl | (simp;done)) | assumption | rfl)),(by (first | (simp -dsimp only [gr,simprocAttr,h0e,h1e,h2e,h7e,r7e,h8e,h9e,h101e,h102e,h13e,h14e,h131e,h132e,zaa h2' (by omega)];first | done | rfl | (simp;done)) | assumption | rfl)),(by (first | (simp -dsimp only [gr,simprocAttr,h0e,h1e,h2e,h7e,r7e,h8e,h9e,h101e,h102e,h13e,h14e,h131e,h132e,zaa h2' (by omega)];first | done | rfl | (simp;done)) | assumption | rfl)),(by (first | (simp -dsimp only [gr,simprocAttr,h0e,h1e,h2e,h7e,r7e,h8e,h9e,h101e,h102e,h13e,h14e,h131e,h132e,zaa h2' (by omega)];first | done | rfl | (simp;done)) | assumption | rfl)),(by (first | (simp -dsimp only [gr,simprocAttr,h0e,h1e,h2e,h7e,r7e,h8e,h9e,h101e,h102e,h13e,h14e,h131e,h132e,zaa h2' (by omega)];first | done | rfl | (simp;done)) | assumption | rfl)),(by (first | (simp -dsimp only [gr,simprocAttr,h0e,h1e,h2e,h7e,r7e,h8e,h9e,h101e,h102e,h13e,h14e,h131e,h132e,zaa h2' (by omega)];first | done | rfl | (simp;done)) | assumption | rfl)),(by (first | (simp -dsimp only [gr,simprocAttr,h0e,h1e,h2e,h7e,r7e,h8e,h9e,h101e,h102e,h13e,h14e,h131e,h132e,zaa h2' (by omega)];first | done | rfl | (simp;done)) | assumption | rfl)),(by (first | (simp -dsimp only [gr,simprocAttr,h0e,h1e,h2e,h7e,r7e,h8e,h9e,h101e,h102e,h13e,h14e,h131e,h132e,zaa h2' (by omega)];first | done | rfl | (simp;done)) | assumption | rfl)),(by (first | (simp -dsimp only [gr,simprocAttr,h0e,h1e,h2e,h7e,r7e,h8e,h9e,h101e,h102e,h13e,h14e,h131e,h132e,zaa h2' (by omega)];first | done | rfl | (simp;done)) | assumption | rfl)),⟨by omega,?_⟩⟩ (by first | omega | (simp only;omega) | (dsimp only;omega) | (show _ < _;simp;omega))
       have e:(zf3 p piv.length col M1 i).set i (prt (zgY p piv.length col M1 i) old2 (t + 1)) = ((zf3 p piv.length col M1 i).set i (prt (zgY p piv.length col M1 i) old2 t)).set i ((prt (zgY p piv.length col M1 i) old2 t).set t ((old2.getD t 0 - f * pr.getD t 0) % p)):=by
        rw [zpj,← zgN hnewl h2',← zdq p f (piv:=pr) h2',hcI]
       rw [e]
       exact ht3.set (by omega) (by simp -dsimp only [gr,simprocAttr,h0e,h1e,h2e,h7e,r7e,h8e,h9e,h101e,h102e,h13e,h14e,h131e,h132e]) (by simp -dsimp only [gr,simprocAttr,h0e,h1e,h2e,h7e,r7e,h8e,h9e,h101e,h102e,h13e,h14e,h131e,h132e]) (fun x hx=>by simp -dsimp only [gr,simprocAttr,h0e,h1e,h2e,h7e,r7e,h8e,h9e,h101e,h102e,h13e,h14e,h131e,h132e,hx])
      ·have:t = old2.length:=by omega
       have ht4:=ht3
       rw [this,zgM hnewl,zfL p piv.length col hi1] at ht4
       exact zac (i + 1) (by refine ⟨?_,?_,?_,?_,?_,?_,?_,?_,?_,⟨by omega,ht4.same (by simp -dsimp only [gr,simprocAttr]) (fun x=>by simp -dsimp only [gr,simprocAttr])⟩⟩ <;> (first | (simp -dsimp only [gr,simprocAttr,h0d,h1d,h2d,h7d,r7d,h8d,h9d,h101d,h102d,h0e,h1e,h2e,h7e,r7e,h8e,h9e,h101e,h102e,h13e,h14e,h131e,h132e,zaa h (by omega)];first | done | rfl | (simp;done)) | assumption | rfl)) (by first | omega | (simp only;omega) | (dsimp only;omega) | (show _ < _;simp;omega))
    ·have hid:i = piv.length:=by
      have h9:(i:Int) = piv.length:=by simpa using he
      omega
     have hi1:i < M1.length:=by omega
     have ht4:=ht2
     have hcI:=zsm (p:=p) (a:=piv.length) (c:=col) (hM1.res i hi1) (.inl hid)
     have hset2:(zf3 p piv.length col M1 i).set i (M1.getD i []) = zf3 p piv.length col M1 i:=by rw [← zix p piv.length col hi1 (Nat.le_refl i),zb8]
     rw [← hset2,← hcI,zfL p piv.length col hi1] at ht4
     exact zac (i + 1) (by refine ⟨?_,?_,?_,?_,?_,?_,?_,?_,?_,⟨by omega,ht4.same (by simp -dsimp only [gr,simprocAttr]) (fun x=>by simp -dsimp only [gr,simprocAttr])⟩⟩ <;> (first | (simp -dsimp only [gr,simprocAttr,h0d,h1d,h2d,h7d,r7d,h8d,h9d,h101d,h102d,zaa h (by omega)];first | done | rfl | (simp;done)) | assumption | rfl)) (by first | omega | (simp only;omega) | (dsimp only;omega) | (show _ < _;simp;omega))
    ·have:i = cur.length:=by omega
     rw [this] at ht2
     refine ⟨by rw [zad];omega,?_⟩
     exact zac ((zf3 p piv.length col M1 cur.length,piv ++ [col],col + 1,q',v + 1)) (by refine ⟨?_,?_,?_,?_,?_,?_,⟨by dsimp only;omega,zBt (by omega) hM1,by dsimp only;rw [zbP,hl1,hlc],by simp;omega,ht2.same (by simp -dsimp only [gr,simprocAttr]) (fun x=>by simp -dsimp only [gr,simprocAttr]),hperm'.trans hperm,hred⟩⟩ <;> (first | (simp -dsimp only [gr,simprocAttr,h0a,h1a,h2a,h7a,r7a,h8a,h0d,h1d,h2d,h7d,r7d,h8d,h9d,h101d,h102d,zaa h1 (by omega),zaS,zdE];first | done | rfl | (simp;done)) | assumption | rfl)) (by first | omega | (simp only;omega) | (dsimp only;omega) | (show _ < _;simp;omega))
  ·have hfa:=stop (.inl (by omega))
   have:a = cur.length:=by omega
   subst this
   have hst:zbn p cur col piv = (cur,piv):=by unfold zbn;rw [if_pos hfa]
   rw [hst] at hred
   simp -dsimp only [↓gp,gq,simprocAttr,gT,h0b,h1b,h2b,h7b,r7b,h8b,h9b,h10b,htb.top,hlq]
   exact zac ((cur,piv,col + 1,q,v)) (by refine ⟨?_,?_,?_,?_,?_,?_,⟨by dsimp only;omega,hcur,hlc,by dsimp only;omega,htb.same (by simp -dsimp only [gr,simprocAttr]) (fun x=>by simp -dsimp only [gr,simprocAttr]),hperm,hred⟩⟩ <;> (first | (simp -dsimp only [gr,simprocAttr,h0a,h1a,h2a,h7a,r7a,h8a,h0b,h1b,h2b,h7b,r7b,h8b,h9b,h10b,zaa h1 (by omega)];first | done | rfl | (simp;done)) | assumption | rfl)) (by first | omega | (simp only;omega) | (dsimp only;omega) | (show _ < _;simp;omega))
 ·have hf:zgO p cur piv col (n - col) = (cur,piv):=zlP p cur piv col (n - col) (by omega)
  rw [hf] at hred
  rw [hred]
  refine ⟨zly (htc.same (by simp -dsimp only [gr,simprocAttr]) (fun x=>by simp -dsimp only [gr,simprocAttr])) hperm,?_⟩
  simp -dsimp only [↓gp,gq,simprocAttr,gT,h0a,h1a,h2a,h7a,r7a,h8a]
 ·have hf:zgO p cur piv col (n - col) = (cur,piv):=by rw [show n - col = 0 by omega];rfl
  rw [hf] at hred
  rw [hred]
  refine ⟨zly (htc.same (by simp -dsimp only [gr,simprocAttr]) (fun x=>by simp -dsimp only [gr,simprocAttr])) hperm,?_⟩
  simp -dsimp only [↓gp,gq,simprocAttr,gT,h0a,h1a,h2a,h7a,r7a,h8a]
theorem zpn (M:Mat) (p:Int) (hp:isP p = true) (hM:M.length ≤ 900) (hr:∀ i,i < M.length→(M.getD i []).length = (M.getD 0 []).length) (hn:(M.getD 0 []).length ≤ 1000):AC Tryz.prog 152 [zCx M,int p] (.im (int (zpl p M))):=by
 refine AC.go (rs:=[.tmp 4]) zaD mixed Tryz.func152 rfl rfl rfl (by kernel_rfl) fun hl=>?_
 have hp2:=zcq hp
 simp -dsimp only [↓gp,gq,simprocAttr,gT]
 refine ⟨fun h0=>?_,fun h0=>?_⟩
 ·have hM0:M = []:=List.eq_nil_of_length_eq_zero (by simpa using h0)
  subst hM0
  rfl
 ·have hM0:¬ M.length = 0:=by simpa using h0
  refine ⟨by kernel_rfl,zab (zjA M p hp hM (fun i hi=>by rw [hr i hi];exact hn)) ?_⟩
  simp -dsimp only [↓gp,gq,simprocAttr,gT]
  refine ⟨by omega,by omega,?_⟩
  have hok:=ztC (p:=p) (by omega) hr
  have hred:=zjz (zgZ p M) (M.getD 0 []).length p hp hok (by rw [zdG];exact hM) hn
  refine zF2 (v:=1) hred (by repeat (first | exact GiveL.nil | refine GiveL.v ?_ | refine GiveL.clo ?_ | refine GiveL.own 0 rfl ?_ | refine GiveL.own 1 rfl ?_ | refine GiveL.ag ?_ ?_)) (zrv 10 22 3 ((zgZ p M).map iL) (fun i hi=>by simp -dsimp only [gr,simprocAttr])) List.nodup_range (by decide) ?_
  simp -dsimp only [↓gp,gq,simprocAttr,gT]
  exact ⟨by kernel_rfl,by rw [zad];rfl⟩
theorem zjy (M:Mat) (p:Int) (hp:isP p = true) (hM:M.length ≤ 900) (hr:∀ i,i < M.length→(M.getD i []).length = (M.getD 0 []).length) (hn:(M.getD 0 []).length ≤ 1000) :
 AC Tryz.prog 140 [zCx M,int p] (.tup [.tb 22 3 ((zgO p (zgZ p M) [] 0 (M.getD 0 []).length).1.map iL),.fr 3 1 (iL (ofN (zgO p (zgZ p M) [] 0 (M.getD 0 []).length).2))]):=by
 refine AC.go (rs:=[.tmp 4,.tmp 5]) zaD mixed Tryz.func140 rfl rfl rfl (by kernel_rfl) fun hl=>?_
 have hp2:=zcq hp
 generalize hne:(M.getD 0 []).length = n at *
 simp -dsimp only [↓gp,gq,simprocAttr,gT]
 refine zC7 (k:=15) (v:=1) (e:=22) (e2:=3) (by simp -dsimp only [gr,simprocAttr]) (fun j=>by simp -dsimp only [gr,simprocAttr]) (fun (i:Nat) s=>s.sl 0 = zCx M∧s.sl 1 = int p∧s.sl 6 = .own 15 (i + 1)∧s.sl 7 = int i∧(i ≤ M.length∧TabG s.rw 15 (i + 1) 22 3 i (zgZ p (M.take i)))) (fun i=>M.length - i) (0) (fun sX htX hslX hoX=>(by refine ⟨?_,?_,?_,?_,⟨by omega,htX⟩⟩ <;> (first | (simp -dsimp only [gr,simprocAttr,hslX,hoX];first | done | rfl | (simp;done)) | assumption | rfl))) ?_
 intro i sa ⟨h0a,h1a,h6a,h7a,hIa⟩
 obtain ⟨hi,ht⟩:=hIa
 simp -dsimp only [↓gp,gq,simprocAttr,gT,h0a,h1a,h6a,h7a]
 refine ⟨fun h=>?_,fun h=>?_⟩
 ·have hri:=hr i h
  have hlen:=zhV p hi
  refine zGs (fun (zb:Nat × Nat) s=>match zb with | (j,u)=>s.sl 0 = zCx M∧s.sl 1 = int p∧s.sl 6 = .own 15 (i + 1)∧s.sl 7 = int i∧s.sl 8 = .own 22 u∧s.rw 22 = ⟨u,.tab 3 (iL (((M.getD i []).map fun x=>x % p).take j))⟩∧s.sl 9 = int j∧(j ≤ n∧TabG s.rw 15 (i + 1) 22 3 i (zgZ p (M.take i)))) (fun (j,u)=>n - j) ((0,(sa.rw 22).ver + 1)) (Wk.tab (k:=22) (v:=(sa.rw 22).ver + 1) (e:=3) (c:=[]) (by simp -dsimp only [gr,simprocAttr]) (fun p hp=>by cases hp)) (by refine ⟨?_,?_,?_,?_,?_,?_,?_,⟨by omega,ht.same (by simp -dsimp only [gr,simprocAttr]) (fun x=>by simp -dsimp only [gr,simprocAttr])⟩⟩ <;> (first | (simp -dsimp only [gr,simprocAttr,h0a,h1a,h6a,h7a];first | done | rfl | (simp;done)) | assumption | rfl)) ?_
  intro (j,u) sb ⟨h0b,h1b,h6b,h7b,h8b,r22b,h9b,hIb⟩
  obtain ⟨hj,ht2⟩:=hIb
  simp -dsimp only [↓gp,gq,simprocAttr,gT,h0b,h1b,h6b,h7b,h8b,r22b,h9b]
  refine ⟨h,h,fun h2=>⟨h,h,by omega,by omega,zab (zeQ _ p hp) ?_⟩,fun h2=>?_⟩
  ·simp -dsimp only [↓gp,gq,simprocAttr,gT,h0b,h1b,h6b,h7b,h8b,r22b,h9b]
   have h2':j < n:=by omega
   have hts:((M.getD i []).map fun x=>x % p).take (j + 1) = ((M.getD i []).map fun x=>x % p).take j ++ [(M.getD i []).getD j 0 % p]:=by
    rw [zau 0 (by simpa using h2),zwy p h2]
   have htl:(((M.getD i []).map fun x=>x % p).take j).length ≤ 1000:=by simp;omega
   refine ⟨by omega,zac ((j + 1,u + 1)) (by refine ⟨?_,?_,?_,?_,?_,?_,?_,⟨by dsimp only;omega,ht2.same (by simp -dsimp only [gr,simprocAttr]) (fun x=>by simp -dsimp only [gr,simprocAttr])⟩⟩ <;> (first | (simp -dsimp only [gr,simprocAttr,h0b,h1b,h6b,h7b,h8b,r22b,h9b,zaa h2' (by omega),hts];first | done | rfl | (simp;done)) | assumption | rfl)) (by first | omega | (simp only;omega) | (dsimp only;omega) | (show _ < _;simp;omega))⟩
  ·have hjn:((M.getD i []).map fun x=>x % p).take j = (M.getD i []).map fun x=>x % p:=List.take_of_length_le (by rw [List.length_map,hri];omega)
   rw [hjn] at r22b
   simp -dsimp only [↓gp,gq,simprocAttr,gT,h0b,h1b,h6b,h7b,h8b,r22b,h9b,ht2.top]
   refine ⟨by omega,zxA (k:=15) (v:=i + 1 + 1) (e:=22) (e2:=3) (n:=i) (d:=22) (vd:=u) (M:=zgZ p (M.take i)) (r:=(M.getD i []).map fun x=>x % p) (by simp -dsimp only [gr,simprocAttr,ht2.top]) hlen (fun j hj=>by simp -dsimp only [gr,simprocAttr,ht2.row j hj]) (fun j hj=>by simp -dsimp only [gr,simprocAttr,ht2.rest j hj]) (by simp -dsimp only [gr,simprocAttr,h0b,h1b,h6b,h7b,h8b,r22b,h9b]) (by decide) (by decide) (i + 1) (fun sX htX hslX hoX=>(by refine ⟨?_,?_,?_,?_,⟨by omega,(zsn p h ▸ htX:TabG _ _ _ _ _ _ _)⟩⟩ <;> (first | (simp -dsimp only [gr,simprocAttr,hslX,hoX,h0a,h1a,h6a,h7a,h0b,h1b,h6b,h7b,h8b,r22b,h9b,zaa h (by omega)];first | done | rfl | (simp;done)) | assumption | rfl))) (by first | omega | (simp only;omega) | (dsimp only;omega) | (show _ < _;simp;omega))⟩
 ·have:i = M.length:=by omega
  subst this
  rw [List.take_length] at ht
  have htI:=ht.done
  have hmok:=ztC (p:=p) (by omega) hr
  have hml:=zdG p M
  generalize zgZ p M = R at *
  refine zah (fun (zc:Mat × List Nat × Nat × List Nat × Nat) s=>match zc with | (cur,piv,col,q,v)=>s.sl 1 = int p∧s.sl 6 = .own 15 (M.length + 1)∧s.sl 10 = .own 48 v∧s.rw 48 = ⟨v,.sli 3 1 false (iL (ofN piv))⟩∧s.sl 11 = int col∧(col ≤ n∧MatOk p n cur∧cur.length = M.length∧piv.length ≤ M.length∧TabI s.rw 15 (M.length + 1) 22 3 q cur∧q.Perm (List.range M.length)∧zgO p R [] 0 n = zgO p cur piv col (n - col))) (fun (cur,piv,col,q,v)=>n - col) ((R,[],0,List.range M.length,(sa.rw 48).ver + 1)) (by refine ⟨?_,?_,?_,?_,?_,⟨by omega,hmok,hml,by simp,htI.same (by simp -dsimp only [gr,simprocAttr]) (fun x=>by simp -dsimp only [gr,simprocAttr]),List.Perm.refl _,rfl⟩⟩ <;> (first | (simp -dsimp only [gr,simprocAttr,h0a,h1a,h6a,h7a];first | done | rfl | (simp;done)) | assumption | rfl)) ?_
  intro (cur,piv,col,q,v) sc ⟨h1c,h6c,h10c,r48c,h11c,hIc⟩
  obtain ⟨hcol,hcur,hlc,hpl,htc,hperm,hred⟩:=hIc
  have hlq:q.length = cur.length:=htc.len
  simp -dsimp only [↓gp,gq,simprocAttr,gT,h1c,h6c,h10c,r48c,h11c,htc.top,hlq,zad]
  refine ⟨fun h0=>?_,fun h0=>?_⟩
  ·have h0:0 < cur.length:=by omega
   have hr0:=htc.row h0
   have hl0:=hcur.len 0 h0
   simp -dsimp only [↓gp,gq,simprocAttr,gT,h1c,h6c,h10c,r48c,h11c,htc.top,hlq,zad,hr0,hl0]
   refine ⟨by omega,h0,fun h1=>⟨fun h2=>?_,fun h2=>?_⟩,fun h1=>?_⟩
   ·rw [zwx h1 h2] at hred
    refine zah (fun (a:Nat) s=>s.sl 1 = int p∧s.sl 6 = .own 15 (M.length + 1)∧s.sl 10 = .own 48 v∧s.rw 48 = ⟨v,.sli 3 1 false (iL (ofN piv))⟩∧s.sl 11 = int col∧s.sl 12 = int piv.length∧s.sl 13 = int a∧(piv.length ≤ a∧a ≤ cur.length∧zbd cur col piv.length (cur.length - piv.length) = zbd cur col a (cur.length - a)∧TabI s.rw 15 (M.length + 1) 22 3 q cur)) (fun a=>cur.length - a) (piv.length) (by refine ⟨?_,?_,?_,?_,?_,?_,?_,⟨by omega,by omega,rfl,htc.same (by simp -dsimp only [gr,simprocAttr]) (fun x=>by simp -dsimp only [gr,simprocAttr])⟩⟩ <;> (first | (simp -dsimp only [gr,simprocAttr,h1c,h6c,h10c,r48c,h11c];first | done | rfl | (simp;done)) | assumption | rfl)) ?_
    intro a sd ⟨h1d,h6d,h10d,r48d,h11d,h12d,h13d,hId⟩
    obtain ⟨ha1,ha2,hfind,htb⟩:=hId
    have stop:(¬ a < cur.length ∨ ¬ (cur.getD a []).getD col 0 = 0)→zbd cur col piv.length (cur.length - piv.length) = a:=fun h=>by
     rw [hfind]
     by_cases hlt:a < cur.length
     ·rw [zhT hlt,if_neg (h.resolve_left (by omega))]
     ·rw [show cur.length - a = 0 by omega];rfl
    simp -dsimp only [↓gp,gq,simprocAttr,gT,h1d,h6d,h10d,r48d,h11d,h12d,h13d,htb.top,hlq]
    refine ⟨fun h3=>?_,fun h3=>?_⟩
    ·have hra:=htb.row h3
     have hlen:=hcur.len a h3
     simp -dsimp only [↓gp,gq,simprocAttr,gT,h1d,h6d,h10d,r48d,h11d,h12d,h13d,htb.top,hlq,hra]
     refine ⟨h3,h3,by omega,by omega,fun hz=>?_,fun hz=>?_⟩
     ·have hz:=beq_iff_eq.1 hz
      rw [zhT h3,if_pos hz] at hfind
      exact zac (a + 1) (by refine ⟨?_,?_,?_,?_,?_,?_,?_,⟨by omega,by omega,hfind,htb.same (by simp -dsimp only [gr,simprocAttr]) (fun x=>by simp -dsimp only [gr,simprocAttr])⟩⟩ <;> (first | (simp -dsimp only [gr,simprocAttr,h1d,h6d,h10d,r48d,h11d,h12d,h13d,zaa h3 (by omega)];first | done | rfl | (simp;done)) | assumption | rfl)) (by first | omega | (simp only;omega) | (dsimp only;omega) | (show _ < _;simp;omega))
     ·have hz:¬ (cur.getD a []).getD col 0 = 0:=by simpa using hz
      have hfa:=stop (.inr hz)
      have hne':((a:Int) == (cur.length:Int)) = false:=by simp;omega
      have hst:zbn p cur col piv = (zdF p piv.length col (swp cur piv.length a),piv ++ [col]):=by unfold zbn;rw [hfa,if_neg (by omega)]
      rw [hst] at hred
      have hrd:=htb.row h2
      simp -dsimp only [↓gp,gq,simprocAttr,gT,h1d,h6d,h10d,r48d,h11d,h12d,h13d,htb.top,hlq,hra,hne',hrd]
      have hsw:=zwu hcur h2 h3
      have hswl:(swp cur piv.length a).length = cur.length:=zb9 _ _ _
      have hqp:((q.set a (q.getD piv.length 0)).set piv.length (q.getD a 0)).Perm q:=by
       have e1:q.getD piv.length 0 = q[piv.length]'(by omega):=by simp [List.getD,(by omega:piv.length < q.length)]
       have e2:q.getD a 0 = q[a]'(by omega):=by simp [List.getD,(by omega:a < q.length)]
       rw [e1,e2];exact List.set_set_perm (by omega) (by omega)
      have hclr:=zlX (swp cur piv.length a) n piv.length col p hp hsw (by omega) h1 hn
      refine ⟨h3,h3,h2,h2,h3,by omega,h2,by omega,zFW hclr (by repeat (first | exact GiveL.nil | refine GiveL.v ?_ | refine GiveL.clo ?_ | refine GiveL.own 0 rfl ?_ | refine GiveL.own 1 rfl ?_ | refine GiveL.ag ?_ ?_)) ((htb.swap h3 h2 (by simp -dsimp only [gr,simprocAttr,h1d,h6d,h10d,r48d,h11d,h12d,h13d]) (fun x=>by simp -dsimp only [gr,simprocAttr,h1d,h6d,h10d,r48d,h11d,h12d,h13d])).1.to (zDB cur a piv.length)).is (hqp.nodup_iff.2 htb.nd) (fun p' hp'=>?_)⟩
      simp -dsimp only [↓gp,gq,simprocAttr,gT,h1d,h6d,h10d,r48d,h11d,h12d,h13d,zad]
      refine ⟨by omega,?_⟩
      have hnd':p'.Nodup:=hp'.nodup_iff.2 (hqp.nodup_iff.2 htb.nd)
      have hcl:=zsf (p:=p) (at':=piv.length) (col:=col) (by omega) hsw (by omega)
      have hcll:=zbe p piv.length col (swp cur piv.length a)
      have hp'l:p'.length = cur.length:=by rw [hp'.length_eq,hqp.length_eq,hlq]
      exact zac ((zdF p piv.length col (swp cur piv.length a),piv ++ [col],col + 1,p',v + 1)) (by refine ⟨?_,?_,?_,?_,?_,⟨by dsimp only;omega,hcl,by dsimp only;rw [hcll,hswl,hlc],by simp;omega,⟨⟨by simp -dsimp only [gr,simprocAttr],by simp [hp'l,hcll,hswl],fun i hi=>by simp -dsimp only [gr,simprocAttr,zxB hnd' hi,zc9]⟩,hnd'⟩,hp'.trans (hqp.trans hperm),hred⟩⟩ <;> (first | (simp -dsimp only [gr,simprocAttr,h1c,h6c,h10c,r48c,h11c,h1d,h6d,h10d,r48d,h11d,h12d,h13d,zaa h1 (by omega),zaS,zdE];first | done | rfl | (simp;done)) | assumption | rfl)) (by first | omega | (simp only;omega) | (dsimp only;omega) | (show _ < _;simp;omega))
    ·have hfa:=stop (.inl (by omega))
     have:a = cur.length:=by omega
     subst this
     have hst:zbn p cur col piv = (cur,piv):=by unfold zbn;rw [if_pos hfa]
     rw [hst] at hred
     simp -dsimp only [↓gp,gq,simprocAttr,gT,h1d,h6d,h10d,r48d,h11d,h12d,h13d,htb.top,hlq]
     exact zac ((cur,piv,col + 1,q,v)) (by refine ⟨?_,?_,?_,?_,?_,⟨by dsimp only;omega,hcur,hlc,by dsimp only;omega,htb.same (by simp -dsimp only [gr,simprocAttr]) (fun x=>by simp -dsimp only [gr,simprocAttr]),hperm,hred⟩⟩ <;> (first | (simp -dsimp only [gr,simprocAttr,h1c,h6c,h10c,r48c,h11c,h1d,h6d,h10d,r48d,h11d,h12d,h13d,zaa h1 (by omega)];first | done | rfl | (simp;done)) | assumption | rfl)) (by first | omega | (simp only;omega) | (dsimp only;omega) | (show _ < _;simp;omega))
   ·have hf:zgO p cur piv col (n - col) = (cur,piv):=zlP p cur piv col (n - col) h2
    rw [hf] at hred
    rw [hred]
    simp -dsimp only [↓gp,gq,simprocAttr,gT,h1c,h6c,h10c,r48c,h11c]
    have hq9:∀ j ∈ q,j < 998:=fun j hj=>by have:=List.mem_range.1 (hperm.mem_iff.1 hj);omega
    refine zlB htc (by decide) hq9 ?_
    simp -dsimp only [↓gp,gq,simprocAttr,gT,h1c,h6c,h10c,r48c,h11c]
    exact zlC htc.nd (fun j hj=>by rw [zbE];omega) (by decide)
   ·have hf:zgO p cur piv col (n - col) = (cur,piv):=by rw [show n - col = 0 by omega];rfl
    rw [hf] at hred
    rw [hred]
    simp -dsimp only [↓gp,gq,simprocAttr,gT,h1c,h6c,h10c,r48c,h11c]
    have hq9:∀ j ∈ q,j < 998:=fun j hj=>by have:=List.mem_range.1 (hperm.mem_iff.1 hj);omega
    refine zlB htc (by decide) hq9 ?_
    simp -dsimp only [↓gp,gq,simprocAttr,gT,h1c,h6c,h10c,r48c,h11c]
    exact zlC htc.nd (fun j hj=>by rw [zbE];omega) (by decide)
  ·have hf:zgO p cur piv col (n - col) = (cur,piv):=zlP p cur piv col (n - col) (by omega)
   rw [hf] at hred
   rw [hred]
   simp -dsimp only [↓gp,gq,simprocAttr,gT,h1c,h6c,h10c,r48c,h11c]
   have hq9:∀ j ∈ q,j < 998:=fun j hj=>by have:=List.mem_range.1 (hperm.mem_iff.1 hj);omega
   refine zlB htc (by decide) hq9 ?_
   simp -dsimp only [↓gp,gq,simprocAttr,gT,h1c,h6c,h10c,r48c,h11c]
   exact zlC htc.nd (fun j hj=>by rw [zbE];omega) (by decide)
theorem zBA (s:St) (d e e2 e' sz:Nat) (rows:List (List PV)) (c:List PV):(zao s d (.tup [.tb e e2 rows,.fr e' sz c])).sl d = .tup [.own d ((s.rw d).ver + 1),.own (sid d rows.length) ((s.rw (sid d rows.length)).ver + 1)] ∧
 (zao s d (.tup [.tb e e2 rows,.fr e' sz c])).rw (sid d rows.length) = ⟨(s.rw (sid d rows.length)).ver + 1,.sli e' sz false c⟩:=by
 have hl:(zak (.tb e e2 rows)).length = rows.length + 1:=by rw [zak];simp
 have hd:zan d 0 = d:=by unfold zan;omega
 have hs:zan d (0 + (rows.length + 1)) = sid d rows.length:=by rw [Nat.zero_add];rfl
 constructor
 ·unfold zao
  rw [zay]
  simp only [za0,zcv,zbF,zbV,hl,hd,hs]
 ·have hrw:(zao s d (.tup [.tb e e2 rows,.fr e' sz c])).rw = zik s.rw d (zbs s.rw d (zak (.tup [.tb e e2 rows,.fr e' sz c])) 0) 0:=by
   unfold zao;rw [zeY];exact zdv _ _ _ _
  have hlv:zak (.tup [.tb e e2 rows,.fr e' sz c]) = zak (.tb e e2 rows) ++ [(e',some sz,c)]:=by rw [zbS];simp [zak]
  have h2:rows.length + 1 < (zak (.tup [.tb e e2 rows,.fr e' sz c])).length:=by rw [hlv];simp [hl]
  have h1:rows.length + 1 < (zbs s.rw d (zak (.tup [.tb e e2 rows,.fr e' sz c])) 0).length:=by rw [zbt];exact h2
  have:=zd3 s.rw d (zbs s.rw d (zak (.tup [.tb e e2 rows,.fr e' sz c])) 0) 0 (rows.length + 1) h1
  rw [hs] at this
  rw [hrw,this,zei _ _ _ _ _ h2,hs]
  have h3:(zak (.tup [.tb e e2 rows,.fr e' sz c]))[rows.length + 1] = (e',some sz,c):=by
   simp only [hlv]
   rw [List.getElem_append_right (by omega)]
   simp [hl]
  rw [h3]
  rfl
theorem zmF (M:Mat) (p:Int) (hp:isP p = true) (hM:M.length ≤ 900) (hr:∀ i,i < M.length→(M.getD i []).length = (M.getD 0 []).length) (hn:(M.getD 0 []).length ≤ 1000):AC Tryz.prog 86 [zCx M,int p] (.im (int (zpl p M))):=by
 refine AC.go (rs:=[.tmp 4]) zaD mixed Tryz.func86 rfl rfl rfl (by kernel_rfl) fun hl=>?_
 simp -dsimp only [↓gp,gq,simprocAttr,gT]
 refine zab (zjy M p hp hM hr hn) ?_
 simp -dsimp only [↓gp,gq,simprocAttr,gT,zBA,zad]
 rfl
theorem zcW (n:Int) (xs:List Int):AC Tryz.prog 28 [.ag [int n,zax xs]] (.fr 3 1 (iL (zfj (zbh n xs)))):=by
 refine AC.go (rs:=[.tmp 2]) zaD mixed Tryz.func28 rfl rfl rfl (by kernel_rfl) fun hl=>?_
 simp -dsimp only [↓gp,gq,simprocAttr,gT]
 refine zab (zcf n xs) ?_
 simp -dsimp only [↓gp,gq,simprocAttr,gT]
 have hfull:=zcJ (zbh n xs)
 have hmem:∀ i,i < (zbb (zbh n xs)).length→(zbb (zbh n xs)).getD i 0 < 64:=fun i h=>zof h
 have hmx:=zDG (zbh n xs)
 have hd7:=zbj (zbh n xs)
 unfold zfj
 generalize zbb (zbh n xs) = all at *
 refine zah (fun (za:Nat × Nat × Nat) s=>match za with | (i,v,u)=>s.sl 3 = .own 6 v∧s.rw 6 = ⟨v,.sli 3 1 false (iL (zj8 (all.take i) (mxL (all.take i))))⟩∧s.sl 4 = .own 8 u∧s.rw 8 = ⟨u,.sli 3 1 false (iL (ofN all))⟩∧s.sl 5 = int i∧(i ≤ all.length)) (fun (i,v,u)=>all.length - i) ((0,1,1)) (by refine ⟨?_,?_,?_,?_,?_,by simp⟩ <;> (first | (simp -dsimp only [gr,simprocAttr,mxL,zj8];first | done | rfl | (simp;done)) | assumption | rfl)) ?_
 intro (i,v,u) sa ⟨h3a,r6a,h4a,r8a,h5a,hIa⟩
 simp -dsimp only [↓gp,gq,simprocAttr,gT,h3a,r6a,h4a,r8a,h5a,zad]
 refine ⟨fun h=>?_,fun h=>?_⟩
 ·have hi:=hmem i h
  have hge:(ofN all).getD i 0 = ((all.getD i 0:Nat):Int):=zaG h
  have hsn:=zau 0 h
  have hmi:=zDE (all.take i) (all.getD i 0)
  rw [← hsn] at hmi
  have hmle:=zDH (l:=all) (k:=i + 1)
  have hp6:=zb3 hi
  refine zah (fun (zb:Nat × Nat) s=>match zb with | (w,m)=>s.sl 3 = .own 6 w∧s.rw 6 = ⟨w,.sli 3 1 false (iL (zj8 (all.take i) m))⟩∧s.sl 4 = .own 8 u∧s.rw 8 = ⟨u,.sli 3 1 false (iL (ofN all))⟩∧s.sl 5 = int i∧(mxL (all.take i) ≤ m∧m ≤ mxL (all.take (i + 1)))) (fun (w,m)=>mxL (all.take (i + 1)) - m) ((v,mxL (all.take i))) (by refine ⟨?_,?_,?_,?_,?_,⟨by omega,by omega⟩⟩ <;> (first | (simp -dsimp only [gr,simprocAttr,h3a,r6a,h4a,r8a,h5a];first | done | rfl | (simp;done)) | assumption | rfl)) ?_
  intro (w,m) sb ⟨h3b,r6b,h4b,r8b,h5b,hIb⟩
  obtain ⟨hm1,hm2⟩:=hIb
  simp -dsimp only [↓gp,gq,simprocAttr,gT,h3b,r6b,h4b,r8b,h5b,zad,zcX,hge]
  refine ⟨h,h,zab (zaM _ (by omega)) ?_⟩
  simp -dsimp only [↓gp,gq,simprocAttr,gT,h3b,r6b,h4b,r8b,h5b,zad,zcX,hge]
  refine ⟨fun h2=>⟨by omega,?_⟩,fun h2=>?_⟩
  ·have e:zj8 (all.take i) m ++ [0] = zj8 (all.take i) (m + 1):=zBz _ hm1
   exact zac ((w + 1,m + 1)) (by refine ⟨?_,?_,?_,?_,?_,⟨by dsimp only;omega,by dsimp only;omega⟩⟩ <;> (first | (simp -dsimp only [gr,simprocAttr,h3b,r6b,h4b,r8b,h5b,e];first | done | rfl | (simp;done)) | assumption | rfl)) (by first | omega | (simp only;omega) | (dsimp only;omega) | (show _ < _;simp;omega))
  ·have hgm:(zj8 (all.take i) m).getD (zat (all.getD i 0)) 0 = (zsk (all.take i) (zat (all.getD i 0)):Int):=zfN _ (by omega)
   have hcl:zsk (all.take i) (zat (all.getD i 0)) ≤ 448:=by
    have:=List.length_filter_le (fun s=>zat s == zat (all.getD i 0)) (all.take i)
    rw [List.length_take] at this
    unfold zsk;omega
   have hw:IntKind.i64.wrap ((zsk (all.take i) (zat (all.getD i 0)):Int) + 1) = (zsk (all.take i) (zat (all.getD i 0)):Int) + 1:=zai (by omega) (by omega)
   have hme:m = mxL (all.take (i + 1)):=by omega
   have hadd:=zDF (all.take i) (all.getD i 0) m (by omega)
   rw [← hsn] at hadd
   refine ⟨by kernel_rfl,h,h,zab (zaM _ (by omega)) ?_⟩
   simp -dsimp only [↓gp,gq,simprocAttr,gT,h3b,r6b,h4b,r8b,h5b,zad,zcX,hge]
   refine ⟨h,h,zab (zaM _ (by omega)) ?_⟩
   simp -dsimp only [↓gp,gq,simprocAttr,gT,h3b,r6b,h4b,r8b,h5b,zad,zcX,hge,hgm,hw,hadd]
   refine ⟨by omega,by omega,by omega,by omega,by kernel_rfl,?_⟩
   subst hme
   exact zac ((i + 1,w,u)) (by refine ⟨?_,?_,?_,?_,?_,by dsimp only;omega⟩ <;> (first | (simp -dsimp only [gr,simprocAttr,h3a,r6a,h4a,r8a,h5a,h3b,r6b,h4b,r8b,h5b,zaa h (by omega)];first | done | rfl | (simp;done)) | assumption | rfl)) (by first | omega | (simp only;omega) | (dsimp only;omega) | (show _ < _;simp;omega))
 ·have:i = all.length:=by omega
  rw [this,List.take_length,hmx]
theorem zmE (a b:Nat) (ha:a < 64) (hb:b < 64) (hp:zat b = zat a + 1):AC Tryz.prog 142 [int a,int b] (.im (int (zg0 a b))):=by
 refine AC.go (rs:=[.tmp 4]) zaD mixed Tryz.func142 rfl rfl rfl (by kernel_rfl) fun hl=>?_
 have hpa:=zb3 ha
 have hpb:=zb3 hb
 have hand:=zbc (a:=a) (b:=b) (by omega) (by omega)
 have hw1:IntKind.i64.wrap ((zat b:Int) - (zat a:Int)) = 1:=by rw [zai (by omega) (by omega)];omega
 simp -dsimp only [↓gp,gq,simprocAttr,gT,hand]
 refine ⟨fun h=>zab (zaM b (by omega)) ?_,fun h=>?_⟩
 ·have hs:a &&& b = a:=by
   have h9:((a &&& b:Nat):Int) = a:=by simpa using h
   omega
  obtain ⟨hle,hx⟩:=zww a ha b hb hs
  simp -dsimp only [↓gp,gq,simprocAttr,gT]
  refine zab (zaM a (by omega)) ?_
  have hne:a ≠ b:=fun e=>by rw [e] at hp;omega
  have hw2:IntKind.i64.wrap ((b:Int) - (a:Int)) = ((b - a:Nat):Int):=by rw [zai (by omega) (by omega)];omega
  have hw3:IntKind.i64.wrap (((b - a:Nat):Int) - 1) = ((b - a - 1:Nat):Int):=by rw [zai (by omega) (by omega)];omega
  have hand2:=zbc (a:=b) (b:=b - a - 1) (by omega) (by omega)
  have hlt:b &&& (b - a - 1) < 64:=by have:b &&& (b - a - 1) ≤ b:=Nat.and_le_left;omega
  have hp6:=zb3 hlt
  have h11:((1:Int) != 1) = false:=rfl
  simp -dsimp only [↓gp,gq,simprocAttr,gT,hw1,hw2,hw3,hand2,h11]
  refine zab (zaM _ (by omega)) ?_
  have hmod:((zat (b &&& (b - a - 1)):Nat):Int).tmod 2 = ((zat (b &&& (b - a - 1)) % 2:Nat):Int):=by rw [zcV (by omega)];omega
  have hw4:IntKind.i64.wrap (2 * ((zat (b &&& (b - a - 1)) % 2:Nat):Int)) = 2 * ((zat (b &&& (b - a - 1)) % 2:Nat):Int):=zai (by omega) (by omega)
  have hw5:IntKind.i64.wrap (1 - 2 * ((zat (b &&& (b - a - 1)) % 2:Nat):Int)) = 1 - 2 * ((zat (b &&& (b - a - 1)) % 2:Nat):Int):=zai (by omega) (by omega)
  simp -dsimp only [↓gp,gq,simprocAttr,gT,hmod,hw4,hw5]
  unfold zg0
  rw [if_pos hs]
  split <;> omega
 ·have hs:¬ a &&& b = a:=by
   intro e
   rw [e] at h
   simp at h
  unfold zg0
  rw [if_neg hs]
theorem zoe {l h:List Nat} {i:Nat} (hi:i < l.length):zb5 (l.take i) h ++ [h.map fun b=>zg0 (l.getD i 0) b] = zb5 (l.take (i + 1)) h:=by
 rw [zau 0 hi];simp [zb5]
theorem zjw (n:Int) (xs:List Int) (k:Nat) (hk:1 ≤ k) (hk7:k ≤ 7):AC Tryz.prog 87 [.ag [int n,zax xs],int k] (.fr 22 1 (iLL (zb5 (zaQ (zbh n xs) (k - 1) 64) (zaQ (zbh n xs) k 64)))):=by
 refine AC.go (rs:=[.tmp 4]) zaD mixed Tryz.func87 rfl rfl rfl (by kernel_rfl) fun hl=>?_
 have hw1:IntKind.i64.wrap ((k:Int) - 1) = ((k - 1:Nat):Int):=by rw [zai (by omega) (by omega)];omega
 simp -dsimp only [↓gp,gq,simprocAttr,gT,hw1]
 refine zab (zcr n xs (k - 1)) ?_
 simp -dsimp only [↓gp,gq,simprocAttr,gT]
 refine zab (zcr n xs k) ?_
 simp -dsimp only [↓gp,gq,simprocAttr,gT]
 have hl1:=zbA (zbh n xs) (k - 1) (Nat.le_refl 64)
 have hl2:=zbA (zbh n xs) k (Nat.le_refl 64)
 have hm1:∀ i,i < (zaQ (zbh n xs) (k - 1) 64).length→(zaQ (zbh n xs) (k - 1) 64).getD i 0 < 64∧zat ((zaQ (zbh n xs) (k - 1) 64).getD i 0) = k - 1:=fun i hi=>by
  have:=zca.1 (zaj 0 hi);exact ⟨this.1,this.2.2⟩
 have hm2:∀ i,i < (zaQ (zbh n xs) k 64).length→(zaQ (zbh n xs) k 64).getD i 0 < 64∧zat ((zaQ (zbh n xs) k 64).getD i 0) = k:=fun i hi=>by
  have:=zca.1 (zaj 0 hi);exact ⟨this.1,this.2.2⟩
 generalize zaQ (zbh n xs) (k - 1) 64 = lo at *
 generalize zaQ (zbh n xs) k 64 = hi at *
 refine zah (fun (za:Nat × Nat × Nat × Nat) s=>match za with | (i,v,a,b)=>s.sl 5 = .own 11 v∧s.rw 11 = ⟨v,.sli 22 1 false (iLL (zb5 (lo.take i) hi))⟩∧s.sl 6 = .own 15 a∧s.rw 15 = ⟨a,.sli 3 1 false (iL (ofN lo))⟩∧s.sl 7 = .own 18 b∧s.rw 18 = ⟨b,.sli 3 1 false (iL (ofN hi))⟩∧s.sl 8 = int i∧(i ≤ lo.length)) (fun (i,v,a,b)=>lo.length - i) ((0,1,1,1)) (by refine ⟨?_,?_,?_,?_,?_,?_,?_,by simp⟩ <;> (first | (simp -dsimp only [gr,simprocAttr,zb5,iLL];first | done | rfl | (simp;done)) | assumption | rfl)) ?_
 intro (i,v,a,b) sa ⟨h5a,r11a,h6a,r15a,h7a,r18a,h8a,hIa⟩
 have hbl:(zb5 (lo.take i) hi).length = min i lo.length:=by rw [zcy,List.length_take]
 simp -dsimp only [↓gp,gq,simprocAttr,gT,h5a,r11a,h6a,r15a,h7a,r18a,h8a,zad]
 refine ⟨fun h=>?_,fun h=>?_⟩
 ·have hge:(ofN lo).getD i 0 = ((lo.getD i 0:Nat):Int):=zaG h
  refine zah (fun (zb:Nat × Nat) s=>match zb with | (j,u)=>s.sl 5 = .own 11 v∧s.rw 11 = ⟨v,.sli 22 1 false (iLL (zb5 (lo.take i) hi))⟩∧s.sl 6 = .own 15 a∧s.rw 15 = ⟨a,.sli 3 1 false (iL (ofN lo))⟩∧s.sl 7 = .own 18 b∧s.rw 18 = ⟨b,.sli 3 1 false (iL (ofN hi))⟩∧s.sl 8 = int i∧s.sl 9 = .own 25 u∧s.rw 25 = ⟨u,.sli 3 1 false (iL ((hi.take j).map fun b=>zg0 (lo.getD i 0) b))⟩∧s.sl 10 = int j∧(j ≤ hi.length)) (fun (j,u)=>hi.length - j) ((0,(sa.rw 25).ver + 1)) (by refine ⟨?_,?_,?_,?_,?_,?_,?_,?_,?_,?_,by omega⟩ <;> (first | (simp -dsimp only [gr,simprocAttr,h5a,r11a,h6a,r15a,h7a,r18a,h8a];first | done | rfl | (simp;done)) | assumption | rfl)) ?_
  intro (j,u) sb ⟨h5b,r11b,h6b,r15b,h7b,r18b,h8b,h9b,r25b,h10b,hIb⟩
  simp -dsimp only [↓gp,gq,simprocAttr,gT,h5b,r11b,h6b,r15b,h7b,r18b,h8b,h9b,r25b,h10b,zad]
  refine ⟨fun h2=>?_,fun h2=>?_⟩
  ·have hge2:(ofN hi).getD j 0 = ((hi.getD j 0:Nat):Int):=zaG h2
   have ha:=hm1 i h
   have hb:=hm2 j h2
   simp -dsimp only [↓gp,gq,simprocAttr,gT,h5b,r11b,h6b,r15b,h7b,r18b,h8b,h9b,r25b,h10b,zad,hge,hge2]
   refine ⟨by kernel_rfl,h,h,h2,h2,zab (zmE _ _ ha.1 hb.1 (by omega)) ?_⟩
   simp -dsimp only [↓gp,gq,simprocAttr,gT,h5b,r11b,h6b,r15b,h7b,r18b,h8b,h9b,r25b,h10b,zad,hge,hge2]
   have e:(hi.take (j + 1)).map (fun b=>zg0 (lo.getD i 0) b) = (hi.take j).map (fun b=>zg0 (lo.getD i 0) b) ++ [zg0 (lo.getD i 0) (hi.getD j 0)]:=by rw [zau 0 h2];simp
   refine ⟨by rw [List.length_map,List.length_take];omega,by kernel_rfl,?_⟩
   exact zac ((j + 1,u + 1)) (by refine ⟨?_,?_,?_,?_,?_,?_,?_,?_,?_,?_,by dsimp only;omega⟩ <;> (first | (simp -dsimp only [gr,simprocAttr,h5b,r11b,h6b,r15b,h7b,r18b,h8b,h9b,r25b,h10b,zaa h2 (by omega),e];first | done | rfl | (simp;done)) | assumption | rfl)) (by first | omega | (simp only;omega) | (dsimp only;omega) | (show _ < _;simp;omega))
  ·have hj:j = hi.length:=by omega
   subst hj
   rw [List.take_length] at r25b
   refine zKT ?_
   simp -dsimp only [↓gp,gq,simprocAttr,gT,h5b,r11b,h6b,r15b,h7b,r18b,h8b,h9b,r25b,h10b,hbl,zia]
   have e:=zoe (h:=hi) h
   refine ⟨by omega,?_⟩
   exact zac ((i + 1,v + 1,a,b)) (by refine ⟨?_,?_,?_,?_,?_,?_,?_,by dsimp only;omega⟩ <;> (first | (simp -dsimp only [gr,simprocAttr,h5a,r11a,h6a,r15a,h7a,r18a,h8a,h5b,r11b,h6b,r15b,h7b,r18b,h8b,h9b,r25b,h10b,zaa h (by omega),zow,e];first | done | rfl | (simp;done)) | assumption | rfl)) (by first | omega | (simp only;omega) | (dsimp only;omega) | (show _ < _;simp;omega))
 ·have:i = lo.length:=by omega
  rw [this,List.take_length]
theorem zJZ {f:Nat→Bool} {p:Int} {k:Nat} (h:k + 1 < za8 f):rkF f p (k + 1) = zpl p (zb5 (zaQ f k 64) (zaQ f (k + 1) 64)):=by
 unfold rkF
 rw [if_neg (by omega)];rfl
theorem zBw {f:Nat→Bool} {p:Int} {k:Nat} (h:za8 f ≤ k):rkF f p k = 0:=by
 unfold rkF
 rw [if_pos (.inr h)]
def zJ0 (f:Nat→Bool) (p:Int):List Int:=if isP p = true then zdj f p else []
theorem zfM (n:Int) (xs:List Int) (p:Int):AC Tryz.prog 31 [.ag [int n,zax xs],int p] (.fr 3 1 (iL (zJ0 (zbh n xs) p))):=by
 refine AC.go (rs:=[.tmp 4]) zaD mixed Tryz.func31 rfl rfl rfl (by kernel_rfl) fun hl=>?_
 simp -dsimp only [↓gp,gq,simprocAttr,gT]
 refine zab (zcW n xs) ?_
 simp -dsimp only [↓gp,gq,simprocAttr,gT]
 refine zab (zcs p) ?_
 simp -dsimp only [↓gp,gq,simprocAttr,gT]
 unfold zJ0
 refine ⟨fun hp=>?_,fun hp=>?_⟩
 ·have hp:isP p = false:=by simpa using hp
  rw [hp];rfl
 ·have hp:isP p = true:=by simpa using hp
  rw [if_pos hp]
  have hd7:=zbj (zbh n xs)
  have hfl:=zbQ (zbh n xs)
  generalize hf:zbh n xs = f at *
  refine zah (fun (za:Nat × Nat × Nat) s=>match za with | (k,v,w)=>s.sl 1 = int p∧s.sl 2 = .ref 2 1 0∧s.rw 2 = ⟨1,.box 27 [int n,zax xs]⟩∧s.sl 5 = .own 10 v∧s.rw 10 = ⟨v,.sli 3 1 false (iL ((zdj f p).take k))⟩∧s.sl 6 = .own 12 w∧s.rw 12 = ⟨w,.sli 3 1 false (iL (zfj f))⟩∧s.sl 7 = int (rkF f p k)∧s.sl 8 = int k∧(k ≤ za8 f)) (fun (k,v,w)=>za8 f - k) ((0,1,1)) (by refine ⟨?_,?_,?_,?_,?_,?_,?_,?_,?_,by simp⟩ <;> (first | (simp -dsimp only [gr,simprocAttr,rkF];first | done | rfl | (simp;done)) | assumption | rfl)) ?_
  intro (k,v,w) sa ⟨h1a,h2a,r2a,h5a,r10a,h6a,r12a,h7a,h8a,hIa⟩
  simp -dsimp only [↓gp,gq,simprocAttr,gT,h1a,h2a,r2a,h5a,r10a,h6a,r12a,h7a,h8a,hfl]
  refine ⟨fun h=>?_,fun h=>?_⟩
  ·have hr1:=zoi f p k
   have hr2:=zoi f p (k + 1)
   have hol:=zbA f k (Nat.le_refl 64)
   have hg:=zeq f h
   have hwk:=zaa h (by omega)
   have hw1:IntKind.i64.wrap (((zaQ f k 64).length:Int) - (rkF f p k:Int)) = ((zaQ f k 64).length:Int) - (rkF f p k:Int):=zai (by omega) (by omega)
   have hw2:IntKind.i64.wrap (((zaQ f k 64).length:Int) - (rkF f p k:Int) - (rkF f p (k + 1):Int)) = ((zaQ f k 64).length:Int) - (rkF f p k:Int) - (rkF f p (k + 1):Int):=zai (by omega) (by omega)
   have hts:(zdj f p).take (k + 1) = (zdj f p).take k ++ [((zaQ f k 64).length:Int) - rkF f p k - rkF f p (k + 1)]:=by rw [zau 0 (by rw [zaY];exact h),zhS f p h]
   have htl:((zdj f p).take k).length ≤ 7:=by rw [List.length_take,zaY];omega
   simp -dsimp only [↓gp,gq,simprocAttr,gT,h1a,h2a,r2a,h5a,r10a,h6a,r12a,h7a,h8a,hfl,hwk]
   refine ⟨fun h2=>zab (hf ▸ zjw n xs (k + 1) (by omega) (by omega)) ?_,fun h2=>?_⟩
   ·have hin:=zJZ (p:=p) h2
    rw [Nat.add_sub_cancel]
    have hb1:=zcy (zaQ f k 64) (zaQ f (k + 1) 64)
    have hb2:=zog (zaQ f k 64) (zaQ f (k + 1) 64)
    have hb3:=zoh (zaQ f k 64) (zaQ f (k + 1) 64)
    have hol2:=zbA f (k + 1) (Nat.le_refl 64)
    simp -dsimp only [↓gp,gq,simprocAttr,gT,h1a,h2a,r2a,h5a,r10a,h6a,r12a,h7a,h8a,hfl,hwk]
    refine zab (zmF _ p hp (by omega) hb2 (by omega)) ?_
    rw [← hin]
    simp -dsimp only [↓gp,gq,simprocAttr,gT,h1a,h2a,r2a,h5a,r10a,h6a,r12a,h7a,h8a,hfl,hwk,hg,hw1,hw2]
    refine ⟨h,h,by omega,?_⟩
    exact zac ((k + 1,v + 1,w)) (by refine ⟨?_,?_,?_,?_,?_,?_,?_,?_,?_,by dsimp only;omega⟩ <;> (first | (simp -dsimp only [gr,simprocAttr,h1a,h2a,r2a,h5a,r10a,h6a,r12a,h7a,h8a,hwk,hw1,hw2,hts];first | done | rfl | (simp;done)) | assumption | rfl)) (by first | omega | (simp only;omega) | (dsimp only;omega) | (show _ < _;simp;omega))
   ·have hz:=zBw (p:=p) (show za8 f ≤ k + 1 by omega)
    rw [hz,Int.natCast_zero,Int.sub_zero] at hw2
    rw [hz,Int.natCast_zero,Int.sub_zero] at hts
    simp -dsimp only [↓gp,gq,simprocAttr,gT,h1a,h2a,r2a,h5a,r10a,h6a,r12a,h7a,h8a,hfl,hwk,hg,hw1]
    refine ⟨h,h,by omega,?_⟩
    have hw3:IntKind.i64.wrap (((zaQ f k 64).length:Int) - (rkF f p k:Int) - 0) = ((zaQ f k 64).length:Int) - (rkF f p k:Int):=by rw [Int.sub_zero];exact hw2
    exact zac ((k + 1,v + 1,w)) (by refine ⟨?_,?_,?_,?_,?_,?_,?_,?_,?_,by dsimp only;omega⟩ <;> (first | (simp -dsimp only [gr,simprocAttr,h1a,h2a,r2a,h5a,r10a,h6a,r12a,h7a,h8a,hwk,hw1,hw3,hts,hz,Int.natCast_zero];first | done | rfl | (simp;done)) | assumption | rfl)) (by first | omega | (simp only;omega) | (dsimp only;omega) | (show _ < _;simp;omega))
  ·have:k = (zdj f p).length:=by rw [zaY];omega
   rw [this,List.take_length]
theorem zes (w:Nat→Bool) {G:Nat} (hF:G < 2 ^ 64) (h:∀ s,s < 64→G.testBit s = w s):G = zaB w 64:=by
 refine Nat.eq_of_testBit_eq fun s=>?_
 rw [zel]
 by_cases hs:s < 64
 ·rw [h s hs];simp [hs]
 ·have:G.testBit s = false:=Nat.testBit_lt_two_pow (Nat.lt_of_lt_of_le hF (Nat.pow_le_pow_right (by omega) (by omega)))
  simp [this,hs]
theorem za6 (w:Nat→Bool) {s:Nat} (h:s < 64):(zaB w 64).testBit s = w s:=by rw [zel];simp [h]
theorem zcz {w w':Nat→Bool} (h:∀ s,s < 64→w s = w' s):zaB w 64 = zaB w' 64 :=
 zes w' (zbk w 64) fun s hs=>by rw [za6 w hs,h s hs]
theorem zGN (w w':Nat→Bool):zaB w 64 ||| zaB w' 64 = zaB (fun s=>w s || w' s) 64 :=
 zes _ (Nat.or_lt_two_pow (zbk w 64) (zbk w' 64)) fun s hs=>by rw [Nat.testBit_or,za6 w hs,za6 w' hs]
theorem zok (w:Nat→Bool) {t:Nat} (ht:t < 64):zaB w 64 ||| 2 ^ t = zaB (fun s=>w s || s == t) 64 :=
 zes _ (Nat.or_lt_two_pow (zbk w 64) (Nat.pow_lt_pow_right (by omega) ht)) fun s hs=>by
  rw [Nat.testBit_or,za6 w hs,Nat.testBit_two_pow]
  congr 1
  by_cases e:t = s
  ·simp [e]
  ·simp [e];exact fun h=>e h.symm
theorem zlY:zaB (fun _=>false) 64 = 0:=(zes (G:=0) (fun _=>false) (by omega) (fun s _=>by simp)).symm
def zso (u:Nat) (t:Nat):Bool:=u &&& t == t
theorem zgP (u:Nat) (hu:u < 64):AC Tryz.prog 149 [int u] (.im (u64 (zaB (zso u) 64:Nat))):=by
 refine AC.go (rs:=[.tmp 2]) zaD mixed Tryz.func149 rfl rfl rfl (by kernel_rfl) fun hl=>?_
 simp -dsimp only [↓gp,gq,simprocAttr,gT]
 have hinit:zaB (fun v=>zso u v && decide (u < v)) 64 = 0:=by
  rw [← zlY]
  refine zcz fun v hv=>?_
  cases h:(zso u v && decide (u < v)) with
  | false=>rfl
  | true =>
    simp [zso] at h
    have:u &&& v ≤ u:=Nat.and_le_left
    omega
 refine zah (fun (t:Nat) s=>s.sl 0 = int u∧s.sl 3 = u64 (zaB (fun v=>zso u v && decide (t < v)) 64:Nat)∧s.sl 4 = int t∧(t ≤ u∧u &&& t = t)) (fun t=>t) (u) (by refine ⟨?_,?_,?_,⟨Nat.le_refl _,Nat.and_self u⟩⟩ <;> (first | (simp -dsimp only [gr,simprocAttr,hinit];first | done | rfl | (simp;done)) | assumption | rfl)) ?_
 intro t sa ⟨h0a,h3a,h4a,hIa⟩
 obtain ⟨htu,hts⟩:=hIa
 have hlt:=zbk (fun v=>zso u v && decide (t < v)) 64
 have hcv:IntKind.u64.wrap (t:Int) = (t:Int):=zaV (by omega)
 have h2t:(2:Nat) ^ t < 18446744073709551616:=by
  have:(2:Nat) ^ t < 2 ^ 64:=Nat.pow_lt_pow_right (by omega) (by omega)
  omega
 have hor:ior .u64 (zaB (fun v=>zso u v && decide (t < v)) 64:Nat) (zip .u64 1 (t:Int)) = ((zaB (fun v=>zso u v && decide (t ≤ v)) 64:Nat):Int):=by
  rw [zwl (by omega),zDg (by omega) h2t,zok _ (by omega)]
  congr 1
  refine zcz fun v hv=>?_
  by_cases e:v = t
  ·subst e;simp [zso,hts]
  ·have e1:decide (t < v) = decide (t ≤ v):=decide_eq_decide.2 (by omega)
   simp [e,e1]
 simp -dsimp only [↓gp,gq,simprocAttr,gT,h0a,h3a,h4a,hcv,hor]
 refine ⟨fun h0=>?_,fun h0=>?_⟩
 ·have:t = 0:=by simp at h0;omega
  subst this
  simp
 ·have h0:¬ t = 0:=by
   intro e;subst e;simp at h0
  have hw:IntKind.i64.wrap ((t:Int) - 1) = ((t - 1:Nat):Int):=by rw [zai (by omega) (by omega)];omega
  have hand:=zbc (a:=t - 1) (b:=u) (by omega) (by omega)
  have hle:(t - 1) &&& u ≤ t - 1:=Nat.and_le_left
  have hnext:zaB (fun v=>zso u v && decide ((t - 1) &&& u < v)) 64 = zaB (fun v=>zso u v && decide (t ≤ v)) 64:=by
   refine zcz fun v hv=>?_
   cases hs:zso u v with
   | false=>rfl
   | true =>
     simp only [Bool.true_and]
     refine decide_eq_decide.2 ⟨fun h=>?_,fun h=>by omega⟩
     rcases Nat.lt_or_ge v t with h2 | h2
     ·have:=zDI u hu t (by omega) (by rw [Nat.and_comm];exact hts) h0 v h2 (by rw [Nat.and_comm];simpa [zso] using hs)
      omega
     ·exact h2
  simp -dsimp only [↓gp,gq,simprocAttr,gT,h0a,h3a,h4a,hcv,hor,hw,hand]
  exact zac ((t - 1) &&& u) (by refine ⟨?_,?_,?_,⟨by omega,by rw [Nat.and_comm,Nat.and_assoc,Nat.and_self]⟩⟩ <;> (first | (simp -dsimp only [gr,simprocAttr,h0a,h3a,h4a,hcv,hor,hw,hand,hnext];first | done | rfl | (simp;done)) | assumption | rfl)) (by first | omega | (simp only;omega) | (dsimp only;omega) | (show _ < _;simp;omega))
theorem zxM {xs:List Int} {k t:Nat} (h:k < xs.length):zag (xs.take (k + 1)) t = (zag (xs.take k) t || zso (xs.getD k 0).toNat t):=by
 rw [zau 0 h]
 unfold zag zso
 rw [List.any_append]
 simp
theorem zaW (n:Int) (xs:List Int) (hx:okS xs):AC Tryz.prog 94 [.ag [int n,zax xs]] (.im (u64 (zaB (zag xs) 64:Nat))):=by
 refine AC.go (rs:=[.tmp 2]) zaD mixed Tryz.func94 rfl rfl rfl (by kernel_rfl) fun hl=>?_
 simp only [zaN,za4,and_true,zbZ,zdx,zcE,zcD,true_and] at hl
 simp -dsimp only [↓gp,gq,simprocAttr,gT]
 have hinit:zaB (zag (xs.take 0)) 64 = 0:=zlY
 refine zah (fun (k:Nat) s=>s.sl 3 = u64 (zaB (zag (xs.take k)) 64:Nat)∧s.sl 7 = zax xs∧s.sl 8 = int xs.length∧s.sl 9 = int k∧(k ≤ xs.length)) (fun k=>xs.length - k) (0) (by refine ⟨?_,?_,?_,?_,by omega⟩ <;> (first | (simp -dsimp only [gr,simprocAttr,hinit];first | done | rfl | (simp;done)) | assumption | rfl)) ?_
 intro k sa ⟨h3a,h7a,h8a,h9a,hIa⟩
 simp -dsimp only [↓gp,gq,simprocAttr,gT,h3a,h7a,h8a,h9a]
 refine ⟨fun h=>⟨h,h,?_⟩,fun h=>?_⟩
 ·have h6:=zsh hx h
  have hn:xs.getD k 0 = ((xs.getD k 0).toNat:Int):=by omega
  have hc:=zgP (xs.getD k 0).toNat (by omega)
  rw [← hn] at hc
  refine zab hc ?_
  have hm1:=zbk (zag (xs.take k)) 64
  have hm2:=zbk (zso (xs.getD k 0).toNat) 64
  have hor:ior .u64 (zaB (zag (xs.take k)) 64:Nat) (zaB (zso (xs.getD k 0).toNat) 64:Nat) = ((zaB (zag (xs.take (k + 1))) 64:Nat):Int):=by
   rw [zDg (by omega) (by omega),zGN]
   congr 1
   exact zcz fun t _=>(zxM h).symm
  simp -dsimp only [↓gp,gq,simprocAttr,gT,h3a,h7a,h8a,h9a,hor]
  exact zac (k + 1) (by refine ⟨?_,?_,?_,?_,by omega⟩ <;> (first | (simp -dsimp only [gr,simprocAttr,h3a,h7a,h8a,h9a,zaa h hl,hor];first | done | rfl | (simp;done)) | assumption | rfl)) (by first | omega | (simp only;omega) | (dsimp only;omega) | (show _ < _;simp;omega))
 ·have:k = xs.length:=by omega
  rw [this,List.take_length]
end Go.Proofs.YtkledeboboplmaaGreatDoor

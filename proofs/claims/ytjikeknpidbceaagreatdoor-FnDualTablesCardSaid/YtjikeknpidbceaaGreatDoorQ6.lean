/- DERIVED by an AI agent. -/
import Derived.Test.YtjikeknpidbceaaGreatDoorQ5
import Derived.Test.YtjikeknpidbceaaGreatDoorQ4
import Derived.Test.YtjikeknpidbceaaGreatDoorQ2
import Derived.Test.YtjikeknpidbceaaGreatDoorQ1
import Derived.Test.YtjikeknpidbceaaGreatDoorA13
import Derived.Test.YtjikeknpidbceaaGreatDoorP1
namespace Go.Proofs.YtjikeknpidbceaaGreatDoor
open Go.Abs
open Nat (reduceEqDiff reduceMod reduceAdd reduceLT reduceLeDiff reduceSub reduceMul)
set_option linter.unusedSimpArgs false
set_option linter.unusedVariables false
def kcx (P:Int→List Int→Prop) (rv:RV):Prop:=∃ n xs,rv = .ag [.im (int n),.fr 3 1 (iL xs)]∧P n xs
def cxQ (n:Int) (xs:List Int):Prop:=0 ≤ n∧n ≤ 7∧xs.length ≤ 449
theorem zsU {n:Nat} (hn:n ≤ 6) (f:Nat→Bool) (g:Bool):kcx cxQ (.ag [.im (int n),.fr 3 1 (iL (ofN (zfB f g)))]) :=
 ⟨_,_,rfl,by omega,by omega,by rw [zae];exact Nat.le_succ_of_le (zvr f g)⟩
theorem zFm {a b:Int} (ha:0 ≤ a∧a < 64) (hb:0 ≤ b∧b < 64):0 ≤ zdI .i64 a b∧zdI .i64 a b < 64:=zz8 ha hb
theorem zoQ {L:List Int} {x:Int} (h:okS L) (hx:0 ≤ x∧x < 64):okS (L ++ [x]):=fun y hy=>by
 rw [List.mem_append,List.mem_singleton] at hy
 exact hy.elim (h y) (fun e=>e ▸ hx)
theorem zDV {n:Nat} (hn:n ≤ 6) {x:Int} (h:zFC ((2 ^ n:Nat):Int) x):0 ≤ x∧x < 64:=by
 have h64:=zar hn
 have hp:0 < 2 ^ n:=Nat.pow_pos (by omega)
 obtain ⟨m,rfl,hm⟩:=zgs hp h
 omega
theorem zhz (bs:List Int) (hbs:bs.length ≤ 9223372036854775806) (n:Nat) (hn1:1 ≤ n) (hn:n ≤ 6):zw2 Tryz.prog 86 TC bs ⟨0,.dead⟩ [int n] (kcx cxQ):=by
 intro i h
 refine AG.go (rs:=[.cell 4 26]) za0 mixed Tryz.func86 rfl rfl rfl (by kernel_rfl) fun hl _ s hs hR=>?_
 have e0:s.rw 1000000 = ⟨1,.box TC [.sl false 1 (kL .u8 bs),int i,int h]⟩:=by rw [hR];rfl
 have e1:s.rw 1000500 = ⟨0,.dead⟩:=by rw [hR];rfl
 have elo:∀ k,k < 1000000→s.rw k = ⟨0,.dead⟩:=fun k hk=>by rw [hR];exact zlt hk
 simp (maxSteps:=9^7) -dsimp only [↓gp,gq,reduceCtorEq,reduceEqDiff,reduceLT,reduceLeDiff,reduceAdd,reduceMul,reduceSub,Nat.reduceBEq,Int.reduceToNat,Int.reduceLE,Int.reduceLT,Int.reduceNeg,reduceMod,gT,hs,e0,elo]
 refine zaG (zc3 bs hbs [0,1,2,3,4,4,5,6] (by decide) (by decide)) (.some (j:=11) (by simp (maxSteps:=9^7) -dsimp only [gr,reduceEqDiff,reduceLT,reduceAdd,reduceMod,Nat.reduceBEq,elo] <;> rfl) (zc8 _)) (by simp (maxSteps:=9^7) -dsimp only [gr,reduceEqDiff,reduceLT,reduceAdd,reduceMod,Nat.reduceBEq,e0] <;> rfl) (.one (zbS (by simp (maxSteps:=9^7) -dsimp only [gr,reduceEqDiff,reduceLT,reduceAdd,reduceMod,Nat.reduceBEq,e0] <;> rfl)) (.one (zlu (by simp (maxSteps:=9^7) -dsimp only [gr,reduceEqDiff,reduceLT,reduceAdd,reduceMod,Nat.reduceBEq,elo])) .nil)) rfl (fun j hj=>by cases hj;exact ⟨rfl,rfl⟩) fun rv i1 g1 ⟨cnt,hrv,hc⟩=>?_
 subst hrv
 simp (maxSteps:=9^7) -dsimp only [↓gp,gq,reduceCtorEq,reduceEqDiff,reduceLT,reduceLeDiff,reduceAdd,reduceMul,reduceSub,Nat.reduceBEq,Int.reduceToNat,Int.reduceLE,Int.reduceLT,Int.reduceNeg,reduceMod,gT,hs,e0,elo]
 have hcn:0 ≤ cnt∧cnt ≤ 6:=by
  have hc:cnt ∈ [0,1,2,3,4,4,5,6]:=hc
  simp at hc;omega
 have h64:=zar hn
 have hsh:zrU .i64 1 (n:Int) = ((2 ^ n:Nat):Int):=zbx (by omega)
 have hun:IntKind.u64.wrap (n:Int) = (n:Int):=zb3 (by omega)
 refine zan (fun (za:Nat × Nat × Nat × Int × List Int) s=>match za with | (k,v,j,g,L)=>s.sl 0 = .ref 1000000 1 0∧s.rw 1000000 = ⟨1,.box TC [.sl false 1 (kL .u8 bs),int j,int g]⟩∧s.rw 1000500 = ⟨0,.dead⟩∧s.sl 1 = int n∧s.sl 4 = .ref 4 1 0∧s.rw 4 = ⟨1,.box 26 [int 0,.v (.slice none 0 0)]⟩∧s.sl 5 = .own 9 v∧s.rw 9 = ⟨v,.sli 3 1 false (iL L)⟩∧s.sl 6 = int cnt∧s.sl 7 = int k∧(k ≤ 6∧L.length = k∧okS L)) (fun (k,v,j,g,L)=>6 - k) ((0,1,i1,g1,[])) (by refine ⟨?_,?_,?_,?_,?_,?_,?_,?_,?_,?_,⟨by decide,rfl,fun x hx=>absurd hx (by simp)⟩⟩ <;> (first | (simp (maxSteps:=9^7) -dsimp only [gr,reduceEqDiff,reduceLT,reduceAdd,reduceMod,Nat.reduceBEq,hs,e0,e1,elo];first | done | rfl | (simp;done)) | assumption | rfl)) ?_
 intro (k,v,j,g,L) sa ⟨h0a,r1000000a,r1000500a,h1a,h4a,r4a,h5a,r9a,h6a,h7a,hIa⟩
 obtain ⟨hk,hL,hok⟩:=hIa
 simp (maxSteps:=9^7) -dsimp only [↓gp,gq,reduceCtorEq,reduceEqDiff,reduceLT,reduceLeDiff,reduceAdd,reduceMul,reduceSub,Nat.reduceBEq,Int.reduceToNat,Int.reduceLE,Int.reduceLT,Int.reduceNeg,reduceMod,gT,h0a,r1000000a,r1000500a,h1a,h4a,r4a,h5a,r9a,h6a,h7a,hsh,hun]
 refine ⟨fun hlt=>?_,fun hlt=>?_⟩
 ·refine zaG (zaY bs hbs ((2 ^ n:Nat):Int) (by omega)) .none (by simp (maxSteps:=9^7) -dsimp only [gr,reduceEqDiff,reduceLT,reduceAdd,reduceMod,Nat.reduceBEq,h0a,r1000000a,r1000500a,h1a,h4a,r4a,h5a,r9a,h6a,h7a] <;> rfl) (GvL.one (zbS (by simp (maxSteps:=9^7) -dsimp only [gr,reduceEqDiff,reduceLT,reduceAdd,reduceMod,Nat.reduceBEq,h0a,r1000000a,r1000500a,h1a,h4a,r4a,h5a,r9a,h6a,h7a] <;> rfl)) (by repeat (first | exact GvL.nil | refine GvL.one (GvA.v _) ?_ | refine GvL.one (GvA.sl _ _ _) ?_))) rfl (fun _ h=>by cases h) fun rv i2 g2 ⟨x,hrv,hx⟩=>?_
  subst hrv
  have hx6:=zDV hn hx
  simp (maxSteps:=9^7) -dsimp only [↓gp,gq,reduceCtorEq,reduceEqDiff,reduceLT,reduceLeDiff,reduceAdd,reduceMul,reduceSub,Nat.reduceBEq,Int.reduceToNat,Int.reduceLE,Int.reduceLT,Int.reduceNeg,reduceMod,gT,h0a,r1000000a,r1000500a,h1a,h4a,r4a,h5a,r9a,h6a,h7a,hsh,hun]
  refine zaG (zez bs hbs 2 (by decide)) .none (by simp (maxSteps:=9^7) -dsimp only [gr,reduceEqDiff,reduceLT,reduceAdd,reduceMod,Nat.reduceBEq,h0a,r1000000a,r1000500a,h1a,h4a,r4a,h5a,r9a,h6a,h7a] <;> rfl) (GvL.one (zbS (by simp (maxSteps:=9^7) -dsimp only [gr,reduceEqDiff,reduceLT,reduceAdd,reduceMod,Nat.reduceBEq,h0a,r1000000a,r1000500a,h1a,h4a,r4a,h5a,r9a,h6a,h7a] <;> rfl)) (by repeat (first | exact GvL.nil | refine GvL.one (GvA.v _) ?_ | refine GvL.one (GvA.sl _ _ _) ?_))) rfl (fun _ h=>by cases h) fun rv i3 g3 ⟨b,hrv⟩=>?_
  subst hrv
  simp (maxSteps:=9^7) -dsimp only [↓gp,gq,reduceCtorEq,reduceEqDiff,reduceLT,reduceLeDiff,reduceAdd,reduceMul,reduceSub,Nat.reduceBEq,Int.reduceToNat,Int.reduceLE,Int.reduceLT,Int.reduceNeg,reduceMod,gT,h0a,r1000000a,r1000500a,h1a,h4a,r4a,h5a,r9a,h6a,h7a,hsh,hun]
  refine ⟨fun hb=>?_,fun hb=>?_⟩
  ·refine zaG (zaY bs hbs ((2 ^ n:Nat):Int) (by omega)) .none (by simp (maxSteps:=9^7) -dsimp only [gr,reduceEqDiff,reduceLT,reduceAdd,reduceMod,Nat.reduceBEq,h0a,r1000000a,r1000500a,h1a,h4a,r4a,h5a,r9a,h6a,h7a] <;> rfl) (GvL.one (zbS (by simp (maxSteps:=9^7) -dsimp only [gr,reduceEqDiff,reduceLT,reduceAdd,reduceMod,Nat.reduceBEq,h0a,r1000000a,r1000500a,h1a,h4a,r4a,h5a,r9a,h6a,h7a] <;> rfl)) (by repeat (first | exact GvL.nil | refine GvL.one (GvA.v _) ?_ | refine GvL.one (GvA.sl _ _ _) ?_))) rfl (fun _ h=>by cases h) fun rv i4 g4 ⟨y,hrv,hy⟩=>?_
   subst hrv
   have hy6:=zDV hn hy
   simp (maxSteps:=9^7) -dsimp only [↓gp,gq,reduceCtorEq,reduceEqDiff,reduceLT,reduceLeDiff,reduceAdd,reduceMul,reduceSub,Nat.reduceBEq,Int.reduceToNat,Int.reduceLE,Int.reduceLT,Int.reduceNeg,reduceMod,gT,h0a,r1000000a,r1000500a,h1a,h4a,r4a,h5a,r9a,h6a,h7a,hsh,hun]
   refine ⟨by omega,?_⟩
   exact zac ((k + 1,v + 1,i4,g4,L ++ [zdI .i64 x y])) (by refine ⟨?_,?_,?_,?_,?_,?_,?_,?_,?_,?_,⟨by dsimp only;omega,by simp [hL],zoQ hok (zFm hx6 hy6)⟩⟩ <;> (first | (simp (maxSteps:=9^7) -dsimp only [gr,reduceEqDiff,reduceLT,reduceAdd,reduceMod,Nat.reduceBEq,h0a,r1000000a,r1000500a,h1a,h4a,r4a,h5a,r9a,h6a,h7a,zaa (show k < 6 by omega) (by omega)];first | done | rfl | (simp;done)) | assumption | rfl)) (by first | omega | (simp only;omega) | (dsimp only;omega) | (show _ < _;simp;omega))
  ·refine ⟨by omega,?_⟩
   exact zac ((k + 1,v + 1,i3,g3,L ++ [x])) (by refine ⟨?_,?_,?_,?_,?_,?_,?_,?_,?_,?_,⟨by dsimp only;omega,by simp [hL],zoQ hok hx6⟩⟩ <;> (first | (simp (maxSteps:=9^7) -dsimp only [gr,reduceEqDiff,reduceLT,reduceAdd,reduceMod,Nat.reduceBEq,h0a,r1000000a,r1000500a,h1a,h4a,r4a,h5a,r9a,h6a,h7a,zaa (show k < 6 by omega) (by omega)];first | done | rfl | (simp;done)) | assumption | rfl)) (by first | omega | (simp only;omega) | (dsimp only;omega) | (show _ < _;simp;omega))
 ·refine zab (zb6 n L hok) ?_
  simp (maxSteps:=9^7) -dsimp only [↓gp,gq,reduceCtorEq,reduceEqDiff,reduceLT,reduceLeDiff,reduceAdd,reduceMul,reduceSub,Nat.reduceBEq,Int.reduceToNat,Int.reduceLE,Int.reduceLT,Int.reduceNeg,reduceMod,gT,h0a,r1000000a,r1000500a,h1a,h4a,r4a,h5a,r9a,h6a,h7a]
  exact ⟨_,j,g,_,zsU hn _ _,.one (.ag (.cons (.im _) (.cons (.fr (by simp (maxSteps:=9^7) -dsimp only [gr,reduceEqDiff,reduceLT,reduceAdd,reduceMod,Nat.reduceBEq,h0a,r1000000a,r1000500a,h1a,h4a,r4a,h5a,r9a,h6a,h7a] <;> rfl) (by decide)) .nil))),by simp,by simp (maxSteps:=9^7) -dsimp only [gr,reduceEqDiff,reduceLT,reduceAdd,reduceMod,Nat.reduceBEq,h0a,r1000000a,r1000500a,h1a,h4a,r4a,h5a,r9a,h6a,h7a] <;> rfl,by simp (maxSteps:=9^7) -dsimp only [gr,reduceEqDiff,reduceLT,reduceAdd,reduceMod,Nat.reduceBEq,h0a,r1000000a,r1000500a,h1a,h4a,r4a,h5a,r9a,h6a,h7a]⟩
def szQ (z m:Nat):List Nat:=(List.range m).filter fun s=>zak s == z
theorem zCy (z m:Nat):szQ z (m + 1) = if zak m = z then szQ z m ++ [m] else szQ z m:=by
 unfold szQ
 rw [List.range_succ,List.filter_append]
 by_cases h:zak m = z <;> simp [h]
theorem zFk (z m:Nat):(szQ z m).length ≤ m:=by
 unfold szQ
 exact Nat.le_trans (List.length_filter_le _ _) (by simp)
theorem zFl:∀ n,n < 7→∀ z,z < n + 1→0 < (szQ z (2 ^ n)).length:=by decide +kernel
theorem zG8 (z m:Nat) (hm:m ≤ 64):okS (ofN (szQ z m)):=fun x hx=>by
 obtain ⟨s,hs,rfl⟩:=List.mem_map.1 hx
 have:=List.mem_range.1 (List.mem_filter.1 hs).1
 omega
theorem zoP (bs:List Int) (hbs:bs.length ≤ 9223372036854775806) (n:Nat) (hn1:1 ≤ n) (hn:n ≤ 6):zw2 Tryz.prog 106 TC bs ⟨0,.dead⟩ [int n] (kcx cxQ):=by
 intro i h
 refine AG.go (rs:=[.cell 4 26]) za0 mixed Tryz.func106 rfl rfl rfl (by kernel_rfl) fun hl _ s hs hR=>?_
 have e0:s.rw 1000000 = ⟨1,.box TC [.sl false 1 (kL .u8 bs),int i,int h]⟩:=by rw [hR];rfl
 have e1:s.rw 1000500 = ⟨0,.dead⟩:=by rw [hR];rfl
 have elo:∀ k,k < 1000000→s.rw k = ⟨0,.dead⟩:=fun k hk=>by rw [hR];exact zlt hk
 have h64:=zar hn
 have hsh:zrU .i64 1 (n:Int) = ((2 ^ n:Nat):Int):=zbx (by omega)
 have hun:IntKind.u64.wrap (n:Int) = (n:Int):=zb3 (by omega)
 simp (maxSteps:=9^7) -dsimp only [↓gp,gq,reduceCtorEq,reduceEqDiff,reduceLT,reduceLeDiff,reduceAdd,reduceMul,reduceSub,Nat.reduceBEq,Int.reduceToNat,Int.reduceLE,Int.reduceLT,Int.reduceNeg,reduceMod,gT,hs,e0,elo]
 refine zaG (zaY bs hbs n (by omega)) .none (by simp (maxSteps:=9^7) -dsimp only [gr,reduceEqDiff,reduceLT,reduceAdd,reduceMod,Nat.reduceBEq,e0,elo] <;> rfl) (GvL.one (zbS (by simp (maxSteps:=9^7) -dsimp only [gr,reduceEqDiff,reduceLT,reduceAdd,reduceMod,Nat.reduceBEq,e0,elo] <;> rfl)) (by repeat (first | exact GvL.nil | refine GvL.one (GvA.v _) ?_ | refine GvL.one (GvA.sl _ _ _) ?_))) rfl (fun _ h=>by cases h) fun rv i1 g1 ⟨x,hrv,hx⟩=>?_
 subst hrv
 obtain ⟨z0,rfl,hz0⟩:=zgs hn1 hx
 have hw1:IntKind.i64.wrap (1 + (z0:Int)) = ((z0 + 1:Nat):Int):=by rw [zam (by omega) (by omega)];omega
 generalize hz:z0 + 1 = z at *
 simp (maxSteps:=9^7) -dsimp only [↓gp,gq,reduceCtorEq,reduceEqDiff,reduceLT,reduceLeDiff,reduceAdd,reduceMul,reduceSub,Nat.reduceBEq,Int.reduceToNat,Int.reduceLE,Int.reduceLT,Int.reduceNeg,reduceMod,gT,hs,e0,elo,hw1]
 refine zan (fun (za:Nat × Nat) s=>match za with | (m,v)=>s.sl 0 = .ref 1000000 1 0∧s.rw 1000000 = ⟨1,.box TC [.sl false 1 (kL .u8 bs),int i1,int g1]⟩∧s.rw 1000500 = ⟨0,.dead⟩∧s.sl 1 = int n∧s.sl 4 = .ref 4 1 0∧s.rw 4 = ⟨1,.box 26 [int 0,.v (.slice none 0 0)]⟩∧s.sl 5 = int z∧s.sl 6 = .own 15 v∧s.rw 15 = ⟨v,.sli 3 1 false (iL (ofN (szQ z m)))⟩∧s.rw 31 = ⟨0,.dead⟩∧s.sl 7 = int m∧(m ≤ 2 ^ n)) (fun (m,v)=>2 ^ n - m) ((0,1)) (by refine ⟨?_,?_,?_,?_,?_,?_,?_,?_,?_,?_,?_,Nat.zero_le _⟩ <;> (first | (simp (maxSteps:=9^7) -dsimp only [gr,reduceEqDiff,reduceLT,reduceAdd,reduceMod,Nat.reduceBEq,hs,e0,e1,elo];first | done | rfl | (simp;done)) | assumption | rfl)) ?_
 intro (m,v) sa ⟨h0a,r1000000a,r1000500a,h1a,h4a,r4a,h5a,h6a,r15a,r31a,h7a,hIa⟩
 simp (maxSteps:=9^7) -dsimp only [↓gp,gq,reduceCtorEq,reduceEqDiff,reduceLT,reduceLeDiff,reduceAdd,reduceMul,reduceSub,Nat.reduceBEq,Int.reduceToNat,Int.reduceLE,Int.reduceLT,Int.reduceNeg,reduceMod,gT,h0a,r1000000a,r1000500a,h1a,h4a,r4a,h5a,h6a,r15a,r31a,h7a,hsh,hun]
 have hzl:=zFk z m
 refine ⟨fun hlt=>zab (zaE m (by omega)) ?_,fun hlt=>?_⟩
 ·simp (maxSteps:=9^7) -dsimp only [↓gp,gq,reduceCtorEq,reduceEqDiff,reduceLT,reduceLeDiff,reduceAdd,reduceMul,reduceSub,Nat.reduceBEq,Int.reduceToNat,Int.reduceLE,Int.reduceLT,Int.reduceNeg,reduceMod,gT,h0a,r1000000a,r1000500a,h1a,h4a,r4a,h5a,h6a,r15a,r31a,h7a,hsh,hun]
  have hsu:=zCy z m
  refine ⟨fun he=>?_,fun he=>?_⟩
  ·have he:zak m = z:=by
    have:((zak m:Nat):Int) = z:=by simpa using he
    omega
   rw [if_pos he] at hsu
   simp (maxSteps:=9^7) -dsimp only [↓gp,gq,reduceCtorEq,reduceEqDiff,reduceLT,reduceLeDiff,reduceAdd,reduceMul,reduceSub,Nat.reduceBEq,Int.reduceToNat,Int.reduceLE,Int.reduceLT,Int.reduceNeg,reduceMod,gT,h0a,r1000000a,r1000500a,h1a,h4a,r4a,h5a,h6a,r15a,r31a,h7a,hsh,hun,zae]
   refine ⟨by omega,?_⟩
   exact zac ((m + 1,v + 1)) (by refine ⟨?_,?_,?_,?_,?_,?_,?_,?_,?_,?_,?_,by dsimp only;omega⟩ <;> (first | (simp (maxSteps:=9^7) -dsimp only [gr,reduceEqDiff,reduceLT,reduceAdd,reduceMod,Nat.reduceBEq,h0a,r1000000a,r1000500a,h1a,h4a,r4a,h5a,h6a,r15a,r31a,h7a,hsu,za1,zdx,zaa hlt (by omega)];first | done | rfl | (simp;done)) | assumption | rfl)) (by first | omega | (simp only;omega) | (dsimp only;omega) | (show _ < _;simp;omega))
  ·have he:¬ zak m = z:=fun e=>by rw [e] at he;simp at he
   rw [if_neg he] at hsu
   exact zac ((m + 1,v)) (by refine ⟨?_,?_,?_,?_,?_,?_,?_,?_,?_,?_,?_,by dsimp only;omega⟩ <;> (first | (simp (maxSteps:=9^7) -dsimp only [gr,reduceEqDiff,reduceLT,reduceAdd,reduceMod,Nat.reduceBEq,h0a,r1000000a,r1000500a,h1a,h4a,r4a,h5a,h6a,r15a,r31a,h7a,hsu,zaa hlt (by omega)];first | done | rfl | (simp;done)) | assumption | rfl)) (by first | omega | (simp only;omega) | (dsimp only;omega) | (show _ < _;simp;omega))
 ·have hm:m = 2 ^ n:=by omega
  subst hm
  have hpos:=zFl n (by omega) z (by omega)
  have hAok:=zG8 z (2 ^ n) h64
  generalize hA:szQ z (2 ^ n) = A at *
  have hAl:(ofN A).length = A.length:=zae A
  refine zaG (zaY bs hbs 7 (by decide)) .none (by simp (maxSteps:=9^7) -dsimp only [gr,reduceEqDiff,reduceLT,reduceAdd,reduceMod,Nat.reduceBEq,h0a,r1000000a,r1000500a,h1a,h4a,r4a,h5a,h6a,r15a,r31a,h7a] <;> rfl) (GvL.one (zbS (by simp (maxSteps:=9^7) -dsimp only [gr,reduceEqDiff,reduceLT,reduceAdd,reduceMod,Nat.reduceBEq,h0a,r1000000a,r1000500a,h1a,h4a,r4a,h5a,h6a,r15a,r31a,h7a] <;> rfl)) (by repeat (first | exact GvL.nil | refine GvL.one (GvA.v _) ?_ | refine GvL.one (GvA.sl _ _ _) ?_))) rfl (fun _ h=>by cases h) fun rv i2 g2 ⟨x,hrv,hx⟩=>?_
  subst hrv
  have hx7:0 ≤ x∧x < 7:=by obtain ⟨a,b⟩:=hx;omega
  have hw2:IntKind.i64.wrap (1 + x) = 1 + x:=zam (by omega) (by omega)
  simp (maxSteps:=9^7) -dsimp only [↓gp,gq,reduceCtorEq,reduceEqDiff,reduceLT,reduceLeDiff,reduceAdd,reduceMul,reduceSub,Nat.reduceBEq,Int.reduceToNat,Int.reduceLE,Int.reduceLT,Int.reduceNeg,reduceMod,gT,h0a,r1000000a,r1000500a,h1a,h4a,r4a,h5a,h6a,r15a,r31a,h7a,hw2]
  refine zan (fun (zb:Nat × Nat × Nat × Int × List Int) s=>match zb with | (k,u,j,g,L)=>s.sl 0 = .ref 1000000 1 0∧s.rw 1000000 = ⟨1,.box TC [.sl false 1 (kL .u8 bs),int j,int g]⟩∧s.rw 1000500 = ⟨0,.dead⟩∧s.sl 1 = int n∧s.sl 4 = .ref 4 1 0∧s.rw 4 = ⟨1,.box 26 [int 0,.v (.slice none 0 0)]⟩∧s.sl 6 = .own 15 v∧s.rw 15 = ⟨v,.sli 3 1 false (iL (ofN A))⟩∧s.sl 8 = .own 31 u∧s.rw 31 = ⟨u,.sli 3 1 false (iL L)⟩∧s.sl 9 = int (1 + x)∧s.sl 10 = int k∧(k ≤ 7∧L.length = k∧okS L)) (fun (k,u,j,g,L)=>7 - k) ((0,1,i2,g2,[])) (by refine ⟨?_,?_,?_,?_,?_,?_,?_,?_,?_,?_,?_,?_,⟨by decide,rfl,fun x hx=>absurd hx (by simp)⟩⟩ <;> (first | (simp (maxSteps:=9^7) -dsimp only [gr,reduceEqDiff,reduceLT,reduceAdd,reduceMod,Nat.reduceBEq,h0a,r1000000a,r1000500a,h1a,h4a,r4a,h5a,h6a,r15a,r31a,h7a];first | done | rfl | (simp;done)) | assumption | rfl)) ?_
  intro (k,u,j,g,L) sb ⟨h0b,r1000000b,r1000500b,h1b,h4b,r4b,h6b,r15b,h8b,r31b,h9b,h10b,hIb⟩
  obtain ⟨hk,hL,hok⟩:=hIb
  simp (maxSteps:=9^7) -dsimp only [↓gp,gq,reduceCtorEq,reduceEqDiff,reduceLT,reduceLeDiff,reduceAdd,reduceMul,reduceSub,Nat.reduceBEq,Int.reduceToNat,Int.reduceLE,Int.reduceLT,Int.reduceNeg,reduceMod,gT,h0b,r1000000b,r1000500b,h1b,h4b,r4b,h6b,r15b,h8b,r31b,h9b,h10b,hAl]
  refine ⟨fun hlt2=>?_,fun hlt2=>?_⟩
  ·refine zaG (zaY bs hbs (A.length:Int) (by omega)) .none (by simp (maxSteps:=9^7) -dsimp only [gr,reduceEqDiff,reduceLT,reduceAdd,reduceMod,Nat.reduceBEq,h0b,r1000000b,r1000500b,h1b,h4b,r4b,h6b,r15b,h8b,r31b,h9b,h10b] <;> rfl) (GvL.one (zbS (by simp (maxSteps:=9^7) -dsimp only [gr,reduceEqDiff,reduceLT,reduceAdd,reduceMod,Nat.reduceBEq,h0b,r1000000b,r1000500b,h1b,h4b,r4b,h6b,r15b,h8b,r31b,h9b,h10b] <;> rfl)) (by repeat (first | exact GvL.nil | refine GvL.one (GvA.v _) ?_ | refine GvL.one (GvA.sl _ _ _) ?_))) rfl (fun _ h=>by cases h) fun rv i3 g3 ⟨y,hrv,hy⟩=>?_
   subst hrv
   obtain ⟨t,rfl,ht⟩:=zgs hpos hy
   have hgt:=hAok _ (zax 0 (show t < (ofN A).length by omega))
   simp (maxSteps:=9^7) -dsimp only [↓gp,gq,reduceCtorEq,reduceEqDiff,reduceLT,reduceLeDiff,reduceAdd,reduceMul,reduceSub,Nat.reduceBEq,Int.reduceToNat,Int.reduceLE,Int.reduceLT,Int.reduceNeg,reduceMod,gT,h0b,r1000000b,r1000500b,h1b,h4b,r4b,h6b,r15b,h8b,r31b,h9b,h10b,hAl]
   refine ⟨by omega,by omega,by omega,?_⟩
   exact zac ((k + 1,u + 1,i3,g3,L ++ [(ofN A).getD t 0])) (by refine ⟨?_,?_,?_,?_,?_,?_,?_,?_,?_,?_,?_,?_,⟨by dsimp only;omega,by simp [hL],zoQ hok hgt⟩⟩ <;> (first | (simp (maxSteps:=9^7) -dsimp only [gr,reduceEqDiff,reduceLT,reduceAdd,reduceMod,Nat.reduceBEq,h0b,r1000000b,r1000500b,h1b,h4b,r4b,h6b,r15b,h8b,r31b,h9b,h10b,zaa (show k < 7 by omega) (by omega)];first | done | rfl | (simp;done)) | assumption | rfl)) (by first | omega | (simp only;omega) | (dsimp only;omega) | (show _ < _;simp;omega))
  ·refine zab (zb6 n L hok) ?_
   simp (maxSteps:=9^7) -dsimp only [↓gp,gq,reduceCtorEq,reduceEqDiff,reduceLT,reduceLeDiff,reduceAdd,reduceMul,reduceSub,Nat.reduceBEq,Int.reduceToNat,Int.reduceLE,Int.reduceLT,Int.reduceNeg,reduceMod,gT,h0b,r1000000b,r1000500b,h1b,h4b,r4b,h6b,r15b,h8b,r31b,h9b,h10b]
   exact ⟨_,j,g,_,zsU hn _ _,.one (.ag (.cons (.im _) (.cons (.fr (by simp (maxSteps:=9^7) -dsimp only [gr,reduceEqDiff,reduceLT,reduceAdd,reduceMod,Nat.reduceBEq,h0b,r1000000b,r1000500b,h1b,h4b,r4b,h6b,r15b,h8b,r31b,h9b,h10b] <;> rfl) (by decide)) .nil))),by simp,by simp (maxSteps:=9^7) -dsimp only [gr,reduceEqDiff,reduceLT,reduceAdd,reduceMod,Nat.reduceBEq,h0b,r1000000b,r1000500b,h1b,h4b,r4b,h6b,r15b,h8b,r31b,h9b,h10b] <;> rfl,by simp (maxSteps:=9^7) -dsimp only [gr,reduceEqDiff,reduceLT,reduceAdd,reduceMod,Nat.reduceBEq,h0b,r1000000b,r1000500b,h1b,h4b,r4b,h6b,r15b,h8b,r31b,h9b,h10b]⟩
def cx6 (n:Nat) (l:List Nat):Bool:=decide (1 ≤ n) && decide (n ≤ 6) && (List.range l.length).all fun k =>
 decide (l.getD k 0 < 2 ^ n) && (decide (k = 0) || (if zvk (l.getD (k - 1) 0) = zvk (l.getD k 0) then decide (l.getD (k - 1) 0 < l.getD k 0) else decide (zvk (l.getD (k - 1) 0) < zvk (l.getD k 0)))) &&
 (List.range k).all fun i=>!(l.getD i 0 &&& l.getD k 0 == l.getD i 0)
theorem zrQ {l:List Nat} {k:Nat} (h:k < l.length):(ofN l).getD k 0 = ((l.getD k 0:Nat):Int):=zaK h
theorem zG9 {n:Nat} {l:List Nat} (h:cx6 n l = true):cxP n (ofN l):=by
 unfold cx6 at h
 simp only [Bool.and_eq_true,decide_eq_true_eq,List.all_eq_true,List.mem_range,Bool.or_eq_true,Bool.not_eq_true'] at h
 obtain ⟨⟨h1,h6⟩,hall⟩:=h
 refine ⟨by omega,by omega,fun k hk=>?_⟩
 rw [zae] at hk
 obtain ⟨⟨ha,hb⟩,hc⟩:=hall k hk
 have hp:=zar h6
 have hk64:l.getD k 0 < 64:=by omega
 have at64:∀ i,i < l.length→l.getD i 0 < 64:=fun i hi=>by have:=(hall i hi).1.1;omega
 refine ⟨?_,fun h0=>?_,fun i hi=>?_⟩
 ·rw [zrQ hk]
  unfold zby
  refine decide_eq_true ⟨by omega,by omega,by omega,?_⟩
  rw [zbO]
  omega
 ·have hb:=hb.resolve_left (by omega)
  have hj64:=at64 (k - 1) (by omega)
  rw [zrQ hk,zrQ (show k - 1 < l.length by omega)]
  generalize l.getD (k - 1) 0 = a at *
  generalize l.getD k 0 = b at *
  have ea:zlz (a:Int) = (zvk a:Nat):=by rw [zlz,if_pos (by omega),Int.toNat_natCast,zkZ hj64]
  have eb:zlz (b:Int) = (zvk b:Nat):=by rw [zlz,if_pos (by omega),Int.toNat_natCast,zkZ hk64]
  unfold zl4
  rw [ea,eb,decide_eq_true (show (0:Int) ≤ a∧(a:Int) < 64 by omega),decide_eq_true (show (0:Int) ≤ b∧(b:Int) < 64 by omega)]
  simp only [Bool.true_and]
  by_cases he:zvk a = zvk b
  ·rw [if_pos he] at hb
   rw [if_pos (by omega)]
   exact decide_eq_true (by have:=of_decide_eq_true hb;omega)
  ·rw [if_neg he] at hb
   rw [if_neg (by omega)]
   exact decide_eq_true (by have:=of_decide_eq_true hb;omega)
 ·have hq:=hc i hi
  have hi64:=at64 i (by omega)
  rw [zrQ hk,zrQ (show i < l.length by omega),zbF (by omega) (by omega)]
  intro e
  have e:l.getD i 0 &&& l.getD k 0 = l.getD i 0:=Int.ofNat.inj e
  rw [e] at hq
  simp at hq
theorem zvJ (ps:List ByteArray):zsH ps = ofN (ps.map fun p=>zoX p p.size):=by
 unfold zsH ofN
 rw [List.map_map];rfl
theorem ziG {t rest:ByteArray} {n:Nat} {ps:List ByteArray} (size:decide (2 ≤ t.size∧t.size ≤ 1000) = true) (pts:decide (1 ≤ n∧n ≤ 6) = true) (b0:byt t 0 = 48 + n) (b1:byt t 1 = 58) (tail:t.extract 2 t.size = rest)
 (rsize:decide (rest.size ≤ 1000) = true) (full:(rest.toList == (⟨#[]⟩:ByteArray).toList) = false) (parts:ziy rest 44 = ps) (plen:decide (0 < ps.length∧ps.length ≤ 1000) = true) (sets:ps.all zEN = true)
 (head:ziy t 58 = [chr n,rest]) (cx:cx6 n (ps.map fun p=>zoX p p.size) = true):OkText t n rest ps :=
 ⟨of_decide_eq_true size,of_decide_eq_true pts,b0,b1,tail,of_decide_eq_true rsize,full,parts,(of_decide_eq_true plen).2,(of_decide_eq_true plen).1,fun p hp=>zCb (List.all_eq_true.1 sets p hp),head,by rw [zvJ];exact zG9 cx⟩
def ex2:ByteArray:=⟨#[54,58,97,99,100,44,98,99,100,44,97,98,101,44,97,99,101,44,98,100,101,44,97,98,102,44,98,99,102,44,97,100,102,44,99,101,102,44,100,101,102]⟩
def ps2:List ByteArray:=[⟨#[97,99,100]⟩,⟨#[98,99,100]⟩,⟨#[97,98,101]⟩,⟨#[97,99,101]⟩,⟨#[98,100,101]⟩,⟨#[97,98,102]⟩,⟨#[98,99,102]⟩,⟨#[97,100,102]⟩,⟨#[99,101,102]⟩,⟨#[100,101,102]⟩]
theorem zJm:OkText ex2 6 ⟨#[97,99,100,44,98,99,100,44,97,98,101,44,97,99,101,44,98,100,101,44,97,98,102,44,98,99,102,44,97,100,102,44,99,101,102,44,100,101,102]⟩ ps2:=ziG (by kernel_rfl) (by kernel_rfl) (by kernel_rfl) (by kernel_rfl) (by kernel_rfl) (by kernel_rfl) (by kernel_rfl) (by kernel_rfl) (by kernel_rfl) (by kernel_rfl) (by kernel_rfl) (by kernel_rfl)
def ex3:ByteArray:=⟨#[53,58,97,98,44,98,99,44,99,100,44,97,101,44,100,101]⟩
def ps3:List ByteArray:=[⟨#[97,98]⟩,⟨#[98,99]⟩,⟨#[99,100]⟩,⟨#[97,101]⟩,⟨#[100,101]⟩]
theorem zJn:OkText ex3 5 ⟨#[97,98,44,98,99,44,99,100,44,97,101,44,100,101]⟩ ps3:=ziG (by kernel_rfl) (by kernel_rfl) (by kernel_rfl) (by kernel_rfl) (by kernel_rfl) (by kernel_rfl) (by kernel_rfl) (by kernel_rfl) (by kernel_rfl) (by kernel_rfl) (by kernel_rfl) (by kernel_rfl)
def ex4:ByteArray:=⟨#[53,58,97,98,99,44,99,100,101]⟩
def ps4:List ByteArray:=[⟨#[97,98,99]⟩,⟨#[99,100,101]⟩]
theorem zJo:OkText ex4 5 ⟨#[97,98,99,44,99,100,101]⟩ ps4:=ziG (by kernel_rfl) (by kernel_rfl) (by kernel_rfl) (by kernel_rfl) (by kernel_rfl) (by kernel_rfl) (by kernel_rfl) (by kernel_rfl) (by kernel_rfl) (by kernel_rfl) (by kernel_rfl) (by kernel_rfl)
def ex5:ByteArray:=⟨#[54,58,97,98,99,44,97,99,100,44,97,98,101,44,97,100,101,44,98,99,102,44,99,100,102,44,98,101,102,44,100,101,102]⟩
def ps5:List ByteArray:=[⟨#[97,98,99]⟩,⟨#[97,99,100]⟩,⟨#[97,98,101]⟩,⟨#[97,100,101]⟩,⟨#[98,99,102]⟩,⟨#[99,100,102]⟩,⟨#[98,101,102]⟩,⟨#[100,101,102]⟩]
theorem zJp:OkText ex5 6 ⟨#[97,98,99,44,97,99,100,44,97,98,101,44,97,100,101,44,98,99,102,44,99,100,102,44,98,101,102,44,100,101,102]⟩ ps5:=ziG (by kernel_rfl) (by kernel_rfl) (by kernel_rfl) (by kernel_rfl) (by kernel_rfl) (by kernel_rfl) (by kernel_rfl) (by kernel_rfl) (by kernel_rfl) (by kernel_rfl) (by kernel_rfl) (by kernel_rfl)
def ex6:ByteArray:=⟨#[54,58,97,98,44,99,100,44,101,102]⟩
def ps6:List ByteArray:=[⟨#[97,98]⟩,⟨#[99,100]⟩,⟨#[101,102]⟩]
theorem zJq:OkText ex6 6 ⟨#[97,98,44,99,100,44,101,102]⟩ ps6:=ziG (by kernel_rfl) (by kernel_rfl) (by kernel_rfl) (by kernel_rfl) (by kernel_rfl) (by kernel_rfl) (by kernel_rfl) (by kernel_rfl) (by kernel_rfl) (by kernel_rfl) (by kernel_rfl) (by kernel_rfl)
def ex7:ByteArray:=⟨#[52,58,97,98,44,98,99,44,99,100]⟩
def ps7:List ByteArray:=[⟨#[97,98]⟩,⟨#[98,99]⟩,⟨#[99,100]⟩]
theorem zJr:OkText ex7 4 ⟨#[97,98,44,98,99,44,99,100]⟩ ps7:=ziG (by kernel_rfl) (by kernel_rfl) (by kernel_rfl) (by kernel_rfl) (by kernel_rfl) (by kernel_rfl) (by kernel_rfl) (by kernel_rfl) (by kernel_rfl) (by kernel_rfl) (by kernel_rfl) (by kernel_rfl)
def dx1:ByteArray:=⟨#[54,58,97,98,100,44,97,98,101,44,97,99,101,44,98,99,101,44,99,100,101,44,97,99,102,44,98,99,102,44,97,100,102,44,98,100,102]⟩
theorem zJk:OkText dx1 6 ⟨#[97,98,100,44,97,98,101,44,97,99,101,44,98,99,101,44,99,100,101,44,97,99,102,44,98,99,102,44,97,100,102,44,98,100,102]⟩ [⟨#[97,98,100]⟩,⟨#[97,98,101]⟩,⟨#[97,99,101]⟩,⟨#[98,99,101]⟩,⟨#[99,100,101]⟩,⟨#[97,99,102]⟩,⟨#[98,99,102]⟩,⟨#[97,100,102]⟩,⟨#[98,100,102]⟩]:=ziG (by kernel_rfl) (by kernel_rfl) (by kernel_rfl) (by kernel_rfl) (by kernel_rfl) (by kernel_rfl) (by kernel_rfl) (by kernel_rfl) (by kernel_rfl) (by kernel_rfl) (by kernel_rfl) (by kernel_rfl)
def dx2:ByteArray:=⟨#[52,58,97,98,99,44,97,98,100]⟩
theorem zJl:OkText dx2 4 ⟨#[97,98,99,44,97,98,100]⟩ [⟨#[97,98,99]⟩,⟨#[97,98,100]⟩]:=ziG (by kernel_rfl) (by kernel_rfl) (by kernel_rfl) (by kernel_rfl) (by kernel_rfl) (by kernel_rfl) (by kernel_rfl) (by kernel_rfl) (by kernel_rfl) (by kernel_rfl) (by kernel_rfl) (by kernel_rfl)
def dxL:List ByteArray:=[ex5,ex2,dx1,ex3,ex7,ex6,ex4,dx2]
theorem zG7 {t:ByteArray} (h:t ∈ dxL):∃ n rest ps,OkText t n rest ps∧n ≤ 6∧ps.length ≤ 10:=by
 simp only [dxL,List.mem_cons,List.not_mem_nil,or_false] at h
 rcases h with rfl | rfl | rfl | rfl | rfl | rfl | rfl | rfl
 ·exact ⟨_,_,_,zJp,by decide,by decide⟩
 ·exact ⟨_,_,_,zJm,by decide,by decide⟩
 ·exact ⟨_,_,_,zJk,by decide,by decide⟩
 ·exact ⟨_,_,_,zJn,by decide,by decide⟩
 ·exact ⟨_,_,_,zJr,by decide,by decide⟩
 ·exact ⟨_,_,_,zJq,by decide,by decide⟩
 ·exact ⟨_,_,_,zJo,by decide,by decide⟩
 ·exact ⟨_,_,_,zJl,by decide,by decide⟩
theorem zA7 {m:Nat} {ps:List ByteArray} (hm:m ≤ 6) (hps:ps.length ≤ 10):kcx cxQ (.ag [.im (int m),.fr 3 1 (iL (zsH ps))]) :=
 ⟨_,_,rfl,by omega,by omega,by rw [zvJ,zae,List.length_map];omega⟩
theorem zfS (n:Nat) (hn1:1 ≤ n) (hn:n ≤ 6):AC Tryz.prog 103 [int n] (.tup [.ag [.im (int n),.fr 3 1 (iL (ofN (zfB (inF (ofN (List.range (2 ^ n - 1)))) true)))],.im (bool true)]):=by
 refine AC.go (rs:=[.cell 2 26,.tmp 3]) za0 mixed Tryz.func103 rfl rfl rfl (by kernel_rfl) fun hl=>?_
 have h64:=zar hn
 have hp:0 < 2 ^ n:=Nat.pow_pos (by omega)
 have hsh:zrU .i64 1 (n:Int) = ((2 ^ n:Nat):Int):=zbx (by omega)
 have hun:IntKind.u64.wrap (n:Int) = (n:Int):=zb3 (by omega)
 have hw:IntKind.i64.wrap (((2 ^ n:Nat):Int) - 1) = ((2 ^ n - 1:Nat):Int):=by rw [zam (by omega) (by omega)];omega
 simp (maxSteps:=9^7) -dsimp only [↓gp,gq,reduceCtorEq,reduceEqDiff,reduceLT,reduceLeDiff,reduceAdd,reduceMul,reduceSub,Nat.reduceBEq,Int.reduceToNat,Int.reduceLE,Int.reduceLT,Int.reduceNeg,reduceMod,gT]
 refine zab (zcy _ _ _) ?_
 have hin:(decide (1 ≤ (n:Int)) && decide ((n:Int) ≤ 6)) = true:=by rw [decide_eq_true (by omega),decide_eq_true (by omega)];rfl
 simp (maxSteps:=9^7) -dsimp only [↓gp,gq,reduceCtorEq,reduceEqDiff,reduceLT,reduceLeDiff,reduceAdd,reduceMul,reduceSub,Nat.reduceBEq,Int.reduceToNat,Int.reduceLE,Int.reduceLT,Int.reduceNeg,reduceMod,gT,hin]
 refine zan (fun (za:Nat × Nat) s=>match za with | (k,v)=>s.sl 0 = int n∧s.sl 2 = .ref 2 1 0∧s.rw 2 = ⟨1,.box 26 [int 0,.v (.slice none 0 0)]⟩∧s.sl 4 = .own 10 v∧s.rw 10 = ⟨v,.sli 3 1 false (iL (ofN (List.range k)))⟩∧s.sl 5 = int k∧(k ≤ 2 ^ n - 1)) (fun (k,v)=>2 ^ n - 1 - k) ((0,1)) (by refine ⟨?_,?_,?_,?_,?_,?_,Nat.zero_le _⟩ <;> (first | (simp (maxSteps:=9^7) -dsimp only [gr,reduceEqDiff,reduceLT,reduceAdd,reduceMod,Nat.reduceBEq];first | done | rfl | (simp;done)) | assumption | rfl)) ?_
 intro (k,v) sa ⟨h0a,h2a,r2a,h4a,r10a,h5a,hIa⟩
 simp (maxSteps:=9^7) -dsimp only [↓gp,gq,reduceCtorEq,reduceEqDiff,reduceLT,reduceLeDiff,reduceAdd,reduceMul,reduceSub,Nat.reduceBEq,Int.reduceToNat,Int.reduceLE,Int.reduceLT,Int.reduceNeg,reduceMod,gT,h0a,h2a,r2a,h4a,r10a,h5a,hsh,hun,hw]
 refine ⟨fun h=>?_,fun h=>?_⟩
 ·simp (maxSteps:=9^7) -dsimp only [↓gp,gq,reduceCtorEq,reduceEqDiff,reduceLT,reduceLeDiff,reduceAdd,reduceMul,reduceSub,Nat.reduceBEq,Int.reduceToNat,Int.reduceLE,Int.reduceLT,Int.reduceNeg,reduceMod,gT,h0a,h2a,r2a,h4a,r10a,h5a,zae,List.length_range]
  refine ⟨by omega,?_⟩
  exact zac ((k + 1,v + 1)) (by refine ⟨?_,?_,?_,?_,?_,?_,by dsimp only;omega⟩ <;> (first | (simp (maxSteps:=9^7) -dsimp only [gr,reduceEqDiff,reduceLT,reduceAdd,reduceMod,Nat.reduceBEq,h0a,h2a,r2a,h4a,r10a,h5a,List.range_succ,za1,zdx,zaa h (by omega)];first | done | rfl | (simp;done)) | assumption | rfl)) (by first | omega | (simp only;omega) | (dsimp only;omega) | (show _ < _;simp;omega))
 ·have hk:k = 2 ^ n - 1:=by omega
  rw [hk] at r10a ⊢
  have hok:okS (ofN (List.range (2 ^ n - 1))):=fun x hx=>by
   obtain ⟨s,hs,rfl⟩:=List.mem_map.1 hx
   have:=List.mem_range.1 hs
   omega
  refine zab (zb6 n _ hok) ?_
  simp (maxSteps:=9^7) -dsimp only [↓gp,gq,reduceCtorEq,reduceEqDiff,reduceLT,reduceLeDiff,reduceAdd,reduceMul,reduceSub,Nat.reduceBEq,Int.reduceToNat,Int.reduceLE,Int.reduceLT,Int.reduceNeg,reduceMod,gT,h0a,h2a,r2a,h4a,r10a,h5a]
theorem zoO (bs:List Int) (hbs:bs.length ≤ 9223372036854775806):zw2 Tryz.prog 87 TC bs ⟨0,.dead⟩ [] (kcx cxQ):=by
 intro i h
 refine AG.go (rs:=[.cell 2 26]) za0 mixed Tryz.func87 rfl rfl rfl (by kernel_rfl) fun hl _ s hs hR=>?_
 have e0:s.rw 1000000 = ⟨1,.box TC [.sl false 1 (kL .u8 bs),int i,int h]⟩:=by rw [hR];rfl
 have e1:s.rw 1000500 = ⟨0,.dead⟩:=by rw [hR];rfl
 have elo:∀ k,k < 1000000→s.rw k = ⟨0,.dead⟩:=fun k hk=>by rw [hR];exact zlt hk
 simp (maxSteps:=9^7) -dsimp only [↓gp,gq,reduceCtorEq,reduceEqDiff,reduceLT,reduceLeDiff,reduceAdd,reduceMul,reduceSub,Nat.reduceBEq,Int.reduceToNat,Int.reduceLE,Int.reduceLT,Int.reduceNeg,reduceMod,gT,hs,e0,elo]
 refine zaG (zc3 bs hbs [1,2,3,4,4,5,5,6] (by decide) (by decide)) (.some (j:=9) (by simp (maxSteps:=9^7) -dsimp only [gr,reduceEqDiff,reduceLT,reduceAdd,reduceMod,Nat.reduceBEq,elo] <;> rfl) (zc8 _)) (by simp (maxSteps:=9^7) -dsimp only [gr,reduceEqDiff,reduceLT,reduceAdd,reduceMod,Nat.reduceBEq,e0] <;> rfl) (.one (zbS (by simp (maxSteps:=9^7) -dsimp only [gr,reduceEqDiff,reduceLT,reduceAdd,reduceMod,Nat.reduceBEq,e0] <;> rfl)) (.one (zlu (by simp (maxSteps:=9^7) -dsimp only [gr,reduceEqDiff,reduceLT,reduceAdd,reduceMod,Nat.reduceBEq,elo])) .nil)) rfl (fun j hj=>by cases hj;exact ⟨rfl,rfl⟩) fun rv i1 g1 ⟨n0,hrv,hc⟩=>?_
 subst hrv
 obtain ⟨n,rfl,hn1,hn⟩:∃ n:Nat,n0 = n∧1 ≤ n∧n ≤ 6:=by
  have hc:n0 ∈ [1,2,3,4,4,5,5,6]:=hc
  simp at hc
  exact ⟨n0.toNat,by omega,by omega,by omega⟩
 simp (maxSteps:=9^7) -dsimp only [↓gp,gq,reduceCtorEq,reduceEqDiff,reduceLT,reduceLeDiff,reduceAdd,reduceMul,reduceSub,Nat.reduceBEq,Int.reduceToNat,Int.reduceLE,Int.reduceLT,Int.reduceNeg,reduceMod,gT,hs,e0,elo]
 refine zaG (zaY bs hbs 8 (by decide)) .none (by simp (maxSteps:=9^7) -dsimp only [gr,reduceEqDiff,reduceLT,reduceAdd,reduceMod,Nat.reduceBEq,e0,elo] <;> rfl) (GvL.one (zbS (by simp (maxSteps:=9^7) -dsimp only [gr,reduceEqDiff,reduceLT,reduceAdd,reduceMod,Nat.reduceBEq,e0,elo] <;> rfl)) (by repeat (first | exact GvL.nil | refine GvL.one (GvA.v _) ?_ | refine GvL.one (GvA.sl _ _ _) ?_))) rfl (fun _ h=>by cases h) fun rv i2 g2 ⟨x,hrv,hx⟩=>?_
 subst hrv
 simp (maxSteps:=9^7) -dsimp only [↓gp,gq,reduceCtorEq,reduceEqDiff,reduceLT,reduceLeDiff,reduceAdd,reduceMul,reduceSub,Nat.reduceBEq,Int.reduceToNat,Int.reduceLE,Int.reduceLT,Int.reduceNeg,reduceMod,gT,hs,e0,elo]
 refine ⟨fun h0=>zab (zfS n hn1 hn) ?_,fun h0=>⟨fun h1=>?_,fun h1=>?_⟩⟩
 ·simp (maxSteps:=9^7) -dsimp only [↓gp,gq,reduceCtorEq,reduceEqDiff,reduceLT,reduceLeDiff,reduceAdd,reduceMul,reduceSub,Nat.reduceBEq,Int.reduceToNat,Int.reduceLE,Int.reduceLT,Int.reduceNeg,reduceMod,gT,e0,elo]
  exact ⟨_,i2,g2,_,zsU hn _ _,.one (.ag (.cons (.im _) (.cons (.fr (by simp (maxSteps:=9^7) -dsimp only [gr,reduceEqDiff,reduceLT,reduceAdd,reduceMod,Nat.reduceBEq] <;> rfl) (by decide)) .nil))),by simp,by simp (maxSteps:=9^7) -dsimp only [gr,reduceEqDiff,reduceLT,reduceAdd,reduceMod,Nat.reduceBEq] <;> rfl,by simp (maxSteps:=9^7) -dsimp only [gr,reduceEqDiff,reduceLT,reduceAdd,reduceMod,Nat.reduceBEq,e1]⟩
 ·refine zaG (zoM bs hbs dxL (by decide) (by decide)) (.some (j:=25) (by simp (maxSteps:=9^7) -dsimp only [gr,reduceEqDiff,reduceLT,reduceAdd,reduceMod,Nat.reduceBEq,elo] <;> rfl) (zBC _)) (by simp (maxSteps:=9^7) -dsimp only [gr,reduceEqDiff,reduceLT,reduceAdd,reduceMod,Nat.reduceBEq,e0] <;> rfl) (.one (zbS (by simp (maxSteps:=9^7) -dsimp only [gr,reduceEqDiff,reduceLT,reduceAdd,reduceMod,Nat.reduceBEq,e0] <;> rfl)) (.one (zlu (by simp (maxSteps:=9^7) -dsimp only [gr,reduceEqDiff,reduceLT,reduceAdd,reduceMod,Nat.reduceBEq,elo])) .nil)) rfl (fun j hj=>by cases hj;exact ⟨rfl,rfl⟩) fun rv i3 g3 ⟨t,hrv,ht⟩=>?_
  subst hrv
  obtain ⟨m,rest,ps,hok,hm,hps⟩:=zG7 ht
  simp (maxSteps:=9^7) -dsimp only [↓gp,gq,reduceCtorEq,reduceEqDiff,reduceLT,reduceLeDiff,reduceAdd,reduceMul,reduceSub,Nat.reduceBEq,Int.reduceToNat,Int.reduceLE,Int.reduceLT,Int.reduceNeg,reduceMod,gT,hs,e0,elo]
  refine zab (zgo hok) ?_
  simp (maxSteps:=9^7) -dsimp only [↓gp,gq,reduceCtorEq,reduceEqDiff,reduceLT,reduceLeDiff,reduceAdd,reduceMul,reduceSub,Nat.reduceBEq,Int.reduceToNat,Int.reduceLE,Int.reduceLT,Int.reduceNeg,reduceMod,gT,e0,elo]
  exact ⟨_,i3,g3,_,zA7 hm hps,.one (.ag (.cons (.im _) (.cons (.fr (by simp (maxSteps:=9^7) -dsimp only [gr,reduceEqDiff,reduceLT,reduceAdd,reduceMod,Nat.reduceBEq] <;> rfl) (by decide)) .nil))),by simp,by simp (maxSteps:=9^7) -dsimp only [gr,reduceEqDiff,reduceLT,reduceAdd,reduceMod,Nat.reduceBEq] <;> rfl,by simp (maxSteps:=9^7) -dsimp only [gr,reduceEqDiff,reduceLT,reduceAdd,reduceMod,Nat.reduceBEq,e1]⟩
 ·have hP:∀ (S:St) (K:St→Prop) (u1:Dm S) (u2:Dm K) (lents:List PV) (Ka:RV→Prop) (d:Nat) (g:FuncId),zw2 Tryz.prog g TC bs ⟨0,.dead⟩ [int n] (kcx cxQ)→S.rw 1000000 = ⟨1,.box TC [.sl false 1 (kL .u8 bs),int i2,int g2]⟩→(d % 1000 == 0) = false →
   (∀ (j:Nat) (y m:Int) (xs:List Int),cxQ m xs→K (zai (S.row 1000000 ⟨1,.box TC [.sl false 1 (kL .u8 bs),int j,int y]⟩) d (.ag [.im (int m),.fr 3 1 (iL xs)])))→ziN Tryz.prog g lents Ka (ztE Tryz.prog g lents [.ref 1000000 1 0,int n] (some d) (kk S u1) (kk K u2)):=fun S K u1 u2 lents Ka d g hg hS hd hK =>
   zaG hg .none hS (GvL.one (zbS (by rw [hS])) (by repeat (first | exact GvL.nil | refine GvL.one (GvA.v _) ?_ | refine GvL.one (GvA.sl _ _ _) ?_))) hd (fun _ h=>by cases h) fun rv i3 g3 ⟨m,xs,hrv,hq⟩=>by subst hrv;exact hK i3 g3 m xs hq
  have hp:=zoP bs hbs n hn1 hn
  have hz:=zhz bs hbs n hn1 hn
  refine ⟨fun h2=>⟨fun h3=>hP _ _ _ _ _ _ _ _ hp (by simp (maxSteps:=9^7) -dsimp only [gr,reduceEqDiff,reduceLT,reduceAdd,reduceMod,Nat.reduceBEq]) rfl fun i3 g3 m xs hq=>?_,fun h3=>hP _ _ _ _ _ _ _ _ hz (by simp (maxSteps:=9^7) -dsimp only [gr,reduceEqDiff,reduceLT,reduceAdd,reduceMod,Nat.reduceBEq]) rfl fun i3 g3 m xs hq=>?_⟩,fun h2=>⟨fun h3=>hP _ _ _ _ _ _ _ _ hp (by simp (maxSteps:=9^7) -dsimp only [gr,reduceEqDiff,reduceLT,reduceAdd,reduceMod,Nat.reduceBEq]) rfl fun i3 g3 m xs hq=>?_,fun h3=>hP _ _ _ _ _ _ _ _ hz (by simp (maxSteps:=9^7) -dsimp only [gr,reduceEqDiff,reduceLT,reduceAdd,reduceMod,Nat.reduceBEq]) rfl fun i3 g3 m xs hq=>?_⟩⟩
  all_goals
   simp (maxSteps:=9^7) -dsimp only [↓gp,gq,reduceCtorEq,reduceEqDiff,reduceLT,reduceLeDiff,reduceAdd,reduceMul,reduceSub,Nat.reduceBEq,Int.reduceToNat,Int.reduceLE,Int.reduceLT,Int.reduceNeg,reduceMod,gT,e0,elo]
   exact ⟨_,i3,g3,_,⟨_,_,rfl,hq⟩,.one (.ag (.cons (.im _) (.cons (.fr (by simp (maxSteps:=9^7) -dsimp only [gr,reduceEqDiff,reduceLT,reduceAdd,reduceMod,Nat.reduceBEq] <;> rfl) (by decide)) .nil))),by simp,by simp (maxSteps:=9^7) -dsimp only [gr,reduceEqDiff,reduceLT,reduceAdd,reduceMod,Nat.reduceBEq] <;> rfl,by simp (maxSteps:=9^7) -dsimp only [gr,reduceEqDiff,reduceLT,reduceAdd,reduceMod,Nat.reduceBEq,e1]⟩
theorem zhy (bs:List Int) (hbs:bs.length ≤ 9223372036854775806):zw2 Tryz.prog 59 TC bs ⟨0,.dead⟩ [] (kcx fun n xs=>0 ≤ n∧n ≤ 7∧xs.length ≤ 450):=by
 intro i h
 refine AG.go (rs:=[.cell 2 26]) za0 mixed Tryz.func59 rfl rfl rfl (by kernel_rfl) fun hl _ s hs hR=>?_
 have e0:s.rw 1000000 = ⟨1,.box TC [.sl false 1 (kL .u8 bs),int i,int h]⟩:=by rw [hR];rfl
 have e1:s.rw 1000500 = ⟨0,.dead⟩:=by rw [hR];rfl
 have elo:∀ k,k < 1000000→s.rw k = ⟨0,.dead⟩:=fun k hk=>by rw [hR];exact zlt hk
 simp (maxSteps:=9^7) -dsimp only [↓gp,gq,reduceCtorEq,reduceEqDiff,reduceLT,reduceLeDiff,reduceAdd,reduceMul,reduceSub,Nat.reduceBEq,Int.reduceToNat,Int.reduceLE,Int.reduceLT,Int.reduceNeg,reduceMod,gT,hs,e0,elo]
 refine zaG (zoO bs hbs) .none (by simp (maxSteps:=9^7) -dsimp only [gr,reduceEqDiff,reduceLT,reduceAdd,reduceMod,Nat.reduceBEq,e0,elo] <;> rfl) (GvL.one (zbS (by simp (maxSteps:=9^7) -dsimp only [gr,reduceEqDiff,reduceLT,reduceAdd,reduceMod,Nat.reduceBEq,e0,elo] <;> rfl)) (by repeat (first | exact GvL.nil | refine GvL.one (GvA.v _) ?_ | refine GvL.one (GvA.sl _ _ _) ?_))) rfl (fun _ h=>by cases h) fun rv i1 g1 ⟨n,xs,hrv,hq⟩=>?_
 subst hrv
 obtain ⟨hn0,hn7,hxl⟩:=hq
 simp (maxSteps:=9^7) -dsimp only [↓gp,gq,reduceCtorEq,reduceEqDiff,reduceLT,reduceLeDiff,reduceAdd,reduceMul,reduceSub,Nat.reduceBEq,Int.reduceToNat,Int.reduceLE,Int.reduceLT,Int.reduceNeg,reduceMod,gT,hs,e0,elo]
 refine zaG (zaY bs hbs 14 (by decide)) .none (by simp (maxSteps:=9^7) -dsimp only [gr,reduceEqDiff,reduceLT,reduceAdd,reduceMod,Nat.reduceBEq,e0,elo] <;> rfl) (GvL.one (zbS (by simp (maxSteps:=9^7) -dsimp only [gr,reduceEqDiff,reduceLT,reduceAdd,reduceMod,Nat.reduceBEq,e0,elo] <;> rfl)) (by repeat (first | exact GvL.nil | refine GvL.one (GvA.v _) ?_ | refine GvL.one (GvA.sl _ _ _) ?_))) rfl (fun _ h=>by cases h) fun rv i2 g2 ⟨x,hrv,hx⟩=>?_
 subst hrv
 simp (maxSteps:=9^7) -dsimp only [↓gp,gq,reduceCtorEq,reduceEqDiff,reduceLT,reduceLeDiff,reduceAdd,reduceMul,reduceSub,Nat.reduceBEq,Int.reduceToNat,Int.reduceLE,Int.reduceLT,Int.reduceNeg,reduceMod,gT,hs,e0,elo]
 refine ⟨fun h0=>?_,fun h0=>⟨fun h1=>?_,fun h1=>?_⟩⟩
 ·refine zaG (zc3 bs hbs [0,7,2] (by decide) (by decide)) (.some (j:=11) (by simp (maxSteps:=9^7) -dsimp only [gr,reduceEqDiff,reduceLT,reduceAdd,reduceMod,Nat.reduceBEq,elo] <;> rfl) (zc8 _)) (by simp (maxSteps:=9^7) -dsimp only [gr,reduceEqDiff,reduceLT,reduceAdd,reduceMod,Nat.reduceBEq,e0] <;> rfl) (.one (zbS (by simp (maxSteps:=9^7) -dsimp only [gr,reduceEqDiff,reduceLT,reduceAdd,reduceMod,Nat.reduceBEq,e0] <;> rfl)) (.one (zlu (by simp (maxSteps:=9^7) -dsimp only [gr,reduceEqDiff,reduceLT,reduceAdd,reduceMod,Nat.reduceBEq,elo])) .nil)) rfl (fun j hj=>by cases hj;exact ⟨rfl,rfl⟩) fun rv i3 g3 ⟨m,hrv,hc⟩=>?_
  subst hrv
  have hm:0 ≤ m∧m ≤ 7:=by
   have hc:m ∈ [0,7,2]:=hc
   simp at hc;omega
  simp (maxSteps:=9^7) -dsimp only [↓gp,gq,reduceCtorEq,reduceEqDiff,reduceLT,reduceLeDiff,reduceAdd,reduceMul,reduceSub,Nat.reduceBEq,Int.reduceToNat,Int.reduceLE,Int.reduceLT,Int.reduceNeg,reduceMod,gT,e0,elo]
  exact ⟨_,i3,g3,_,⟨m,xs,rfl,hm.1,hm.2,by omega⟩,.one (.ag (.cons (.im _) (.cons (.fr (by simp (maxSteps:=9^7) -dsimp only [gr,reduceEqDiff,reduceLT,reduceAdd,reduceMod,Nat.reduceBEq] <;> rfl) (by decide)) .nil))),by simp,by simp (maxSteps:=9^7) -dsimp only [gr,reduceEqDiff,reduceLT,reduceAdd,reduceMod,Nat.reduceBEq] <;> rfl,by simp (maxSteps:=9^7) -dsimp only [gr,reduceEqDiff,reduceLT,reduceAdd,reduceMod,Nat.reduceBEq,e1]⟩
 ·refine ⟨by kernel_rfl,znA (zb0 bs hbs 66 (by decide)) (zhx _) (i:=i2) (h:=g2) (by simp (maxSteps:=9^7) -dsimp only [gr,reduceEqDiff,reduceLT,reduceAdd,reduceMod,Nat.reduceBEq] <;> rfl) rfl ?_⟩
  obtain ⟨y,j3,g3,hr,hy⟩:=znz bs 66 i2 g2
  rw [hr]
  have hy66:0 ≤ y∧y < 66:=by obtain ⟨a,b⟩:=hy;omega
  have hw:IntKind.i64.wrap (y - 1) = y - 1:=zam (by omega) (by omega)
  simp (maxSteps:=9^7) -dsimp only [↓gp,gq,reduceCtorEq,reduceEqDiff,reduceLT,reduceLeDiff,reduceAdd,reduceMul,reduceSub,Nat.reduceBEq,Int.reduceToNat,Int.reduceLE,Int.reduceLT,Int.reduceNeg,reduceMod,gT,e0,elo,hw]
  refine ⟨by omega,by kernel_rfl,?_⟩
  exact ⟨_,j3,g3,_,⟨n,xs ++ [y - 1],rfl,hn0,hn7,by simp;omega⟩,.one (.ag (.cons (.im _) (.cons (.fr (by simp (maxSteps:=9^7) -dsimp only [gr,reduceEqDiff,reduceLT,reduceAdd,reduceMod,Nat.reduceBEq] <;> rfl) (by decide)) .nil))),by simp,by simp (maxSteps:=9^7) -dsimp only [gr,reduceEqDiff,reduceLT,reduceAdd,reduceMod,Nat.reduceBEq] <;> rfl,by simp (maxSteps:=9^7) -dsimp only [gr,reduceEqDiff,reduceLT,reduceAdd,reduceMod,Nat.reduceBEq,e1]⟩
 ·exact ⟨_,i2,g2,_,⟨n,xs,rfl,hn0,hn7,by omega⟩,.one (.ag (.cons (.im _) (.cons (.fr (by simp (maxSteps:=9^7) -dsimp only [gr,reduceEqDiff,reduceLT,reduceAdd,reduceMod,Nat.reduceBEq] <;> rfl) (by decide)) .nil))),by simp,by simp (maxSteps:=9^7) -dsimp only [gr,reduceEqDiff,reduceLT,reduceAdd,reduceMod,Nat.reduceBEq] <;> rfl,by simp (maxSteps:=9^7) -dsimp only [gr,reduceEqDiff,reduceLT,reduceAdd,reduceMod,Nat.reduceBEq,e1]⟩
def cxB (n:Int) (xs:List Int):Prop:=0 ≤ n∧n ≤ 7∧xs.length ≤ 450
theorem zrP (bs:List Int) (hbs:bs.length ≤ 9223372036854775806):zw2 Tryz.prog 57 TC bs ⟨0,.dead⟩ [] (kcx cxB):=by
 intro i h
 refine AG.go (rs:=[.cell 2 26]) za0 mixed Tryz.func57 rfl rfl rfl (by kernel_rfl) fun hl _ s hs hR=>?_
 have e0:s.rw 1000000 = ⟨1,.box TC [.sl false 1 (kL .u8 bs),int i,int h]⟩:=by rw [hR];rfl
 have e1:s.rw 1000500 = ⟨0,.dead⟩:=by rw [hR];rfl
 have elo:∀ k,k < 1000000→s.rw k = ⟨0,.dead⟩:=fun k hk=>by rw [hR];exact zlt hk
 simp (maxSteps:=9^7) -dsimp only [↓gp,gq,reduceCtorEq,reduceEqDiff,reduceLT,reduceLeDiff,reduceAdd,reduceMul,reduceSub,Nat.reduceBEq,Int.reduceToNat,Int.reduceLE,Int.reduceLT,Int.reduceNeg,reduceMod,gT,hs,e0,elo]
 refine zaG (zez bs hbs 10 (by decide)) .none (by simp (maxSteps:=9^7) -dsimp only [gr,reduceEqDiff,reduceLT,reduceAdd,reduceMod,Nat.reduceBEq,e0,elo] <;> rfl) (GvL.one (zbS (by simp (maxSteps:=9^7) -dsimp only [gr,reduceEqDiff,reduceLT,reduceAdd,reduceMod,Nat.reduceBEq,e0,elo] <;> rfl)) (by repeat (first | exact GvL.nil | refine GvL.one (GvA.v _) ?_ | refine GvL.one (GvA.sl _ _ _) ?_))) rfl (fun _ h=>by cases h) fun rv i1 g1 ⟨b,hrv⟩=>?_
 subst hrv
 simp (maxSteps:=9^7) -dsimp only [↓gp,gq,reduceCtorEq,reduceEqDiff,reduceLT,reduceLeDiff,reduceAdd,reduceMul,reduceSub,Nat.reduceBEq,Int.reduceToNat,Int.reduceLE,Int.reduceLT,Int.reduceNeg,reduceMod,gT,hs,e0,elo]
 refine ⟨fun hb=>?_,fun hb=>?_⟩
 ·refine zaG (zhy bs hbs) .none (by simp (maxSteps:=9^7) -dsimp only [gr,reduceEqDiff,reduceLT,reduceAdd,reduceMod,Nat.reduceBEq,e0,elo] <;> rfl) (GvL.one (zbS (by simp (maxSteps:=9^7) -dsimp only [gr,reduceEqDiff,reduceLT,reduceAdd,reduceMod,Nat.reduceBEq,e0,elo] <;> rfl)) (by repeat (first | exact GvL.nil | refine GvL.one (GvA.v _) ?_ | refine GvL.one (GvA.sl _ _ _) ?_))) rfl (fun _ h=>by cases h) fun rv i2 g2 ⟨n,xs,hrv,hq⟩=>?_
  subst hrv
  simp (maxSteps:=9^7) -dsimp only [↓gp,gq,reduceCtorEq,reduceEqDiff,reduceLT,reduceLeDiff,reduceAdd,reduceMul,reduceSub,Nat.reduceBEq,Int.reduceToNat,Int.reduceLE,Int.reduceLT,Int.reduceNeg,reduceMod,gT,hs,e0,elo]
  exact ⟨_,i2,g2,_,⟨_,_,rfl,hq⟩,.one (.ag (.cons (.im _) (.cons (.fr (by simp (maxSteps:=9^7) -dsimp only [gr,reduceEqDiff,reduceLT,reduceAdd,reduceMod,Nat.reduceBEq] <;> rfl) (by decide)) .nil))),by simp,by simp (maxSteps:=9^7) -dsimp only [gr,reduceEqDiff,reduceLT,reduceAdd,reduceMod,Nat.reduceBEq] <;> rfl,by simp (maxSteps:=9^7) -dsimp only [gr,reduceEqDiff,reduceLT,reduceAdd,reduceMod,Nat.reduceBEq,e1]⟩
 ·refine zaG (zaY bs hbs 5 (by decide)) .none (by simp (maxSteps:=9^7) -dsimp only [gr,reduceEqDiff,reduceLT,reduceAdd,reduceMod,Nat.reduceBEq,e0,elo] <;> rfl) (GvL.one (zbS (by simp (maxSteps:=9^7) -dsimp only [gr,reduceEqDiff,reduceLT,reduceAdd,reduceMod,Nat.reduceBEq,e0,elo] <;> rfl)) (by repeat (first | exact GvL.nil | refine GvL.one (GvA.v _) ?_ | refine GvL.one (GvA.sl _ _ _) ?_))) rfl (fun _ h=>by cases h) fun rv i2 g2 ⟨x,hrv,hx⟩=>?_
  subst hrv
  obtain ⟨m,rfl,hm⟩:=zgs (n:=5) (by decide) hx
  have hw:IntKind.i64.wrap (1 + (m:Int)) = ((m + 1:Nat):Int):=by rw [zam (by omega) (by omega)];omega
  simp (maxSteps:=9^7) -dsimp only [↓gp,gq,reduceCtorEq,reduceEqDiff,reduceLT,reduceLeDiff,reduceAdd,reduceMul,reduceSub,Nat.reduceBEq,Int.reduceToNat,Int.reduceLE,Int.reduceLT,Int.reduceNeg,reduceMod,gT,hs,e0,elo,hw]
  refine zaG (zhz bs hbs (m + 1) (by omega) (by omega)) .none (by simp (maxSteps:=9^7) -dsimp only [gr,reduceEqDiff,reduceLT,reduceAdd,reduceMod,Nat.reduceBEq,e0,elo] <;> rfl) (GvL.one (zbS (by simp (maxSteps:=9^7) -dsimp only [gr,reduceEqDiff,reduceLT,reduceAdd,reduceMod,Nat.reduceBEq,e0,elo] <;> rfl)) (by repeat (first | exact GvL.nil | refine GvL.one (GvA.v _) ?_ | refine GvL.one (GvA.sl _ _ _) ?_))) rfl (fun _ h=>by cases h) fun rv i3 g3 ⟨n,xs,hrv,hq⟩=>?_
  subst hrv
  obtain ⟨q1,q2,q3⟩:=hq
  simp (maxSteps:=9^7) -dsimp only [↓gp,gq,reduceCtorEq,reduceEqDiff,reduceLT,reduceLeDiff,reduceAdd,reduceMul,reduceSub,Nat.reduceBEq,Int.reduceToNat,Int.reduceLE,Int.reduceLT,Int.reduceNeg,reduceMod,gT,hs,e0,elo]
  exact ⟨_,i3,g3,_,⟨n,xs,rfl,q1,q2,by omega⟩,.one (.ag (.cons (.im _) (.cons (.fr (by simp (maxSteps:=9^7) -dsimp only [gr,reduceEqDiff,reduceLT,reduceAdd,reduceMod,Nat.reduceBEq] <;> rfl) (by decide)) .nil))),by simp,by simp (maxSteps:=9^7) -dsimp only [gr,reduceEqDiff,reduceLT,reduceAdd,reduceMod,Nat.reduceBEq] <;> rfl,by simp (maxSteps:=9^7) -dsimp only [gr,reduceEqDiff,reduceLT,reduceAdd,reduceMod,Nat.reduceBEq,e1]⟩
def kcp (P:Int→List Int→Int→Prop) (rv:RV):Prop:=∃ n xs p,rv = .tup [.ag [.im (int n),.fr 3 1 (iL xs)],.im (int p)]∧P n xs p
theorem zf7 (bs:List Int) (hbs:bs.length ≤ 9223372036854775806):ADr Tryz.prog 21 [.sl false 1 (kL .u8 bs)] (kcp fun n xs p=>cxB n xs):=by
 refine AG.go (rs:=[.cell 2 26,.tmp 3]) za0 mixed Tryz.func21 rfl rfl rfl (by kernel_rfl) fun hl _ s hs hR=>?_
 simp (maxSteps:=9^7) -dsimp only [↓gp,gq,reduceCtorEq,reduceEqDiff,reduceLT,reduceLeDiff,reduceAdd,reduceMul,reduceSub,Nat.reduceBEq,Int.reduceToNat,Int.reduceLE,Int.reduceLT,Int.reduceNeg,reduceMod,gT,hs,hR]
 refine ziF (ziC bs) (.one (.sl _ _ _) .nil) fun h0=>?_
 simp (maxSteps:=9^7) -dsimp only [↓gp,gq,reduceCtorEq,reduceEqDiff,reduceLT,reduceLeDiff,reduceAdd,reduceMul,reduceSub,Nat.reduceBEq,Int.reduceToNat,Int.reduceLE,Int.reduceLT,Int.reduceNeg,reduceMod,gT,hs,hR]
 refine zaG (zrP bs hbs) .none (by simp (maxSteps:=9^7) -dsimp only [gr,reduceEqDiff,reduceLT,reduceAdd,reduceMod,Nat.reduceBEq,hR] <;> rfl) (GvL.one (zbS (by simp (maxSteps:=9^7) -dsimp only [gr,reduceEqDiff,reduceLT,reduceAdd,reduceMod,Nat.reduceBEq,hR] <;> rfl)) (by repeat (first | exact GvL.nil | refine GvL.one (GvA.v _) ?_ | refine GvL.one (GvA.sl _ _ _) ?_))) rfl (fun _ h=>by cases h) fun rv i1 g1 ⟨n,xs,hrv,hq⟩=>?_
 subst hrv
 simp (maxSteps:=9^7) -dsimp only [↓gp,gq,reduceCtorEq,reduceEqDiff,reduceLT,reduceLeDiff,reduceAdd,reduceMul,reduceSub,Nat.reduceBEq,Int.reduceToNat,Int.reduceLE,Int.reduceLT,Int.reduceNeg,reduceMod,gT,hs,hR]
 refine zaG (zez bs hbs 5 (by decide)) .none (by simp (maxSteps:=9^7) -dsimp only [gr,reduceEqDiff,reduceLT,reduceAdd,reduceMod,Nat.reduceBEq,hR] <;> rfl) (GvL.one (zbS (by simp (maxSteps:=9^7) -dsimp only [gr,reduceEqDiff,reduceLT,reduceAdd,reduceMod,Nat.reduceBEq,hR] <;> rfl)) (by repeat (first | exact GvL.nil | refine GvL.one (GvA.v _) ?_ | refine GvL.one (GvA.sl _ _ _) ?_))) rfl (fun _ h=>by cases h) fun rv i2 g2 ⟨b,hrv⟩=>?_
 subst hrv
 simp (maxSteps:=9^7) -dsimp only [↓gp,gq,reduceCtorEq,reduceEqDiff,reduceLT,reduceLeDiff,reduceAdd,reduceMul,reduceSub,Nat.reduceBEq,Int.reduceToNat,Int.reduceLE,Int.reduceLT,Int.reduceNeg,reduceMod,gT,hs,hR]
 refine ⟨fun hb=>?_,fun hb=>?_⟩
 ·refine zaG (zhy bs hbs) .none (by simp (maxSteps:=9^7) -dsimp only [gr,reduceEqDiff,reduceLT,reduceAdd,reduceMod,Nat.reduceBEq,hR] <;> rfl) (GvL.one (zbS (by simp (maxSteps:=9^7) -dsimp only [gr,reduceEqDiff,reduceLT,reduceAdd,reduceMod,Nat.reduceBEq,hR] <;> rfl)) (by repeat (first | exact GvL.nil | refine GvL.one (GvA.v _) ?_ | refine GvL.one (GvA.sl _ _ _) ?_))) rfl (fun _ h=>by cases h) fun rv i3 g3 ⟨m,ys,hrv,hq2⟩=>?_
  subst hrv
  simp (maxSteps:=9^7) -dsimp only [↓gp,gq,reduceCtorEq,reduceEqDiff,reduceLT,reduceLeDiff,reduceAdd,reduceMul,reduceSub,Nat.reduceBEq,Int.reduceToNat,Int.reduceLE,Int.reduceLT,Int.reduceNeg,reduceMod,gT,hs,hR]
  refine ⟨by kernel_rfl,zlv (zcH bs hbs [2,3,2,5,3,4] (by decide) (by decide)) (zc8 _) (i:=i3) (h:=g3) (by simp (maxSteps:=9^7) -dsimp only [gr,reduceEqDiff,reduceLT,reduceAdd,reduceMod,Nat.reduceBEq] <;> rfl) (by simp (maxSteps:=9^7) -dsimp only [gr,reduceEqDiff,reduceLT,reduceAdd,reduceMod,Nat.reduceBEq,hR] <;> rfl) rfl rfl rfl ?_⟩
  obtain ⟨x,j4,g4,hr,hx⟩:=zA5 bs (l:=[2,3,2,5,3,4]) (by decide) i3 g3
  rw [hr]
  simp (maxSteps:=9^7) -dsimp only [↓gp,gq,reduceCtorEq,reduceEqDiff,reduceLT,reduceLeDiff,reduceAdd,reduceMul,reduceSub,Nat.reduceBEq,Int.reduceToNat,Int.reduceLE,Int.reduceLT,Int.reduceNeg,reduceMod,gT,hs,hR,zsT]
  exact ⟨by kernel_rfl,_,_,⟨m,ys,x,rfl,hq2⟩,.tup (.cons (.ag (.cons (.im _) (.cons (.fr (by simp (maxSteps:=9^7) -dsimp only [gr,reduceEqDiff,reduceLT,reduceAdd,reduceMod,Nat.reduceBEq] <;> rfl) (by decide)) .nil))) (.cons (.lf (.im _)) .nil)),by simp⟩
 ·refine ⟨by kernel_rfl,zlv (zcH bs hbs [2,3,2,5,3,4] (by decide) (by decide)) (zc8 _) (i:=i2) (h:=g2) (by simp (maxSteps:=9^7) -dsimp only [gr,reduceEqDiff,reduceLT,reduceAdd,reduceMod,Nat.reduceBEq] <;> rfl) (by simp (maxSteps:=9^7) -dsimp only [gr,reduceEqDiff,reduceLT,reduceAdd,reduceMod,Nat.reduceBEq,hR] <;> rfl) rfl rfl rfl ?_⟩
  obtain ⟨x,j4,g4,hr,hx⟩:=zA5 bs (l:=[2,3,2,5,3,4]) (by decide) i2 g2
  rw [hr]
  simp (maxSteps:=9^7) -dsimp only [↓gp,gq,reduceCtorEq,reduceEqDiff,reduceLT,reduceLeDiff,reduceAdd,reduceMul,reduceSub,Nat.reduceBEq,Int.reduceToNat,Int.reduceLE,Int.reduceLT,Int.reduceNeg,reduceMod,gT,hs,hR,zsT]
  exact ⟨by kernel_rfl,_,_,⟨n,xs,x,rfl,hq⟩,.tup (.cons (.ag (.cons (.im _) (.cons (.fr (by simp (maxSteps:=9^7) -dsimp only [gr,reduceEqDiff,reduceLT,reduceAdd,reduceMod,Nat.reduceBEq] <;> rfl) (by decide)) .nil))) (.cons (.lf (.im _)) .nil)),by simp⟩
theorem zh8 (n:Int) (xs:List Int) (p:Int):SqB (zfR n xs p):=by
 unfold zfR
 split
 ·rename_i h
  obtain ⟨h1,h6,_⟩:=za7.1 (zaO.1 h.1).1
  exact .of (zla _ p (n:=n.toNat) (by omega)) (by omega)
 ·exact .nil
theorem zjz (M:Mat):(M.map iL).map (fun r=>PV.sl false 1 r) = iLL M:=by unfold iLL;rw [List.map_map];rfl
theorem zcv (n:Int) (xs:List Int) (p:Int):AC Tryz.prog 36 [.ag [int n,zbr xs],int p] (.fr 24 1 (iLL (zfR n xs p))):=zjz (zfR n xs p) ▸ (zh3 n xs p).flat
theorem zcw (n:Int) (xs:List Int) (p:Int):AC Tryz.prog 22 [.ag [int n,zbr xs],int p] (.fr 24 1 (iLL (zfR n xs p))):=zjz (zfR n xs p) ▸ (zh2 n xs p).flat
noncomputable def zHa (n:Int) (xs:List Int) (p:Int):Int:=zlT (zfR n xs p) (zfR n xs p).length
theorem zgt (n:Int) (xs:List Int) (p:Int):AC Tryz.prog 20 [.ag [int n,zbr xs],int p] (.im (int (zHa n xs p))):=by
 refine AC.go (rs:=[.tmp 4]) za0 mixed Tryz.func20 rfl rfl rfl (by kernel_rfl) fun hl=>?_
 simp (maxSteps:=9^7) -dsimp only [↓gp,gq,reduceCtorEq,reduceEqDiff,reduceLT,reduceLeDiff,reduceAdd,reduceMul,reduceSub,Nat.reduceBEq,Int.reduceToNat,Int.reduceLE,Int.reduceLT,Int.reduceNeg,reduceMod,gT]
 refine zab (zcv n xs p) ?_
 have hsq:=zh8 n xs p
 unfold zHa
 generalize zfR n xs p = M at *
 have hl7:=hsq.len
 simp (maxSteps:=9^7) -dsimp only [↓gp,gq,reduceCtorEq,reduceEqDiff,reduceLT,reduceLeDiff,reduceAdd,reduceMul,reduceSub,Nat.reduceBEq,Int.reduceToNat,Int.reduceLE,Int.reduceLT,Int.reduceNeg,reduceMod,gT]
 refine zan (fun (i:Nat) s=>s.sl 5 = int (zlT M i)∧s.sl 6 = .own 11 1∧s.rw 11 = ⟨1,.sli 24 1 false (iLL M)⟩∧s.sl 7 = int i∧(i ≤ M.length)) (fun i=>M.length - i) (0) (by refine ⟨?_,?_,?_,?_,by omega⟩ <;> (first | (simp (maxSteps:=9^7) -dsimp only [gr,reduceEqDiff,reduceLT,reduceAdd,reduceMod,Nat.reduceBEq,zlT];first | done | rfl | (simp;done)) | assumption | rfl)) ?_
 intro i sa ⟨h5a,h6a,r11a,h7a,hIa⟩
 have hge:=zFe M i
 have hle:=zFf hsq i
 simp (maxSteps:=9^7) -dsimp only [↓gp,gq,reduceCtorEq,reduceEqDiff,reduceLT,reduceLeDiff,reduceAdd,reduceMul,reduceSub,Nat.reduceBEq,Int.reduceToNat,Int.reduceLE,Int.reduceLT,Int.reduceNeg,reduceMod,gT,h5a,h6a,r11a,h7a]
 refine ⟨fun h=>?_,fun h=>?_⟩
 ·have hr:=hsq.row i h
  have hlow:=zCt (M.getD i []) hge i (Nat.le_refl _)
  refine zan (fun (j:Nat) s=>s.sl 5 = int (zlS i (M.getD i []) (zlT M i) j)∧s.sl 6 = .own 11 1∧s.rw 11 = ⟨1,.sli 24 1 false (iLL M)⟩∧s.sl 7 = int i∧s.sl 8 = int j∧(i ≤ j∧j ≤ M.length)) (fun j=>M.length - j) (i) (by refine ⟨?_,?_,?_,?_,?_,by omega⟩ <;> (first | (simp (maxSteps:=9^7) -dsimp only [gr,reduceEqDiff,reduceLT,reduceAdd,reduceMod,Nat.reduceBEq,h5a,h6a,r11a,h7a,hlow];first | done | rfl | (simp;done)) | assumption | rfl)) ?_
  intro j sb ⟨h5b,h6b,r11b,h7b,h8b,hIb⟩
  simp (maxSteps:=9^7) -dsimp only [↓gp,gq,reduceCtorEq,reduceEqDiff,reduceLT,reduceLeDiff,reduceAdd,reduceMul,reduceSub,Nat.reduceBEq,Int.reduceToNat,Int.reduceLE,Int.reduceLT,Int.reduceNeg,reduceMod,gT,h5b,h6b,r11b,h7b,h8b]
  refine ⟨fun h2=>?_,fun h2=>?_⟩
  ·have hw:IntKind.i64.wrap ((j:Int) - (i:Int)) = (j:Int) - i:=zam (by omega) (by omega)
   simp (maxSteps:=9^7) -dsimp only [↓gp,gq,reduceCtorEq,reduceEqDiff,reduceLT,reduceLeDiff,reduceAdd,reduceMul,reduceSub,Nat.reduceBEq,Int.reduceToNat,Int.reduceLE,Int.reduceLT,Int.reduceNeg,reduceMod,gT,h5b,h6b,r11b,h7b,h8b,hr,hw]
   refine ⟨h,h,h2,h2,fun h0=>zab (zo5 _ _) ?_,fun h0=>?_⟩
   ·have e:zlS i (M.getD i []) (zlT M i) (j + 1) = max (zlS i (M.getD i []) (zlT M i) j) ((j:Int) - i):=by rw [zlS,if_neg (by simpa using h0)]
    simp (maxSteps:=9^7) -dsimp only [↓gp,gq,reduceCtorEq,reduceEqDiff,reduceLT,reduceLeDiff,reduceAdd,reduceMul,reduceSub,Nat.reduceBEq,Int.reduceToNat,Int.reduceLE,Int.reduceLT,Int.reduceNeg,reduceMod,gT,h5b,h6b,r11b,h7b,h8b,hr,hw]
    exact zac (j + 1) (by refine ⟨?_,?_,?_,?_,?_,by omega⟩ <;> (first | (simp (maxSteps:=9^7) -dsimp only [gr,reduceEqDiff,reduceLT,reduceAdd,reduceMod,Nat.reduceBEq,h5b,h6b,r11b,h7b,h8b,zaa h2 (by omega),e];first | done | rfl | (simp;done)) | assumption | rfl)) (by first | omega | (simp only;omega) | (dsimp only;omega) | (show _ < _;simp;omega))
   ·have e:zlS i (M.getD i []) (zlT M i) (j + 1) = zlS i (M.getD i []) (zlT M i) j:=by rw [zlS,if_pos (by simpa using h0)]
    exact zac (j + 1) (by refine ⟨?_,?_,?_,?_,?_,by omega⟩ <;> (first | (simp (maxSteps:=9^7) -dsimp only [gr,reduceEqDiff,reduceLT,reduceAdd,reduceMod,Nat.reduceBEq,h5b,h6b,r11b,h7b,h8b,zaa h2 (by omega),e];first | done | rfl | (simp;done)) | assumption | rfl)) (by first | omega | (simp only;omega) | (dsimp only;omega) | (show _ < _;simp;omega))
  ·have:j = (M.getD i []).length:=by omega
   subst this
   exact zac (i + 1) (by refine ⟨?_,?_,?_,?_,by omega⟩ <;> (first | (simp (maxSteps:=9^7) -dsimp only [gr,reduceEqDiff,reduceLT,reduceAdd,reduceMod,Nat.reduceBEq,h5a,h6a,r11a,h7a,h5b,h6b,r11b,h7b,h8b,zaa h (by omega),zlT];first | done | rfl | (simp;done)) | assumption | rfl)) (by first | omega | (simp only;omega) | (dsimp only;omega) | (show _ < _;simp;omega))
 ·have:i = M.length:=by omega
  rw [this]
theorem zc6 (M:Mat) (d:Int) (hsq:SqB M):AC Tryz.prog 24 [zo6 M,int d] (.im (bool (zwZ M d))):=by
 refine AC.go (rs:=[.tmp 4]) za0 mixed Tryz.func24 rfl rfl rfl (by kernel_rfl) fun hl=>?_
 have hl7:=hsq.len
 simp (maxSteps:=9^7) -dsimp only [↓gp,gq,reduceCtorEq,reduceEqDiff,reduceLT,reduceLeDiff,reduceAdd,reduceMul,reduceSub,Nat.reduceBEq,Int.reduceToNat,Int.reduceLE,Int.reduceLT,Int.reduceNeg,reduceMod,gT]
 refine zan (fun (i:Nat) s=>s.sl 1 = int d∧s.sl 9 = zo6 M∧s.sl 10 = int M.length∧s.sl 11 = int i∧(i ≤ M.length∧∀ a,1 ≤ a→a < i→∀ j,j < M.length→zlU M d a j)) (fun i=>M.length - i) (0) (by refine ⟨?_,?_,?_,?_,⟨by omega,fun a h1 h2=>by omega⟩⟩ <;> (first | (simp (maxSteps:=9^7) -dsimp only [gr,reduceEqDiff,reduceLT,reduceAdd,reduceMod,Nat.reduceBEq];first | done | rfl | (simp;done)) | assumption | rfl)) ?_
 intro i sa ⟨h1a,h9a,h10a,h11a,hIa⟩
 obtain ⟨hi,hall⟩:=hIa
 simp (maxSteps:=9^7) -dsimp only [↓gp,gq,reduceCtorEq,reduceEqDiff,reduceLT,reduceLeDiff,reduceAdd,reduceMul,reduceSub,Nat.reduceBEq,Int.reduceToNat,Int.reduceLE,Int.reduceLT,Int.reduceNeg,reduceMod,gT,h1a,h9a,h10a,h11a]
 refine ⟨fun h=>⟨h,h,?_⟩,fun h=>?_⟩
 ·have hr:=hsq.row i h
  refine zan (fun (j:Nat) s=>s.sl 1 = int d∧s.sl 5 = int i∧s.sl 9 = zo6 M∧s.sl 10 = int M.length∧s.sl 11 = int i∧s.sl 16 = .sl false 1 (iL (M.getD i []))∧s.sl 17 = int M.length∧s.sl 18 = int j∧(j ≤ M.length∧(1 ≤ i→∀ b,b < j→zlU M d i b))) (fun j=>M.length - j) (0) (by refine ⟨?_,?_,?_,?_,?_,?_,?_,?_,⟨by omega,fun h1 b h2=>by omega⟩⟩ <;> (first | (simp (maxSteps:=9^7) -dsimp only [gr,reduceEqDiff,reduceLT,reduceAdd,reduceMod,Nat.reduceBEq,h1a,h9a,h10a,h11a,hr];first | done | rfl | (simp;done)) | assumption | rfl)) ?_
  intro j sb ⟨h1b,h5b,h9b,h10b,h11b,h16b,h17b,h18b,hIb⟩
  obtain ⟨hj,hrow⟩:=hIb
  have hw1:j < M.length→IntKind.i64.wrap ((j:Int) - (i:Int)) = (j:Int) - i:=fun h=>zam (by omega) (by omega)
  have hw2:j < M.length→IntKind.i64.wrap ((j:Int) - (i:Int) + 1) = (j:Int) - i + 1:=fun h=>zam (by omega) (by omega)
  by_cases h2:j < M.length
  ·simp (maxSteps:=9^7) -dsimp only [↓gp,gq,reduceCtorEq,reduceEqDiff,reduceLT,reduceLeDiff,reduceAdd,reduceMul,reduceSub,Nat.reduceBEq,Int.reduceToNat,Int.reduceLE,Int.reduceLT,Int.reduceNeg,reduceMod,gT,h1b,h5b,h9b,h10b,h11b,h16b,h17b,h18b,hr,hw1 h2,hw2 h2]
   have go:(1 ≤ i→zlU M d i j)→1 ≤ i→∀ b,b < j + 1→zlU M d i b:=fun h0 h1 b hb=>by
    rcases Nat.lt_succ_iff_lt_or_eq.1 hb with hb | rfl
    ·exact hrow h1 b hb
    ·exact h0 h1
   refine ⟨fun _=>⟨h2,h2,fun h3=>⟨fun h4=>⟨fun h5=>zoI fun hg=>?_,fun h5=>?_⟩,fun h4=>?_⟩,fun h3=>?_⟩,fun h=>absurd h2 h⟩
   ·rcases hg i (by omega) h j h2 with e | e
    ·rw [e] at h4;simp at h4
    ·rw [e] at h5;simp at h5
   ·have hc:=go fun _=>.inr (by simpa using h5)
    exact zac (j + 1) (by refine ⟨?_,?_,?_,?_,?_,?_,?_,?_,⟨by omega,hc⟩⟩ <;> (first | (simp (maxSteps:=9^7) -dsimp only [gr,reduceEqDiff,reduceLT,reduceAdd,reduceMod,Nat.reduceBEq,h1b,h5b,h9b,h10b,h11b,h16b,h17b,h18b,zaa h2 (by omega)];first | done | rfl | (simp;done)) | assumption | rfl)) (by first | omega | (simp only;omega) | (dsimp only;omega) | (show _ < _;simp;omega))
   ·have hc:=go fun _=>.inl (by simpa using h4)
    exact zac (j + 1) (by refine ⟨?_,?_,?_,?_,?_,?_,?_,?_,⟨by omega,hc⟩⟩ <;> (first | (simp (maxSteps:=9^7) -dsimp only [gr,reduceEqDiff,reduceLT,reduceAdd,reduceMod,Nat.reduceBEq,h1b,h5b,h9b,h10b,h11b,h16b,h17b,h18b,zaa h2 (by omega)];first | done | rfl | (simp;done)) | assumption | rfl)) (by first | omega | (simp only;omega) | (dsimp only;omega) | (show _ < _;simp;omega))
   ·have hc:=go fun _=>by omega
    exact zac (j + 1) (by refine ⟨?_,?_,?_,?_,?_,?_,?_,?_,⟨by omega,hc⟩⟩ <;> (first | (simp (maxSteps:=9^7) -dsimp only [gr,reduceEqDiff,reduceLT,reduceAdd,reduceMod,Nat.reduceBEq,h1b,h5b,h9b,h10b,h11b,h16b,h17b,h18b,zaa h2 (by omega)];first | done | rfl | (simp;done)) | assumption | rfl)) (by first | omega | (simp only;omega) | (dsimp only;omega) | (show _ < _;simp;omega))
  ·simp (maxSteps:=9^7) -dsimp only [↓gp,gq,reduceCtorEq,reduceEqDiff,reduceLT,reduceLeDiff,reduceAdd,reduceMul,reduceSub,Nat.reduceBEq,Int.reduceToNat,Int.reduceLE,Int.reduceLT,Int.reduceNeg,reduceMod,gT,h1b,h5b,h9b,h10b,h11b,h16b,h17b,h18b,hr]
   refine ⟨fun h=>absurd h h2,fun _=>?_⟩
   exact zac (i + 1) (by refine ⟨?_,?_,?_,?_,⟨by omega,fun a h1 h3 b hb=>by
    by_cases e:a = i
    ·subst e;exact hrow h1 b (by omega)
    ·exact hall a h1 (by omega) b hb⟩⟩ <;> (first | (simp (maxSteps:=9^7) -dsimp only [gr,reduceEqDiff,reduceLT,reduceAdd,reduceMod,Nat.reduceBEq,h1a,h9a,h10a,h11a,h1b,h5b,h9b,h10b,h11b,h16b,h17b,h18b,zaa h (by omega)];first | done | rfl | (simp;done)) | assumption | rfl)) (by first | omega | (simp only;omega) | (dsimp only;omega) | (show _ < _;simp;omega))
 ·rw [zoH (fun a h1 h2=>hall a h1 (by omega))]
noncomputable def zvK (n:Int) (xs:List Int) (p d:Int):Bool:=decide (0 < (zfR n xs p).length) && zwZ (zfR n xs p) d
theorem zeF (n:Int) (xs:List Int) (p d:Int):AC Tryz.prog 10 [.ag [int n,zbr xs],int p,int d] (.im (bool (zvK n xs p d))):=by
 refine AC.go (rs:=[.tmp 6]) za0 mixed Tryz.func10 rfl rfl rfl (by kernel_rfl) fun hl=>?_
 simp (maxSteps:=9^7) -dsimp only [↓gp,gq,reduceCtorEq,reduceEqDiff,reduceLT,reduceLeDiff,reduceAdd,reduceMul,reduceSub,Nat.reduceBEq,Int.reduceToNat,Int.reduceLE,Int.reduceLT,Int.reduceNeg,reduceMod,gT]
 refine zab (zcw n xs p) ?_
 have hsq:=zh8 n xs p
 unfold zvK
 generalize zfR n xs p = M at *
 have hl7:=hsq.len
 simp (maxSteps:=9^7) -dsimp only [↓gp,gq,reduceCtorEq,reduceEqDiff,reduceLT,reduceLeDiff,reduceAdd,reduceMul,reduceSub,Nat.reduceBEq,Int.reduceToNat,Int.reduceLE,Int.reduceLT,Int.reduceNeg,reduceMod,gT]
 refine ⟨fun h=>zab (zc6 M d hsq) ?_,fun h=>?_⟩
 ·simp (maxSteps:=9^7) -dsimp only [↓gp,gq,reduceCtorEq,reduceEqDiff,reduceLT,reduceLeDiff,reduceAdd,reduceMul,reduceSub,Nat.reduceBEq,Int.reduceToNat,Int.reduceLE,Int.reduceLT,Int.reduceNeg,reduceMod,gT]
  have h:0 < M.length:=by omega
  simp [h]
 ·have:M.length = 0:=by omega
  simp [this]
theorem zeG (n:Int) (xs:List Int) (p d:Int):AC Tryz.prog 11 [.ag [int n,zbr xs],int p,int d] (.im (bool (zvK n xs p d))):=by
 refine AC.go (rs:=[.tmp 6]) za0 mixed Tryz.func11 rfl rfl rfl (by kernel_rfl) fun hl=>?_
 simp (maxSteps:=9^7) -dsimp only [↓gp,gq,reduceCtorEq,reduceEqDiff,reduceLT,reduceLeDiff,reduceAdd,reduceMul,reduceSub,Nat.reduceBEq,Int.reduceToNat,Int.reduceLE,Int.reduceLT,Int.reduceNeg,reduceMod,gT]
 refine zab (zcv n xs p) ?_
 have hsq:=zh8 n xs p
 unfold zvK
 generalize zfR n xs p = M at *
 have hl7:=hsq.len
 simp (maxSteps:=9^7) -dsimp only [↓gp,gq,reduceCtorEq,reduceEqDiff,reduceLT,reduceLeDiff,reduceAdd,reduceMul,reduceSub,Nat.reduceBEq,Int.reduceToNat,Int.reduceLE,Int.reduceLT,Int.reduceNeg,reduceMod,gT]
 refine zan (fun (i:Nat) s=>s.sl 2 = int d∧s.sl 7 = .own 12 1∧s.rw 12 = ⟨1,.sli 24 1 false (iLL M)⟩∧s.sl 8 = int i∧(1 ≤ i∧(i ≤ M.length ∨ M.length = 0)∧∀ a,1 ≤ a→a < i→∀ j,j < M.length→zlU M d a j)) (fun i=>M.length - i) (1) (by refine ⟨?_,?_,?_,?_,⟨by omega,by omega,fun a h1 h2=>by omega⟩⟩ <;> (first | (simp (maxSteps:=9^7) -dsimp only [gr,reduceEqDiff,reduceLT,reduceAdd,reduceMod,Nat.reduceBEq];first | done | rfl | (simp;done)) | assumption | rfl)) ?_
 intro i sa ⟨h2a,h7a,r12a,h8a,hIa⟩
 obtain ⟨hi,hi2,hall⟩:=hIa
 simp (maxSteps:=9^7) -dsimp only [↓gp,gq,reduceCtorEq,reduceEqDiff,reduceLT,reduceLeDiff,reduceAdd,reduceMul,reduceSub,Nat.reduceBEq,Int.reduceToNat,Int.reduceLE,Int.reduceLT,Int.reduceNeg,reduceMod,gT,h2a,h7a,r12a,h8a]
 refine ⟨fun h=>?_,fun h=>?_⟩
 ·have hr:=hsq.row i h
  refine zan (fun (j:Nat) s=>s.sl 2 = int d∧s.sl 7 = .own 12 1∧s.rw 12 = ⟨1,.sli 24 1 false (iLL M)⟩∧s.sl 8 = int i∧s.sl 9 = int j∧(j ≤ M.length∧(1 ≤ i→∀ b,b < j→zlU M d i b))) (fun j=>M.length - j) (0) (by refine ⟨?_,?_,?_,?_,?_,⟨by omega,fun h1 b h2=>by omega⟩⟩ <;> (first | (simp (maxSteps:=9^7) -dsimp only [gr,reduceEqDiff,reduceLT,reduceAdd,reduceMod,Nat.reduceBEq,h2a,h7a,r12a,h8a];first | done | rfl | (simp;done)) | assumption | rfl)) ?_
  intro j sb ⟨h2b,h7b,r12b,h8b,h9b,hIb⟩
  obtain ⟨hj,hrow⟩:=hIb
  have hw1:j < M.length→IntKind.i64.wrap ((j:Int) - (i:Int)) = (j:Int) - i:=fun h=>zam (by omega) (by omega)
  have hw2:j < M.length→IntKind.i64.wrap ((j:Int) - (i:Int) + 1) = (j:Int) - i + 1:=fun h=>zam (by omega) (by omega)
  by_cases h2:j < M.length
  ·have hM:decide (M.length > 0) = true:=decide_eq_true (by omega)
   simp (maxSteps:=9^7) -dsimp only [↓gp,gq,reduceCtorEq,reduceEqDiff,reduceLT,reduceLeDiff,reduceAdd,reduceMul,reduceSub,Nat.reduceBEq,Int.reduceToNat,Int.reduceLE,Int.reduceLT,Int.reduceNeg,reduceMod,gT,h2b,h7b,r12b,h8b,h9b,hr,hw1 h2,hw2 h2]
   have go:(1 ≤ i→zlU M d i j)→1 ≤ i→∀ b,b < j + 1→zlU M d i b:=fun h0 h1 b hb=>by
    rcases Nat.lt_succ_iff_lt_or_eq.1 hb with hb | rfl
    ·exact hrow h1 b hb
    ·exact h0 h1
   refine ⟨fun _=>⟨h,h,h2,h2,fun h4=>⟨fun h5=>?_,fun h5=>?_⟩,fun h4=>?_⟩,fun h=>absurd h2 h⟩
   ·have:zwZ M d = false:=zoI fun hg=>by
     rcases hg i (by omega) h j h2 with e | e
     ·rw [e] at h4;simp at h4
     ·rw [e] at h5;simp at h5
    rw [this];simp
   ·have hc:=go fun _=>.inr (by simpa using h5)
    exact zac (j + 1) (by refine ⟨?_,?_,?_,?_,?_,⟨by omega,hc⟩⟩ <;> (first | (simp (maxSteps:=9^7) -dsimp only [gr,reduceEqDiff,reduceLT,reduceAdd,reduceMod,Nat.reduceBEq,h2b,h7b,r12b,h8b,h9b,zaa h2 (by omega)];first | done | rfl | (simp;done)) | assumption | rfl)) (by first | omega | (simp only;omega) | (dsimp only;omega) | (show _ < _;simp;omega))
   ·have hc:=go fun _=>.inl (by simpa using h4)
    exact zac (j + 1) (by refine ⟨?_,?_,?_,?_,?_,⟨by omega,hc⟩⟩ <;> (first | (simp (maxSteps:=9^7) -dsimp only [gr,reduceEqDiff,reduceLT,reduceAdd,reduceMod,Nat.reduceBEq,h2b,h7b,r12b,h8b,h9b,zaa h2 (by omega)];first | done | rfl | (simp;done)) | assumption | rfl)) (by first | omega | (simp only;omega) | (dsimp only;omega) | (show _ < _;simp;omega))
  ·simp (maxSteps:=9^7) -dsimp only [↓gp,gq,reduceCtorEq,reduceEqDiff,reduceLT,reduceLeDiff,reduceAdd,reduceMul,reduceSub,Nat.reduceBEq,Int.reduceToNat,Int.reduceLE,Int.reduceLT,Int.reduceNeg,reduceMod,gT,h2b,h7b,r12b,h8b,h9b,hr]
   refine ⟨fun h=>absurd h h2,fun _=>?_⟩
   exact zac (i + 1) (by refine ⟨?_,?_,?_,?_,⟨by omega,by omega,fun a h1 h3 b hb=>by
    by_cases e:a = i
    ·subst e;exact hrow h1 b (by omega)
    ·exact hall a h1 (by omega) b hb⟩⟩ <;> (first | (simp (maxSteps:=9^7) -dsimp only [gr,reduceEqDiff,reduceLT,reduceAdd,reduceMod,Nat.reduceBEq,h2a,h7a,r12a,h8a,h2b,h7b,r12b,h8b,h9b,zaa h (by omega)];first | done | rfl | (simp;done)) | assumption | rfl)) (by first | omega | (simp only;omega) | (dsimp only;omega) | (show _ < _;simp;omega))
 ·have:zwZ M d = true:=zoH fun a h1 h2=>hall a h1 (by omega)
  rw [this]
  simp
theorem zh6 (n:Int) (xs:List Int) (p:Int):AC Tryz.prog 13 [.ag [int n,zbr xs],int p] (.fr 24 1 (iLL (dtR n xs p))):=zjz (dtR n xs p) ▸ (ziZ n xs p).flat
theorem zh7 (n:Int) (xs:List Int) (p:Int):AC Tryz.prog 8 [.ag [int n,zbr xs],int p] (.fr 24 1 (iLL (dtR n xs p))):=zjz (dtR n xs p) ▸ (ziH n xs p).flat
theorem zoJ {p:Int} (h:isP p = true):∃ q:Nat,p = q∧q ≠ 0:=by
 unfold isP at h
 simp only [Bool.or_eq_true,beq_iff_eq] at h
 rcases h with (rfl | rfl) | rfl
 ·exact ⟨2,rfl,by decide⟩
 ·exact ⟨3,rfl,by decide⟩
 ·exact ⟨5,rfl,by decide⟩
theorem zfM {n:Int} {xs:List Int} (h:zgC n xs = true):∃ m:Nat,n = m∧1 ≤ m∧m ≤ 6∧zew (zag xs)∧zag xs 0 = true∧∀ s,s < 64→zag xs s = true→s < 2 ^ m:=by
 obtain ⟨hcx,hpos⟩:=zaO.1 h
 obtain ⟨h1,h6,h3⟩:=za7.1 hcx
 obtain ⟨m,rfl⟩:∃ m:Nat,n = m:=⟨n.toNat,by omega⟩
 refine ⟨m,rfl,by omega,by omega,fun s t hs ht=>znv hs ht,?_,fun s hs hf=>?_⟩
 ·cases xs with
  | nil=>simp at hpos
  | cons x l=>exact zbz.2 ⟨x,by simp,by simp⟩
 ·obtain ⟨x,hx,e⟩:=zbz.1 hf
  obtain ⟨i,hi,rfl⟩:=zcN 0 hx
  obtain ⟨m2,t,e1,e2,h2,h3⟩:=zk1 (h3 i hi).1
  have:m = m2:=by omega
  subst this
  rw [e2,Int.toNat_natCast] at e
  have:=Nat.and_le_left (n:=t) (m:=s)
  omega
theorem zG5 (n:Int) (xs:List Int) (p:Int):dtR n xs p = zfR n xs p:=by
 unfold dtR zfR
 by_cases h:zgC n xs = true∧isP p = true
 ·rw [if_pos h,if_pos h]
  obtain ⟨m,rfl,h1,h6,hd,h0,_⟩:=zfM h.1
  obtain ⟨q,rfl,hq⟩:=zoJ h.2
  haveI:NeZero q:=⟨hq⟩
  exact (zoy (p:=q) h.2 hd h0 h6).symm
 ·rw [if_neg h,if_neg h]
theorem zrM {n:Int} {xs:List Int} {p:Int} (h:zgC n xs = true∧isP p = true):∃ m:Nat,n = m∧m ≤ 6∧(zfR n xs p).length = m + 1∧(∀ i,i < m + 1→((zfR n xs p).getD i []).length = m + 1) ∧
 ∀ k:Nat,1 ≤ k→((zfR n xs p).getD 1 []).getD k 0 = (((zfq n xs).filter fun s=>zak s == k).length:Int):=by
 obtain ⟨m,rfl,h1,h6,hd,h0,hs⟩:=zfM h.1
 obtain ⟨q,rfl,hq⟩:=zoJ h.2
 haveI:NeZero q:=⟨hq⟩
 have e:zfR (m:Int) xs q = zlM (zag xs) q m:=by unfold zfR;rw [if_pos h];rfl
 have hsq:=zla (zag xs) q h6
 rw [e]
 refine ⟨m,rfl,h6,hsq.len,hsq.row,fun k hk=>?_⟩
 have:=zCr (p:=q) h.2 hd h0 h6 hk
 unfold ent at this
 rw [this]
 congr 3
 unfold zfq
 refine zw5 (fun s hs64=>?_) false
 unfold zf9
 have e2:zby (m:Int) (s:Int) = decide (s < 2 ^ m):=by
  unfold zby
  rw [zbO]
  exact decide_eq_decide.2 ⟨fun h=>by have:=h.2.2.2;omega,fun h=>⟨by omega,by omega,by omega,by omega⟩⟩
 rw [(zaO.1 h.1).1,Bool.true_and,e2]
def zHl (f:Nat→Bool) (p:Int):Bool:=decide (zaB f 64 ≠ 0) && decide (zFF f p = (zba f:Int) - 1)
noncomputable def cmO (n:Int) (xs:List Int) (p:Int):Bool:=zcV n xs && (isP p && zHl (zag xs) p)
theorem zD2 (n:Int) (xs:List Int):-2 ≤ zwO n xs∧zwO n xs ≤ 100000000:=by
 unfold zwO
 split
 ·rename_i h
  obtain ⟨hcx,hpos⟩:=zaO.1 h
  have:=zdZ hcx _ (zax 0 (show xs.length - 1 < xs.length by omega))
  have:=zcq (s:=(xs.getD (xs.length - 1) 0).toNat) (by omega)
  omega
 ·omega
theorem zBl {n:Int} {xs:List Int} (h:zcV n xs = true):∀ x ∈ xs,zak x.toNat ≤ zak (xs.getD (xs.length - 1) 0).toNat:=fun x hx=>by
 obtain ⟨_,_,h3⟩:=za7.1 h
 have hok:=zdZ h
 have hle:∀ j,j < xs.length→∀ i,i ≤ j→zak (xs.getD i 0).toNat ≤ zak (xs.getD j 0).toNat:=by
  intro j
  induction j with
  | zero=>intro _ i hi;rw [show i = 0 by omega];exact Nat.le_refl _
  | succ j ih =>
    intro hj i hi
    have h1:=(h3 (j + 1) hj).2.1 (by omega)
    rw [Nat.add_sub_cancel] at h1
    have q1:=hok _ (zax 0 hj)
    have q2:=hok _ (zax 0 (show j < xs.length by omega))
    unfold zl4 at h1
    rw [zvn q1,zvn q2] at h1
    simp only [Bool.and_eq_true,decide_eq_true_eq] at h1
    have hs:zak (xs.getD j 0).toNat ≤ zak (xs.getD (j + 1) 0).toNat:=by
     have h2:=h1.2.2
     split at h2
     ·omega
     ·have:=of_decide_eq_true h2;omega
    by_cases e:i = j + 1
    ·rw [e];exact Nat.le_refl _
    ·exact Nat.le_trans (ih (by omega) i (by omega)) hs
 obtain ⟨i,hi,rfl⟩:=zcN 0 hx
 exact hle (xs.length - 1) (by omega) i (by omega)
theorem zFE {n:Int} {xs:List Int} (h:zgC n xs = true):zwO n xs + 1 = (zba (zag xs):Int) - 1:=by
 obtain ⟨hcx,hpos⟩:=zaO.1 h
 have hok:=zdZ hcx
 have e:zwO n xs = (zak (xs.getD (xs.length - 1) 0).toNat:Int) - 1:=if_pos h
 have hl:=zax 0 (show xs.length - 1 < xs.length by omega)
 have hlast:=hok _ hl
 have hf:zag xs (xs.getD (xs.length - 1) 0).toNat = true:=zbz.2 ⟨_,hl,Nat.and_self _⟩
 have h1:=zfe 64 _ (by omega) hf
 have hdn:zba (zag xs) = zhl (zag xs) 64:=rfl
 obtain ⟨T,a,b,c⟩:=zhU (f:=zag xs) 64 (by omega)
 obtain ⟨x,hx,hxT⟩:=zbz.1 b
 have h2:=zBl hcx x hx
 have h3:=zCj (s:=x.toNat) (t:=T) (by have:=hok x hx;omega) hxT
 omega
theorem zxg {n:Int} {xs:List Int} (h:zcV n xs = true) (h2:¬ zgC n xs = true):xs = []:=by
 cases xs with
 | nil=>rfl
 | cons a l=>exact absurd (zaO.2 ⟨h,by simp⟩) h2
theorem zxh {n:Int} {xs:List Int} {p:Int} (h:zgC n xs = true) (hp:isP p = true):∃ (m q d:Nat) (_:NeZero q),n = m∧p = q∧1 ≤ m∧m ≤ 6∧zsJ q (zag xs) m d∧zrV n xs p = d∧zFF (zag xs) p = d∧(d:Int) ≤ (zba (zag xs):Int) - 1:=by
 obtain ⟨m,rfl,h1,h6,hd,h0,hs⟩:=zfM h
 obtain ⟨q,rfl,hq⟩:=zoJ hp
 haveI:NeZero q:=⟨hq⟩
 obtain ⟨d,a,b,c,e⟩:=zD4 (m:=m) hp hd h0 h6 hs
 exact ⟨m,q,d,inferInstance,rfl,rfl,h1,h6,a,by rw [zrV,if_pos ⟨(zaO.1 h).1,hp⟩];exact b,c,e⟩
theorem zsW {xs:List Int} (h:zag xs 0 = true):zaB (zag xs) 64 ≠ 0:=fun e=>by
 have:=zbm (zag xs) (s:=0) (by decide)
 rw [e,h,Nat.zero_testBit] at this;cases this
theorem zHm (n:Int) (xs:List Int) (p:Int):(decide (0 ≤ zrV n xs p) && decide (zrV n xs p = zwO n xs + 1)) = cmO n xs p:=by
 unfold cmO
 by_cases hp:isP p = true
 ·by_cases h:zgC n xs = true
  ·obtain ⟨m,q,d,_,rfl,rfl,h1,h6,hd,e1,e2,e3⟩:=zxh h hp
   have h0:=(zfM h).choose_spec.2.2.2.2.1
   unfold zHl
   rw [(zaO.1 h).1,hp,e1,e2,zFE h,decide_eq_true (zsW h0),decide_eq_true (by omega)]
   rfl
  ·cases hc:zcV n xs with
   | false =>
     have:zrV n xs p = -1:=if_neg fun h=>by rw [h.1] at hc;cases hc
     rw [this];rfl
   | true =>
     have hx:=zxg hc h
     subst hx
     have e1:zrV n [] p = -1:=by rw [zrV,if_pos ⟨hc,hp⟩];rfl
     rw [e1,hp];rfl
 ·have:zrV n xs p = -1:=if_neg fun h=>hp h.2
  rw [this,show isP p = false by simpa using hp];simp
theorem zcx (n:Int) (xs:List Int) (p:Int):AC Tryz.prog 18 [.ag [int n,zbr xs],int p] (.im (bool (cmO n xs p))):=by
 refine AC.go (rs:=[.tmp 4]) za0 mixed Tryz.func18 rfl rfl rfl (by kernel_rfl) fun hl=>?_
 simp (maxSteps:=9^7) -dsimp only [↓gp,gq,reduceCtorEq,reduceEqDiff,reduceLT,reduceLeDiff,reduceAdd,reduceMul,reduceSub,Nat.reduceBEq,Int.reduceToNat,Int.reduceLE,Int.reduceLT,Int.reduceNeg,reduceMod,gT]
 refine zab (zlG n xs p) ?_
 simp (maxSteps:=9^7) -dsimp only [↓gp,gq,reduceCtorEq,reduceEqDiff,reduceLT,reduceLeDiff,reduceAdd,reduceMul,reduceSub,Nat.reduceBEq,Int.reduceToNat,Int.reduceLE,Int.reduceLT,Int.reduceNeg,reduceMod,gT]
 rw [← zHm]
 have hb:=zD2 n xs
 have hw:IntKind.i64.wrap (zwO n xs + 1) = zwO n xs + 1:=zam (by omega) (by omega)
 refine ⟨fun h=>zab (zfj n xs) ?_,fun h=>?_⟩
 ·simp (maxSteps:=9^7) -dsimp only [↓gp,gq,reduceCtorEq,reduceEqDiff,reduceLT,reduceLeDiff,reduceAdd,reduceMul,reduceSub,Nat.reduceBEq,Int.reduceToNat,Int.reduceLE,Int.reduceLT,Int.reduceNeg,reduceMod,gT,hw]
  rw [decide_eq_true h]
  rfl
 ·rw [decide_eq_false h];rfl
section
variable {items:List Int} {f:FuncId} {fl:List Bool} {p:PV} {Kp:PV→Prop}
end
end Go.Proofs.YtjikeknpidbceaaGreatDoor

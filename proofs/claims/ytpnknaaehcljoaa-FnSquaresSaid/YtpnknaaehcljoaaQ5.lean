/- DERIVED by an AI agent. -/
import Derived.Test.YtpnknaaehcljoaaQ4
import Derived.Test.YtpnknaaehcljoaaQ3
import Derived.Test.YtpnknaaehcljoaaQ2
import Derived.Test.YtpnknaaehcljoaaP1
import Derived.Test.YtpnknaaehcljoaaQ1
import Derived.Test.YtpnknaaehcljoaaA12
namespace Go.Proofs.Ytpnknaaehcljoaa
open Go.Abs
open Nat (reduceEqDiff reduceMod reduceAdd reduceLT reduceLeDiff reduceSub reduceMul)
set_option linter.unusedSimpArgs false
set_option linter.unusedVariables false
theorem zeL (n:Int) (xs:List Int):AC Try.prog 91 [.ag [int n,zbr xs]] (.im (bool (zfC n xs))):=by
 refine AC.go (rs:=[.tmp 2]) zbq zaD Try.func91 rfl rfl rfl (by kernel_rfl) fun hl=>?_
 simp (maxSteps:=5000000) -dsimp only [↓gp,gq,reduceCtorEq,reduceEqDiff,reduceLT,reduceLeDiff,reduceAdd,reduceMul,reduceSub,Nat.reduceBEq,Int.reduceToNat,Int.reduceLE,Int.reduceLT,Int.reduceNeg,reduceMod,zac,zad,zab,zaa,gT,TK.isInt,TK.agg,Array.toList]
 refine zak (zcq n xs) ?_
 simp (maxSteps:=5000000) -dsimp only [↓gp,gq,reduceCtorEq,reduceEqDiff,reduceLT,reduceLeDiff,reduceAdd,reduceMul,reduceSub,Nat.reduceBEq,Int.reduceToNat,Int.reduceLE,Int.reduceLT,Int.reduceNeg,reduceMod,zac,zad,zab,zaa,gT,TK.isInt,TK.agg,Array.toList]
def zpw (s:Nat) (i:Nat):List Int:=(List.range i).map fun j=>((zaX (s / 4 ^ j % 4):Nat):Int)
theorem zwD (s i:Nat):zpw s (i + 1) = zpw s i ++ [((zaX (s / 4 ^ i % 4):Nat):Int)]:=by unfold zpw;rw [List.range_succ,List.map_append];rfl
theorem zDc (s:Nat):zpw s 3 = [((zaX (s % 4):Nat):Int),((zaX (s / 4 % 4):Nat):Int),((zaX (s / 16 % 4):Nat):Int)]:=by simp [zpw,List.range,List.range.loop]
theorem zAo:∀ s,s < 64→∀ i,i < 3→zet .i64 (zkG .i64 (s:Nat) (IntKind.u64.wrap (IntKind.i64.wrap (2 * (i:Nat))))) 3 = ((s / 4 ^ i % 4:Nat):Int):=by decide +kernel
theorem zx7:∀ s,s < 64→zet .i64 (s:Nat) 3 = ((s % 4:Nat):Int)∧zet .i64 (zkG .i64 (s:Nat) 2) 3 = ((s / 4 % 4:Nat):Int)∧zet .i64 (zkG .i64 (s:Nat) 4) 3 = ((s / 16 % 4:Nat):Int):=by decide +kernel
def zev (xs:List Int):List (List Int):=xs.map fun s=>zpw s.toNat 3
theorem zhC (xs:List Int):(zev xs).length = xs.length:=by simp [zev]
theorem zow {xs:List Int} {k:Nat} (h:k < xs.length):zev (xs.take (k + 1)) = zev (xs.take k) ++ [zpw (xs.getD k 0).toNat 3]:=by rw [zaF 0 h];simp [zev]
noncomputable def zw9 (n:Int) (xs:List Int):List (List Int):=if zfC n xs = true∧n = 6 then mkV (zev xs) else []
noncomputable def zoH (n:Int) (xs:List Int):Bool:=zfC n xs && decide (n = 6) && mkB (zev xs)
theorem zlO {n:Int} {xs:List Int} (h:zfC n xs = true):∀ x ∈ xs,0 ≤ x∧x < 64:=fun x hx=>by
 obtain ⟨i,hi,rfl⟩:=zbz 0 hx
 exact zeh ((zfD.1 h).2.2 i hi).1
theorem zr8 {n:Int} {xs:List Int} (h:zfC n xs = true):xs.length ≤ 64:=by
 have hn:=zxV (zfD.1 h)
 have hx:=zlO h
 have h2:(xs.map Int.toNat).Nodup:=by
  refine List.Pairwise.map _ (fun a b=>?_) (List.Pairwise.imp_of_mem (S:=fun a b=>0 ≤ a∧0 ≤ b∧a ≠ b) (fun ha hb hab=>⟨(hx _ ha).1,(hx _ hb).1,hab⟩) hn)
  intro ⟨q1,q2,q3⟩ e
  omega
 refine Classical.byContradiction fun hc=>?_
 have:=(zpn (m:=List.range 64) h2 (fun x hx'=>?_) (by simp;omega)).length_eq
 ·simp at this;omega
 ·obtain ⟨y,hy,rfl⟩:=List.mem_map.1 hx'
  have:=hx y hy
  exact List.mem_range.2 (by omega)
theorem zi9 (l:List (List Int)):(mkV l).length ≤ 27:=by
 unfold mkV;split
 ·exact zpy l 27
 ·decide
theorem zfL (n:Int) (xs:List Int):AC Try.prog 21 [.ag [int n,zbr xs]] (.tup [.ag [.tb 22 3 ((zw9 n xs).map iL)],.im (bool (zoH n xs))]):=by
 refine AC.go (rs:=[.cell 2 35,.tmp 3]) zbq zaD Try.func21 rfl rfl rfl (by kernel_rfl) fun hl=>?_
 simp (maxSteps:=5000000) -dsimp only [↓gp,gq,reduceCtorEq,reduceEqDiff,reduceLT,reduceLeDiff,reduceAdd,reduceMul,reduceSub,Nat.reduceBEq,Int.reduceToNat,Int.reduceLE,Int.reduceLT,Int.reduceNeg,reduceMod,zac,zad,zab,zaa,gT,TK.isInt,TK.agg,Array.toList]
 refine zak (zeL n xs) ?_
 simp (maxSteps:=5000000) -dsimp only [↓gp,gq,reduceCtorEq,reduceEqDiff,reduceLT,reduceLeDiff,reduceAdd,reduceMul,reduceSub,Nat.reduceBEq,Int.reduceToNat,Int.reduceLE,Int.reduceLT,Int.reduceNeg,reduceMod,zac,zad,zab,zaa,gT,TK.isInt,TK.agg,Array.toList]
 refine ⟨fun hc=>⟨fun h6=>?_,fun h6=>?_⟩,fun hc=>?_⟩
 ·have h6:¬ n = 6:=by simpa using h6
  have e1:zw9 n xs = []:=if_neg fun h=>h6 h.2
  have e2:zoH n xs = false:=by unfold zoH;rw [decide_eq_false h6];simp
  rw [e1,e2];exact ⟨rfl,rfl⟩
 ·have h6:n = 6:=by simpa using h6
  have hc:zfC n xs = true:=by simpa using hc
  have hlen:=zr8 hc
  have hok:=zlO hc
  have e1:zw9 n xs = mkV (zev xs):=if_pos ⟨hc,h6⟩
  have e2:zoH n xs = mkB (zev xs):=by unfold zoH;rw [hc,decide_eq_true h6];rfl
  rw [e1,e2]
  refine zhx (k:=19) (v:=1) (e:=22) (e2:=3) (by simp (maxSteps:=5000000) -dsimp only [gr,reduceEqDiff,reduceLT,reduceAdd,reduceMod,Nat.reduceBEq,zaa,zac,zad,zab]) (fun i=>by simp (maxSteps:=5000000) -dsimp only [gr,reduceEqDiff,reduceLT,reduceAdd,reduceMod,Nat.reduceBEq,zaa,zac,zad,zab]) (fun (za:Nat × Nat) s=>match za with | (k,v)=>s.sl 1 = .ref 1 1 0∧s.rw 1 = ⟨1,.box 38 [int n,zbr xs]⟩∧s.sl 2 = .ref 2 1 0∧s.rw 2 = ⟨1,.box 35 [.v (.slice none 0 0)]⟩∧s.sl 4 = .own 19 v∧s.sl 5 = int k∧(k ≤ xs.length∧TabG s.rw 19 v 22 3 (zev (xs.take k)).length (zev (xs.take k))∧s.rw 8 = ⟨0,.dead⟩∧s.rw 52 = ⟨0,.dead⟩∧∀ i,s.rw (sid 52 i) = ⟨0,.dead⟩)) (fun (k,v)=>xs.length - k) ((0,1)) (fun sX htX hslX hoX=>(by refine ⟨?_,?_,?_,?_,?_,?_,⟨by omega,htX,by rw [hoX _ (by decide)];simp (maxSteps:=5000000) -dsimp only [gr,reduceEqDiff,reduceLT,reduceAdd,reduceMod,Nat.reduceBEq,zaa,zac,zad,zab],by rw [hoX _ (by decide)];simp (maxSteps:=5000000) -dsimp only [gr,reduceEqDiff,reduceLT,reduceAdd,reduceMod,Nat.reduceBEq,zaa,zac,zad,zab],fun i=>by rw [hoX _ (by rw [zaa];decide)];simp (maxSteps:=5000000) -dsimp only [gr,reduceEqDiff,reduceLT,reduceAdd,reduceMod,Nat.reduceBEq,zaa,zac,zad,zab]⟩⟩ <;> (first | (simp (maxSteps:=5000000) -dsimp only [gr,reduceEqDiff,reduceLT,reduceAdd,reduceMod,Nat.reduceBEq,zaa,zac,zad,zab,hslX,hoX];first | done | rfl | (simp;done)) | assumption | rfl))) ?_
  intro (k,v) sa ⟨h1a,r1a,h2a,r2a,h4a,h5a,hIa⟩
  obtain ⟨hk,hta,hd8,hd52,hdi⟩:=hIa
  simp (maxSteps:=5000000) -dsimp only [↓gp,gq,reduceCtorEq,reduceEqDiff,reduceLT,reduceLeDiff,reduceAdd,reduceMul,reduceSub,Nat.reduceBEq,Int.reduceToNat,Int.reduceLE,Int.reduceLT,Int.reduceNeg,reduceMod,zac,zad,zab,zaa,gT,TK.isInt,TK.agg,Array.toList,h1a,r1a,h2a,r2a,h4a,h5a]
  refine ⟨fun h=>?_,fun h=>?_⟩
  ·obtain ⟨u,hs⟩:∃ u:Nat,xs.getD k 0 = u:=⟨(xs.getD k 0).toNat,by have:=hok _ (zaC 0 h);omega⟩
   have hs64:u < 64:=by have:=hok _ (zaC 0 h);omega
   have hz:iL (zpw u 0) = []:=rfl
   refine zas (fun (zb:Nat × Nat) s=>match zb with | (i,w)=>s.sl 1 = .ref 1 1 0∧s.rw 1 = ⟨1,.box 38 [int n,zbr xs]⟩∧s.sl 2 = .ref 2 1 0∧s.rw 2 = ⟨1,.box 35 [.v (.slice none 0 0)]⟩∧s.sl 4 = .own 19 v∧s.sl 5 = int k∧s.sl 6 = .own 27 w∧s.rw 27 = ⟨w,.sli 3 1 false (iL (zpw u i))⟩∧s.sl 7 = int i∧(i ≤ 3∧TabG s.rw 19 v 22 3 (zev (xs.take k)).length (zev (xs.take k))∧s.rw 8 = ⟨0,.dead⟩∧s.rw 52 = ⟨0,.dead⟩∧∀ i,s.rw (sid 52 i) = ⟨0,.dead⟩)) (fun (i,w)=>3 - i) ((0,(sa.rw 27).ver + 1)) (by refine ⟨?_,?_,?_,?_,?_,?_,?_,?_,?_,⟨by omega,hta.same (by simp (maxSteps:=5000000) -dsimp only [gr,reduceEqDiff,reduceLT,reduceAdd,reduceMod,Nat.reduceBEq,zaa,zac,zad,zab]) (fun x=>by simp (maxSteps:=5000000) -dsimp only [gr,reduceEqDiff,reduceLT,reduceAdd,reduceMod,Nat.reduceBEq,zaa,zac,zad,zab]),by simp (maxSteps:=5000000) -dsimp only [gr,reduceEqDiff,reduceLT,reduceAdd,reduceMod,Nat.reduceBEq,zaa,zac,zad,zab,hd8],by simp (maxSteps:=5000000) -dsimp only [gr,reduceEqDiff,reduceLT,reduceAdd,reduceMod,Nat.reduceBEq,zaa,zac,zad,zab,hd52],fun i=>by simp (maxSteps:=5000000) -dsimp only [gr,reduceEqDiff,reduceLT,reduceAdd,reduceMod,Nat.reduceBEq,zaa,zac,zad,zab,hdi]⟩⟩ <;> (first | (simp (maxSteps:=5000000) -dsimp only [gr,reduceEqDiff,reduceLT,reduceAdd,reduceMod,Nat.reduceBEq,zaa,zac,zad,zab,h1a,r1a,h2a,r2a,h4a,h5a,hz];first | done | rfl | (simp;done)) | assumption | rfl)) ?_
   intro (i,w) sb ⟨h1b,r1b,h2b,r2b,h4b,h5b,h6b,r27b,h7b,hIb⟩
   obtain ⟨hi,htb,hd8,hd52,hdi⟩:=hIb
   have hgl:(zpw u i).length = i:=by simp [zpw]
   by_cases hi3:i < 3
   ·have hga:=zAo u hs64 i hi3
    have hn2:0 ≤ IntKind.u64.wrap (IntKind.i64.wrap (2 * (i:Int))):=by
     rw [zaq (by omega) (by omega)]
     have:=zba (a:=2 * i) (by omega)
     rw [show ((2 * i:Nat):Int) = 2 * (i:Int) by omega] at this
     rw [this];omega
    have hgs:=zwD u i
    simp (maxSteps:=5000000) -dsimp only [↓gp,gq,reduceCtorEq,reduceEqDiff,reduceLT,reduceLeDiff,reduceAdd,reduceMul,reduceSub,Nat.reduceBEq,Int.reduceToNat,Int.reduceLE,Int.reduceLT,Int.reduceNeg,reduceMod,zac,zad,zab,zaa,gT,TK.isInt,TK.agg,Array.toList,h1b,r1b,h2b,r2b,h4b,h5b,h6b,r27b,h7b,hs,hga]
    refine ⟨fun _=>⟨h,h,hn2,zak (zbJ (u / 4 ^ i % 4) (by omega)) ?_⟩,fun h=>absurd (by omega) h⟩
    simp (maxSteps:=5000000) -dsimp only [↓gp,gq,reduceCtorEq,reduceEqDiff,reduceLT,reduceLeDiff,reduceAdd,reduceMul,reduceSub,Nat.reduceBEq,Int.reduceToNat,Int.reduceLE,Int.reduceLT,Int.reduceNeg,reduceMod,zac,zad,zab,zaa,gT,TK.isInt,TK.agg,Array.toList,h1b,r1b,h2b,r2b,h4b,h5b,h6b,r27b,h7b,hs,hga]
    refine ⟨by omega,zai ((i + 1,w + 1)) (by refine ⟨?_,?_,?_,?_,?_,?_,?_,?_,?_,⟨by omega,htb.same (by simp (maxSteps:=5000000) -dsimp only [gr,reduceEqDiff,reduceLT,reduceAdd,reduceMod,Nat.reduceBEq,zaa,zac,zad,zab]) (fun x=>by simp (maxSteps:=5000000) -dsimp only [gr,reduceEqDiff,reduceLT,reduceAdd,reduceMod,Nat.reduceBEq,zaa,zac,zad,zab]),by simp (maxSteps:=5000000) -dsimp only [gr,reduceEqDiff,reduceLT,reduceAdd,reduceMod,Nat.reduceBEq,zaa,zac,zad,zab,hd8],by simp (maxSteps:=5000000) -dsimp only [gr,reduceEqDiff,reduceLT,reduceAdd,reduceMod,Nat.reduceBEq,zaa,zac,zad,zab,hd52],fun i=>by simp (maxSteps:=5000000) -dsimp only [gr,reduceEqDiff,reduceLT,reduceAdd,reduceMod,Nat.reduceBEq,zaa,zac,zad,zab,hdi]⟩⟩ <;> (first | (simp (maxSteps:=5000000) -dsimp only [gr,reduceEqDiff,reduceLT,reduceAdd,reduceMod,Nat.reduceBEq,zaa,zac,zad,zab,h1b,r1b,h2b,r2b,h4b,h5b,h6b,r27b,h7b,hgs,zaf hi3 (by omega)];first | done | rfl | (simp;done)) | assumption | rfl)) (by first | omega | (simp only;omega) | (dsimp only;omega) | (show _ < _;simp;omega))⟩
   ·have hi4:i = 3:=by omega
    subst hi4
    simp (maxSteps:=5000000) -dsimp only [↓gp,gq,reduceCtorEq,reduceEqDiff,reduceLT,reduceLeDiff,reduceAdd,reduceMul,reduceSub,Nat.reduceBEq,Int.reduceToNat,Int.reduceLE,Int.reduceLT,Int.reduceNeg,reduceMod,zac,zad,zab,zaa,gT,TK.isInt,TK.agg,Array.toList,h1b,r1b,h2b,r2b,h4b,h5b,h6b,r27b,h7b]
    refine ⟨fun h=>absurd h (by decide),fun _=>zoL ?_⟩
    have hgls:=zow h
    rw [hs,Int.toNat_natCast] at hgls
    simp (maxSteps:=5000000) -dsimp only [↓gp,gq,reduceCtorEq,reduceEqDiff,reduceLT,reduceLeDiff,reduceAdd,reduceMul,reduceSub,Nat.reduceBEq,Int.reduceToNat,Int.reduceLE,Int.reduceLT,Int.reduceNeg,reduceMod,zac,zad,zab,zaa,gT,TK.isInt,TK.agg,Array.toList,h1b,r1b,h2b,r2b,h4b,h5b,h6b,r27b,h7b,htb.top,zal,List.length_range]
    refine ⟨by rw [zhC,List.length_take];omega,zcK (k:=19) (v:=v + 1) (e:=22) (e2:=3) (n:=(zev (xs.take k)).length) (d:=27) (vd:=w) (M:=zev (xs.take k)) (r:=zpw u 3) (by simp (maxSteps:=5000000) -dsimp only [gr,reduceEqDiff,reduceLT,reduceAdd,reduceMod,Nat.reduceBEq,zaa,zac,zad,zab,htb.top]) rfl (fun j hj=>by simp (maxSteps:=5000000) -dsimp only [gr,reduceEqDiff,reduceLT,reduceAdd,reduceMod,Nat.reduceBEq,zaa,zac,zad,zab,htb.row j hj]) (fun j hj=>by simp (maxSteps:=5000000) -dsimp only [gr,reduceEqDiff,reduceLT,reduceAdd,reduceMod,Nat.reduceBEq,zaa,zac,zad,zab,htb.rest j hj]) (by simp (maxSteps:=5000000) -dsimp only [gr,reduceEqDiff,reduceLT,reduceAdd,reduceMod,Nat.reduceBEq,zaa,zac,zad,zab,h1b,r1b,h2b,r2b,h4b,h5b,h6b,r27b,h7b]) (by decide) (by decide) ((k + 1,v + 1)) (fun sX htX hslX hoX=>(by refine ⟨?_,?_,?_,?_,?_,?_,⟨by dsimp only;omega,by dsimp only;rw [hgls,List.length_append];exact htX,by rw [hoX _ (by decide) (by decide)];simp (maxSteps:=5000000) -dsimp only [gr,reduceEqDiff,reduceLT,reduceAdd,reduceMod,Nat.reduceBEq,zaa,zac,zad,zab,hd8],by rw [hoX _ (by decide) (by decide)];simp (maxSteps:=5000000) -dsimp only [gr,reduceEqDiff,reduceLT,reduceAdd,reduceMod,Nat.reduceBEq,zaa,zac,zad,zab,hd52],fun i=>by rw [hoX _ (by rw [zaa];decide) (by rw [beq_eq_false_iff_ne,zaT];omega)];simp (maxSteps:=5000000) -dsimp only [gr,reduceEqDiff,reduceLT,reduceAdd,reduceMod,Nat.reduceBEq,zaa,zac,zad,zab,hdi]⟩⟩ <;> (first | (simp (maxSteps:=5000000) -dsimp only [gr,reduceEqDiff,reduceLT,reduceAdd,reduceMod,Nat.reduceBEq,zaa,zac,zad,zab,hslX,hoX,h1a,r1a,h2a,r2a,h4a,h5a,h1b,r1b,h2b,r2b,h4b,h5b,h6b,r27b,h7b,zaf h (show xs.length ≤ 9223372036854775807 by omega)];first | done | rfl | (simp;done)) | assumption | rfl))) (by first | omega | (simp only;omega) | (dsimp only;omega) | (show _ < _;simp;omega))⟩
  ·have hkl:k = xs.length:=by omega
   subst hkl
   rw [List.take_length] at hta
   have hlg:=zhC xs
   simp (maxSteps:=5000000) -dsimp only [↓gp,gq,reduceCtorEq,reduceEqDiff,reduceLT,reduceLeDiff,reduceAdd,reduceMul,reduceSub,Nat.reduceBEq,Int.reduceToNat,Int.reduceLE,Int.reduceLT,Int.reduceNeg,reduceMod,zac,zad,zab,zaa,gT,TK.isInt,TK.agg,Array.toList,h1a,r1a,h2a,r2a,h4a,h5a,hta.top]
   rw [zi7 hta.done _ (fun j=>by simp (maxSteps:=5000000) -dsimp only [gr,reduceEqDiff,reduceLT,reduceAdd,reduceMod,Nat.reduceBEq,zaa,zac,zad,zab])]
   have hI:=zcg (zev xs) (by omega)
   have hvl:=zi9 (zev xs)
   generalize mkV (zev xs) = V at *
   generalize mkB (zev xs) = B at *
   refine zkL (d:=52) hI (fun i _=>by simp (maxSteps:=5000000) -dsimp only [gr,reduceEqDiff,reduceLT,reduceAdd,reduceMod,Nat.reduceBEq,zaa,zac,zad,zab,hdi]) fun S hS0 hSd0 hSs hSr=>?_
   have e0:∀ n:Nat,n = 0→n + 1 = 1:=fun n h=>by omega
   rw [e0 _ (by simp (maxSteps:=5000000) -dsimp only [gr,reduceEqDiff,reduceLT,reduceAdd,reduceMod,Nat.reduceBEq,zaa,zac,zad,zab,hd52])] at hS0 hSd0
   have u2:S.sl 2 = .ref 2 1 0:=by rw [hSs 2 (by decide)];simp (maxSteps:=5000000) -dsimp only [gr,reduceEqDiff,reduceLT,reduceAdd,reduceMod,Nat.reduceBEq,zaa,zac,zad,zab,h1a,r1a,h2a,r2a,h4a,h5a]
   have w2:S.rw 2 = ⟨1,.box 35 [.v (.slice none 0 0)]⟩:=by rw [hSr 2 (by decide)];simp (maxSteps:=5000000) -dsimp only [gr,reduceEqDiff,reduceLT,reduceAdd,reduceMod,Nat.reduceBEq,zaa,zac,zad,zab,h1a,r1a,h2a,r2a,h4a,h5a]
   have w8:S.rw 8 = ⟨0,.dead⟩:=by rw [hSr 8 (by decide)];simp (maxSteps:=5000000) -dsimp only [gr,reduceEqDiff,reduceLT,reduceAdd,reduceMod,Nat.reduceBEq,zaa,zac,zad,zab,hd8]
   have htop:=hS0.top
   clear hSs hSr
   simp (maxSteps:=5000000) -dsimp only [↓gp,gq,reduceCtorEq,reduceEqDiff,reduceLT,reduceLeDiff,reduceAdd,reduceMul,reduceSub,Nat.reduceBEq,Int.reduceToNat,Int.reduceLE,Int.reduceLT,Int.reduceNeg,reduceMod,zac,zad,zab,zaa,gT,TK.isInt,TK.agg,Array.toList,hSd0,u2,w2,w8,htop]
   refine ziZ (hS0.same (rw':=_) (by simp (maxSteps:=5000000) -dsimp only [gr,reduceEqDiff,reduceLT,reduceAdd,reduceMod,Nat.reduceBEq,zaa,zac,zad,zab]) (fun j=>by simp (maxSteps:=5000000) -dsimp only [gr,reduceEqDiff,reduceLT,reduceAdd,reduceMod,Nat.reduceBEq,zaa,zac,zad,zab])) (by decide) (fun j hj=>by have:=List.mem_range.1 hj;omega) ?_
   simp only [kk,zoB]
   exact ⟨rfl,by simpa using zwf 52 V.length⟩
 ·have hc:zfC n xs = false:=by simpa using hc
  have e1:zw9 n xs = []:=if_neg fun h=>by rw [h.1] at hc;cases hc
  have e2:zoH n xs = false:=by unfold zoH;rw [hc];rfl
  rw [e1,e2];exact ⟨rfl,rfl⟩
theorem zcZ (n:Int) (xs:List Int):AC Try.prog 20 [.ag [int n,zbr xs]] (.tup [.ag [.tb 22 3 ((zw9 n xs).map iL)],.im (bool (zoH n xs))]):=by
 refine AC.go (rs:=[.cell 2 35,.tmp 3]) zbq zaD Try.func20 rfl rfl rfl (by kernel_rfl) fun hl=>?_
 simp (maxSteps:=5000000) -dsimp only [↓gp,gq,reduceCtorEq,reduceEqDiff,reduceLT,reduceLeDiff,reduceAdd,reduceMul,reduceSub,Nat.reduceBEq,Int.reduceToNat,Int.reduceLE,Int.reduceLT,Int.reduceNeg,reduceMod,zac,zad,zab,zaa,gT,TK.isInt,TK.agg,Array.toList]
 refine zak (zjq n xs) ?_
 simp (maxSteps:=5000000) -dsimp only [↓gp,gq,reduceCtorEq,reduceEqDiff,reduceLT,reduceLeDiff,reduceAdd,reduceMul,reduceSub,Nat.reduceBEq,Int.reduceToNat,Int.reduceLE,Int.reduceLT,Int.reduceNeg,reduceMod,zac,zad,zab,zaa,gT,TK.isInt,TK.agg,Array.toList]
 refine ⟨fun hc=>⟨fun h6=>?_,fun h6=>?_⟩,fun hc=>?_⟩
 ·have h6:¬ n = 6:=by simpa using h6
  have e1:zw9 n xs = []:=if_neg fun h=>h6 h.2
  have e2:zoH n xs = false:=by unfold zoH;rw [decide_eq_false h6];simp
  rw [e1,e2];exact ⟨rfl,rfl⟩
 ·have h6:n = 6:=by simpa using h6
  have hc:zfC n xs = true:=by simpa using hc
  have hlen:=zr8 hc
  have hok:=zlO hc
  have e1:zw9 n xs = mkV (zev xs):=if_pos ⟨hc,h6⟩
  have e2:zoH n xs = mkB (zev xs):=by unfold zoH;rw [hc,decide_eq_true h6];rfl
  rw [e1,e2]
  refine zhx (k:=4) (v:=1) (e:=22) (e2:=3) (by simp (maxSteps:=5000000) -dsimp only [gr,reduceEqDiff,reduceLT,reduceAdd,reduceMod,Nat.reduceBEq,zaa,zac,zad,zab]) (fun i=>by simp (maxSteps:=5000000) -dsimp only [gr,reduceEqDiff,reduceLT,reduceAdd,reduceMod,Nat.reduceBEq,zaa,zac,zad,zab]) (fun (za:Nat × Nat) s=>match za with | (k,v)=>s.sl 1 = .ref 1 1 0∧s.rw 1 = ⟨1,.box 38 [int n,zbr xs]⟩∧s.sl 2 = .ref 2 1 0∧s.rw 2 = ⟨1,.box 35 [.v (.slice none 0 0)]⟩∧s.sl 4 = .own 4 v∧s.sl 17 = zbr xs∧s.sl 18 = int xs.length∧s.sl 19 = int k∧(k ≤ xs.length∧TabG s.rw 4 v 22 3 (zev (xs.take k)).length (zev (xs.take k))∧s.rw 40 = ⟨0,.dead⟩∧∀ i,s.rw (sid 40 i) = ⟨0,.dead⟩)) (fun (k,v)=>xs.length - k) ((0,1)) (fun sX htX hslX hoX=>(by refine ⟨?_,?_,?_,?_,?_,?_,?_,?_,⟨by omega,htX,by rw [hoX _ (by decide)];simp (maxSteps:=5000000) -dsimp only [gr,reduceEqDiff,reduceLT,reduceAdd,reduceMod,Nat.reduceBEq,zaa,zac,zad,zab],fun i=>by rw [hoX _ (by rw [zaa];decide)];simp (maxSteps:=5000000) -dsimp only [gr,reduceEqDiff,reduceLT,reduceAdd,reduceMod,Nat.reduceBEq,zaa,zac,zad,zab]⟩⟩ <;> (first | (simp (maxSteps:=5000000) -dsimp only [gr,reduceEqDiff,reduceLT,reduceAdd,reduceMod,Nat.reduceBEq,zaa,zac,zad,zab,hslX,hoX];first | done | rfl | (simp;done)) | assumption | rfl))) ?_
  intro (k,v) sa ⟨h1a,r1a,h2a,r2a,h4a,h17a,h18a,h19a,hIa⟩
  obtain ⟨hk,hta,hd40,hdi⟩:=hIa
  simp (maxSteps:=5000000) -dsimp only [↓gp,gq,reduceCtorEq,reduceEqDiff,reduceLT,reduceLeDiff,reduceAdd,reduceMul,reduceSub,Nat.reduceBEq,Int.reduceToNat,Int.reduceLE,Int.reduceLT,Int.reduceNeg,reduceMod,zac,zad,zab,zaa,gT,TK.isInt,TK.agg,Array.toList,h1a,r1a,h2a,r2a,h4a,h17a,h18a,h19a]
  refine ⟨fun h=>?_,fun h=>?_⟩
  ·obtain ⟨u,hs⟩:∃ u:Nat,xs.getD k 0 = u:=⟨(xs.getD k 0).toNat,by have:=hok _ (zaC 0 h);omega⟩
   have hs64:u < 64:=by have:=hok _ (zaC 0 h);omega
   obtain ⟨g0,g1,g2⟩:=zx7 u hs64
   have hsz:∀ m,m < 4→zlW ((m:Nat):Int) = ((zaX m:Nat):Int):=fun m hm=>by rw [zlW,if_pos (by omega)];simp
   have s0:=hsz (u % 4) (by omega)
   have s1:=hsz (u / 4 % 4) (by omega)
   have s2:=hsz (u / 16 % 4) (by omega)
   have hg3:=zDc u
   simp (maxSteps:=5000000) -dsimp only [↓gp,gq,reduceCtorEq,reduceEqDiff,reduceLT,reduceLeDiff,reduceAdd,reduceMul,reduceSub,Nat.reduceBEq,Int.reduceToNat,Int.reduceLE,Int.reduceLT,Int.reduceNeg,reduceMod,zac,zad,zab,zaa,gT,TK.isInt,TK.agg,Array.toList,h1a,r1a,h2a,r2a,h4a,h17a,h18a,h19a,hs,g0,g1,g2]
   refine ⟨h,h,zak (za6 _) ?_⟩
   simp (maxSteps:=5000000) -dsimp only [↓gp,gq,reduceCtorEq,reduceEqDiff,reduceLT,reduceLeDiff,reduceAdd,reduceMul,reduceSub,Nat.reduceBEq,Int.reduceToNat,Int.reduceLE,Int.reduceLT,Int.reduceNeg,reduceMod,zac,zad,zab,zaa,gT,TK.isInt,TK.agg,Array.toList,h1a,r1a,h2a,r2a,h4a,h17a,h18a,h19a,hs,g0,g1,g2,s0]
   refine zak (za6 _) ?_
   simp (maxSteps:=5000000) -dsimp only [↓gp,gq,reduceCtorEq,reduceEqDiff,reduceLT,reduceLeDiff,reduceAdd,reduceMul,reduceSub,Nat.reduceBEq,Int.reduceToNat,Int.reduceLE,Int.reduceLT,Int.reduceNeg,reduceMod,zac,zad,zab,zaa,gT,TK.isInt,TK.agg,Array.toList,h1a,r1a,h2a,r2a,h4a,h17a,h18a,h19a,hs,g0,g1,g2,s0,s1]
   refine zak (za6 _) ?_
   simp (maxSteps:=5000000) -dsimp only [↓gp,gq,reduceCtorEq,reduceEqDiff,reduceLT,reduceLeDiff,reduceAdd,reduceMul,reduceSub,Nat.reduceBEq,Int.reduceToNat,Int.reduceLE,Int.reduceLT,Int.reduceNeg,reduceMod,zac,zad,zab,zaa,gT,TK.isInt,TK.agg,Array.toList,h1a,r1a,h2a,r2a,h4a,h17a,h18a,h19a,hs,g0,g1,g2,s0,s1,s2]
   refine zoL ?_
   have hgls:=zow h
   rw [hs,Int.toNat_natCast] at hgls
   simp (maxSteps:=5000000) -dsimp only [↓gp,gq,reduceCtorEq,reduceEqDiff,reduceLT,reduceLeDiff,reduceAdd,reduceMul,reduceSub,Nat.reduceBEq,Int.reduceToNat,Int.reduceLE,Int.reduceLT,Int.reduceNeg,reduceMod,zac,zad,zab,zaa,gT,TK.isInt,TK.agg,Array.toList,h1a,r1a,h2a,r2a,h4a,h17a,h18a,h19a,hs,g0,g1,g2,s0,s1,s2,hta.top,zal,List.length_range]
   refine ⟨by rw [zhC,List.length_take];omega,zcK (k:=4) (v:=v + 1) (e:=22) (e2:=3) (n:=(zev (xs.take k)).length) (d:=35) (vd:=(sa.rw 35).ver + 1) (M:=zev (xs.take k)) (r:=zpw u 3) (by simp (maxSteps:=5000000) -dsimp only [gr,reduceEqDiff,reduceLT,reduceAdd,reduceMod,Nat.reduceBEq,zaa,zac,zad,zab,hta.top]) rfl (fun j hj=>by simp (maxSteps:=5000000) -dsimp only [gr,reduceEqDiff,reduceLT,reduceAdd,reduceMod,Nat.reduceBEq,zaa,zac,zad,zab,hta.row j hj]) (fun j hj=>by simp (maxSteps:=5000000) -dsimp only [gr,reduceEqDiff,reduceLT,reduceAdd,reduceMod,Nat.reduceBEq,zaa,zac,zad,zab,hta.rest j hj]) (by simp (maxSteps:=5000000) -dsimp only [gr,reduceEqDiff,reduceLT,reduceAdd,reduceMod,Nat.reduceBEq,zaa,zac,zad,zab,hg3]) (by decide) (by decide) ((k + 1,v + 1)) (fun sX htX hslX hoX=>(by refine ⟨?_,?_,?_,?_,?_,?_,?_,?_,⟨by dsimp only;omega,by dsimp only;rw [hgls,List.length_append];exact htX,by rw [hoX _ (by decide) (by decide)];simp (maxSteps:=5000000) -dsimp only [gr,reduceEqDiff,reduceLT,reduceAdd,reduceMod,Nat.reduceBEq,zaa,zac,zad,zab,hd40],fun i=>by rw [hoX _ (by rw [zaa];decide) (by rw [beq_eq_false_iff_ne,zaT];omega)];simp (maxSteps:=5000000) -dsimp only [gr,reduceEqDiff,reduceLT,reduceAdd,reduceMod,Nat.reduceBEq,zaa,zac,zad,zab,hdi]⟩⟩ <;> (first | (simp (maxSteps:=5000000) -dsimp only [gr,reduceEqDiff,reduceLT,reduceAdd,reduceMod,Nat.reduceBEq,zaa,zac,zad,zab,hslX,hoX,h1a,r1a,h2a,r2a,h4a,h17a,h18a,h19a,zaf h (show xs.length ≤ 9223372036854775807 by omega)];first | done | rfl | (simp;done)) | assumption | rfl))) (by first | omega | (simp only;omega) | (dsimp only;omega) | (show _ < _;simp;omega))⟩
  ·have hkl:k = xs.length:=by omega
   subst hkl
   rw [List.take_length] at hta
   have hlg:=zhC xs
   simp (maxSteps:=5000000) -dsimp only [↓gp,gq,reduceCtorEq,reduceEqDiff,reduceLT,reduceLeDiff,reduceAdd,reduceMul,reduceSub,Nat.reduceBEq,Int.reduceToNat,Int.reduceLE,Int.reduceLT,Int.reduceNeg,reduceMod,zac,zad,zab,zaa,gT,TK.isInt,TK.agg,Array.toList,h1a,r1a,h2a,r2a,h4a,h17a,h18a,h19a,hta.top]
   rw [zi7 hta.done _ (fun j=>by simp (maxSteps:=5000000) -dsimp only [gr,reduceEqDiff,reduceLT,reduceAdd,reduceMod,Nat.reduceBEq,zaa,zac,zad,zab])]
   have hI:=zdj (zev xs) (by omega)
   have hvl:=zi9 (zev xs)
   generalize mkV (zev xs) = V at *
   generalize mkB (zev xs) = B at *
   refine zkL (d:=40) hI (fun i _=>by simp (maxSteps:=5000000) -dsimp only [gr,reduceEqDiff,reduceLT,reduceAdd,reduceMod,Nat.reduceBEq,zaa,zac,zad,zab,hdi]) fun S hS0 hSd0 hSs hSr=>?_
   have e0:∀ n:Nat,n = 0→n + 1 = 1:=fun n h=>by omega
   rw [e0 _ (by simp (maxSteps:=5000000) -dsimp only [gr,reduceEqDiff,reduceLT,reduceAdd,reduceMod,Nat.reduceBEq,zaa,zac,zad,zab,hd40])] at hS0 hSd0
   have u2:S.sl 2 = .ref 2 1 0:=by rw [hSs 2 (by decide)];simp (maxSteps:=5000000) -dsimp only [gr,reduceEqDiff,reduceLT,reduceAdd,reduceMod,Nat.reduceBEq,zaa,zac,zad,zab,h1a,r1a,h2a,r2a,h4a,h17a,h18a,h19a]
   have w2:S.rw 2 = ⟨1,.box 35 [.v (.slice none 0 0)]⟩:=by rw [hSr 2 (by decide)];simp (maxSteps:=5000000) -dsimp only [gr,reduceEqDiff,reduceLT,reduceAdd,reduceMod,Nat.reduceBEq,zaa,zac,zad,zab,h1a,r1a,h2a,r2a,h4a,h17a,h18a,h19a]
   have htop:=hS0.top
   clear hSs hSr
   simp (maxSteps:=5000000) -dsimp only [↓gp,gq,reduceCtorEq,reduceEqDiff,reduceLT,reduceLeDiff,reduceAdd,reduceMul,reduceSub,Nat.reduceBEq,Int.reduceToNat,Int.reduceLE,Int.reduceLT,Int.reduceNeg,reduceMod,zac,zad,zab,zaa,gT,TK.isInt,TK.agg,Array.toList,hSd0,u2,w2,htop]
   refine ziZ (hS0.same (rw':=_) (by simp (maxSteps:=5000000) -dsimp only [gr,reduceEqDiff,reduceLT,reduceAdd,reduceMod,Nat.reduceBEq,zaa,zac,zad,zab]) (fun j=>by simp (maxSteps:=5000000) -dsimp only [gr,reduceEqDiff,reduceLT,reduceAdd,reduceMod,Nat.reduceBEq,zaa,zac,zad,zab])) (by decide) (fun j hj=>by have:=List.mem_range.1 hj;omega) ?_
   simp only [kk,zoB]
   exact ⟨rfl,by simpa using zwf 40 V.length⟩
 ·have hc:zfC n xs = false:=by simpa using hc
  have e1:zw9 n xs = []:=if_neg fun h=>by rw [h.1] at hc;cases hc
  have e2:zoH n xs = false:=by unfold zoH;rw [hc];rfl
  rw [e1,e2];exact ⟨rfl,rfl⟩
end Go.Proofs.Ytpnknaaehcljoaa

namespace Go.Proofs.Ytpnknaaehcljoaa
open Go.Abs
open Nat (reduceEqDiff reduceMod reduceAdd reduceLT reduceLeDiff reduceSub reduceMul)
set_option linter.unusedSimpArgs false
set_option linter.unusedVariables false
theorem zaK (s:St) (d:Nat) (fr:Bool) (sz:Nat) (c:List PV):zam s d (.ag [.im (.sl fr sz c)]) = s.put (some d) (.ag [.sl true sz c]):=by
 unfold zam
 simp [zbs,leaves,zau,zaJ,zbk,za8,zaU,zd1]
def klt (P:Mat→Prop) (rv:RV):Prop:=∃ M,rv = .im (zcp M)∧P M
def kpw (P:Mat→Prop) (rv:RV):Prop:=∃ M,rv = .ag [.im (zcp M)]∧P M
theorem zb0 (bs:List Int) (hbs:bs.length ≤ 9223372036854775806):zoF Try.prog 81 TC bs ⟨0,.dead⟩ [] (klt ltQ):=zoF.ofT (fun i h=>zgP bs hbs i h) fun M h=>⟨M,rfl,h⟩
def pwQ (M:Mat):Prop:=M.length ≤ 27
theorem zhF (bs:List Int) (hbs:bs.length ≤ 9223372036854775806) (i:Nat) (h:Int):AG Try.prog 77 [.ref 1000000 1 0] (zlv TC bs i h ⟨0,.dead⟩) (zr6 TC bs 22 pwQ):=by
 refine AG.go (rs:=[.cell 2 35]) zbq zaD Try.func77 rfl rfl rfl (by kernel_rfl) fun hl _ s hs hR=>?_
 have e0:s.rw 1000000 = ⟨1,.box TC [.sl false 1 (kL .u8 bs),int i,int h]⟩:=by rw [hR];rfl
 have e1:s.rw 1000500 = ⟨0,.dead⟩:=by rw [hR];rfl
 have elo:∀ k,k < 1000000→s.rw k = ⟨0,.dead⟩:=fun k hk=>by rw [hR];exact zlw hk
 simp (maxSteps:=5000000) -dsimp only [↓gp,gq,reduceCtorEq,reduceEqDiff,reduceLT,reduceLeDiff,reduceAdd,reduceMul,reduceSub,Nat.reduceBEq,Int.reduceToNat,Int.reduceLE,Int.reduceLT,Int.reduceNeg,reduceMod,zac,zad,zab,zaa,gT,TK.isInt,TK.agg,Array.toList,hs,e0,elo,zaG]
 refine zaE (zb0 bs hbs) .none (by simp (maxSteps:=5000000) -dsimp only [gr,reduceEqDiff,reduceLT,reduceAdd,reduceMod,Nat.reduceBEq,zaa,zac,zad,zab,e0,elo] <;> rfl) (GvL.one (zbj (by simp (maxSteps:=5000000) -dsimp only [gr,reduceEqDiff,reduceLT,reduceAdd,reduceMod,Nat.reduceBEq,zaa,zac,zad,zab,e0,elo] <;> rfl)) (by repeat (first | exact GvL.nil | refine GvL.one (GvA.v _) ?_ | refine GvL.one (GvA.sl _ _ _) ?_))) rfl (fun _ h=>by cases h) fun rv i1 g1 ⟨M,hrv,hx⟩=>?_
 subst hrv
 simp (maxSteps:=5000000) -dsimp only [↓gp,gq,reduceCtorEq,reduceEqDiff,reduceLT,reduceLeDiff,reduceAdd,reduceMul,reduceSub,Nat.reduceBEq,Int.reduceToNat,Int.reduceLE,Int.reduceLT,Int.reduceNeg,reduceMod,zac,zad,zab,zaa,gT,TK.isInt,TK.agg,Array.toList,hs,e0,elo,zaG]
 refine zak (AC.flatT (zcg M (by have:=hx.1;omega))) ?_
 have hmv:=zi9 M
 generalize mkV M = V at *
 generalize mkB M = B at *
 simp (maxSteps:=5000000) -dsimp only [↓gp,gq,reduceCtorEq,reduceEqDiff,reduceLT,reduceLeDiff,reduceAdd,reduceMul,reduceSub,Nat.reduceBEq,Int.reduceToNat,Int.reduceLE,Int.reduceLT,Int.reduceNeg,reduceMod,zac,zad,zab,zaa,gT,TK.isInt,TK.agg,Array.toList,hs,e0,elo,zaG]
 refine ⟨fun hB=>zaE (zbI bs hbs 10 (by decide)) .none (by simp (maxSteps:=5000000) -dsimp only [gr,reduceEqDiff,reduceLT,reduceAdd,reduceMod,Nat.reduceBEq,zaa,zac,zad,zab,e0,elo,zaG] <;> rfl) (GvL.one (zbj (by simp (maxSteps:=5000000) -dsimp only [gr,reduceEqDiff,reduceLT,reduceAdd,reduceMod,Nat.reduceBEq,zaa,zac,zad,zab,e0,elo,zaG] <;> rfl)) (by repeat (first | exact GvL.nil | refine GvL.one (GvA.v _) ?_ | refine GvL.one (GvA.sl _ _ _) ?_))) rfl (fun _ h=>by cases h) fun rv i2 g2 ⟨b,hrv⟩=>?_,fun hB=>zaE (zb0 bs hbs) .none (by simp (maxSteps:=5000000) -dsimp only [gr,reduceEqDiff,reduceLT,reduceAdd,reduceMod,Nat.reduceBEq,zaa,zac,zad,zab,e0,elo,zaG] <;> rfl) (GvL.one (zbj (by simp (maxSteps:=5000000) -dsimp only [gr,reduceEqDiff,reduceLT,reduceAdd,reduceMod,Nat.reduceBEq,zaa,zac,zad,zab,e0,elo,zaG] <;> rfl)) (by repeat (first | exact GvL.nil | refine GvL.one (GvA.v _) ?_ | refine GvL.one (GvA.sl _ _ _) ?_))) rfl (fun _ h=>by cases h) fun rv i2 g2 ⟨M2,hrv,hx2⟩=>?_⟩
 ·subst hrv
  simp (maxSteps:=5000000) -dsimp only [↓gp,gq,reduceCtorEq,reduceEqDiff,reduceLT,reduceLeDiff,reduceAdd,reduceMul,reduceSub,Nat.reduceBEq,Int.reduceToNat,Int.reduceLE,Int.reduceLT,Int.reduceNeg,reduceMod,zac,zad,zab,zaa,gT,TK.isInt,TK.agg,Array.toList,hs,e0,elo,zaG]
  refine ⟨fun hb=>zaE (zb0 bs hbs) .none (by simp (maxSteps:=5000000) -dsimp only [gr,reduceEqDiff,reduceLT,reduceAdd,reduceMod,Nat.reduceBEq,zaa,zac,zad,zab,e0,elo,zaG] <;> rfl) (GvL.one (zbj (by simp (maxSteps:=5000000) -dsimp only [gr,reduceEqDiff,reduceLT,reduceAdd,reduceMod,Nat.reduceBEq,zaa,zac,zad,zab,e0,elo,zaG] <;> rfl)) (by repeat (first | exact GvL.nil | refine GvL.one (GvA.v _) ?_ | refine GvL.one (GvA.sl _ _ _) ?_))) rfl (fun _ h=>by cases h) fun rv i3 g3 ⟨M2,hrv,hx2⟩=>?_,fun hb=>?_⟩
  ·subst hrv
   simp (maxSteps:=5000000) -dsimp only [↓gp,gq,reduceCtorEq,reduceEqDiff,reduceLT,reduceLeDiff,reduceAdd,reduceMul,reduceSub,Nat.reduceBEq,Int.reduceToNat,Int.reduceLE,Int.reduceLT,Int.reduceNeg,reduceMod,zac,zad,zab,zaa,gT,TK.isInt,TK.agg,Array.toList,hs,e0,elo,zaG]
   exact ⟨M2,i3,g3,by have:=hx2.1;unfold pwQ;omega,by simp (maxSteps:=5000000) -dsimp only [gr,reduceEqDiff,reduceLT,reduceAdd,reduceMod,Nat.reduceBEq,zaa,zac,zad,zab] <;> rfl,by simp (maxSteps:=5000000) -dsimp only [gr,reduceEqDiff,reduceLT,reduceAdd,reduceMod,Nat.reduceBEq,zaa,zac,zad,zab,e1] <;> rfl,.inl rfl⟩
  ·exact ⟨V,i2,g2,hmv,by simp (maxSteps:=5000000) -dsimp only [gr,reduceEqDiff,reduceLT,reduceAdd,reduceMod,Nat.reduceBEq,zaa,zac,zad,zab] <;> rfl,by simp (maxSteps:=5000000) -dsimp only [gr,reduceEqDiff,reduceLT,reduceAdd,reduceMod,Nat.reduceBEq,zaa,zac,zad,zab,e1] <;> rfl,.inr ⟨8,1,rfl,by simp (maxSteps:=5000000) -dsimp only [gr,reduceEqDiff,reduceLT,reduceAdd,reduceMod,Nat.reduceBEq,zaa,zac,zad,zab] <;> rfl,by decide,rfl,rfl⟩⟩
 ·subst hrv
  simp (maxSteps:=5000000) -dsimp only [↓gp,gq,reduceCtorEq,reduceEqDiff,reduceLT,reduceLeDiff,reduceAdd,reduceMul,reduceSub,Nat.reduceBEq,Int.reduceToNat,Int.reduceLE,Int.reduceLT,Int.reduceNeg,reduceMod,zac,zad,zab,zaa,gT,TK.isInt,TK.agg,Array.toList,hs,e0,elo,zaG]
  exact ⟨M2,i2,g2,by have:=hx2.1;unfold pwQ;omega,by simp (maxSteps:=5000000) -dsimp only [gr,reduceEqDiff,reduceLT,reduceAdd,reduceMod,Nat.reduceBEq,zaa,zac,zad,zab] <;> rfl,by simp (maxSteps:=5000000) -dsimp only [gr,reduceEqDiff,reduceLT,reduceAdd,reduceMod,Nat.reduceBEq,zaa,zac,zad,zab,e1] <;> rfl,.inl rfl⟩
theorem zc0 (bs:List Int) (hbs:bs.length ≤ 9223372036854775806):zoF Try.prog 77 TC bs ⟨0,.dead⟩ [] (kpw pwQ):=zoF.ofA (fun i h=>zhF bs hbs i h) fun M h=>⟨M,rfl,h⟩
theorem zdm (bs:List Int) (hbs:bs.length ≤ 9223372036854775806):ADr Try.prog 13 [.sl false 1 (kL .u8 bs)] (kpw pwQ):=by
 refine AG.go (rs:=[.cell 2 35]) zbq zaD Try.func13 rfl rfl rfl (by kernel_rfl) fun hl _ s hs hR=>?_
 simp (maxSteps:=5000000) -dsimp only [↓gp,gq,reduceCtorEq,reduceEqDiff,reduceLT,reduceLeDiff,reduceAdd,reduceMul,reduceSub,Nat.reduceBEq,Int.reduceToNat,Int.reduceLE,Int.reduceLT,Int.reduceNeg,reduceMod,zac,zad,zab,zaa,gT,TK.isInt,TK.agg,Array.toList,hs,hR]
 refine zcX (zcO bs) (.one (.sl _ _ _) .nil) fun h0=>?_
 simp (maxSteps:=5000000) -dsimp only [↓gp,gq,reduceCtorEq,reduceEqDiff,reduceLT,reduceLeDiff,reduceAdd,reduceMul,reduceSub,Nat.reduceBEq,Int.reduceToNat,Int.reduceLE,Int.reduceLT,Int.reduceNeg,reduceMod,zac,zad,zab,zaa,gT,TK.isInt,TK.agg,Array.toList,hs,hR]
 refine zaE (zc0 bs hbs) .none (by simp (maxSteps:=5000000) -dsimp only [gr,reduceEqDiff,reduceLT,reduceAdd,reduceMod,Nat.reduceBEq,zaa,zac,zad,zab,hR] <;> rfl) (GvL.one (zbj (by simp (maxSteps:=5000000) -dsimp only [gr,reduceEqDiff,reduceLT,reduceAdd,reduceMod,Nat.reduceBEq,zaa,zac,zad,zab,hR] <;> rfl)) (by repeat (first | exact GvL.nil | refine GvL.one (GvA.v _) ?_ | refine GvL.one (GvA.sl _ _ _) ?_))) rfl (fun _ h=>by cases h) fun rv i1 g1 ⟨M,hrv,hq⟩=>?_
 subst hrv
 simp (maxSteps:=5000000) -dsimp only [↓gp,gq,reduceCtorEq,reduceEqDiff,reduceLT,reduceLeDiff,reduceAdd,reduceMul,reduceSub,Nat.reduceBEq,Int.reduceToNat,Int.reduceLE,Int.reduceLT,Int.reduceNeg,reduceMod,zac,zad,zab,zaa,gT,TK.isInt,TK.agg,Array.toList,hs,hR,zaK]
 exact ⟨_,_,⟨M,rfl,hq⟩,.one (.ag (.cons (.sl false 1 _) .nil)),by simp⟩
theorem zdK (bs:List Int) (hbs:bs.length ≤ 9223372036854775806):ADr Try.prog 16 [.sl false 1 (kL .u8 bs)] (klt ltQ):=by
 refine AG.go (rs:=[.tmp 2]) zbq zaD Try.func16 rfl rfl rfl (by kernel_rfl) fun hl _ s hs hR=>?_
 simp (maxSteps:=5000000) -dsimp only [↓gp,gq,reduceCtorEq,reduceEqDiff,reduceLT,reduceLeDiff,reduceAdd,reduceMul,reduceSub,Nat.reduceBEq,Int.reduceToNat,Int.reduceLE,Int.reduceLT,Int.reduceNeg,reduceMod,zac,zad,zab,zaa,gT,TK.isInt,TK.agg,Array.toList,hs,hR]
 refine zcX (zcO bs) (.one (.sl _ _ _) .nil) fun h0=>?_
 simp (maxSteps:=5000000) -dsimp only [↓gp,gq,reduceCtorEq,reduceEqDiff,reduceLT,reduceLeDiff,reduceAdd,reduceMul,reduceSub,Nat.reduceBEq,Int.reduceToNat,Int.reduceLE,Int.reduceLT,Int.reduceNeg,reduceMod,zac,zad,zab,zaa,gT,TK.isInt,TK.agg,Array.toList,hs,hR]
 refine zaE (zb0 bs hbs) .none (by simp (maxSteps:=5000000) -dsimp only [gr,reduceEqDiff,reduceLT,reduceAdd,reduceMod,Nat.reduceBEq,zaa,zac,zad,zab,hR] <;> rfl) (GvL.one (zbj (by simp (maxSteps:=5000000) -dsimp only [gr,reduceEqDiff,reduceLT,reduceAdd,reduceMod,Nat.reduceBEq,zaa,zac,zad,zab,hR] <;> rfl)) (by repeat (first | exact GvL.nil | refine GvL.one (GvA.v _) ?_ | refine GvL.one (GvA.sl _ _ _) ?_))) rfl (fun _ h=>by cases h) fun rv i1 g1 ⟨M,hrv,hq⟩=>?_
 subst hrv
 simp (maxSteps:=5000000) -dsimp only [↓gp,gq,reduceCtorEq,reduceEqDiff,reduceLT,reduceLeDiff,reduceAdd,reduceMul,reduceSub,Nat.reduceBEq,Int.reduceToNat,Int.reduceLE,Int.reduceLT,Int.reduceNeg,reduceMod,zac,zad,zab,zaa,gT,TK.isInt,TK.agg,Array.toList,hs,hR,zaG]
 exact ⟨_,_,⟨M,rfl,hq⟩,.one (.lf (.sl false 1 _)),by simp⟩
theorem zdL (bs:List Int) (hbs:bs.length ≤ 9223372036854775806):ADr Try.prog 22 [.sl false 1 (kL .u8 bs)] (fun rv=>∃ M d,rv = .tup [.ag [.im (zcp M)],.im (int d)]∧pwQ M):=by
 refine AG.go (rs:=[.cell 2 35,.tmp 3]) zbq zaD Try.func22 rfl rfl rfl (by kernel_rfl) fun hl _ s hs hR=>?_
 simp (maxSteps:=5000000) -dsimp only [↓gp,gq,reduceCtorEq,reduceEqDiff,reduceLT,reduceLeDiff,reduceAdd,reduceMul,reduceSub,Nat.reduceBEq,Int.reduceToNat,Int.reduceLE,Int.reduceLT,Int.reduceNeg,reduceMod,zac,zad,zab,zaa,gT,TK.isInt,TK.agg,Array.toList,hs,hR]
 refine zcX (zcO bs) (.one (.sl _ _ _) .nil) fun h0=>?_
 simp (maxSteps:=5000000) -dsimp only [↓gp,gq,reduceCtorEq,reduceEqDiff,reduceLT,reduceLeDiff,reduceAdd,reduceMul,reduceSub,Nat.reduceBEq,Int.reduceToNat,Int.reduceLE,Int.reduceLT,Int.reduceNeg,reduceMod,zac,zad,zab,zaa,gT,TK.isInt,TK.agg,Array.toList,hs,hR]
 refine zaE (zc0 bs hbs) .none (by simp (maxSteps:=5000000) -dsimp only [gr,reduceEqDiff,reduceLT,reduceAdd,reduceMod,Nat.reduceBEq,zaa,zac,zad,zab,hR] <;> rfl) (GvL.one (zbj (by simp (maxSteps:=5000000) -dsimp only [gr,reduceEqDiff,reduceLT,reduceAdd,reduceMod,Nat.reduceBEq,zaa,zac,zad,zab,hR] <;> rfl)) (by repeat (first | exact GvL.nil | refine GvL.one (GvA.v _) ?_ | refine GvL.one (GvA.sl _ _ _) ?_))) rfl (fun _ h=>by cases h) fun rv i1 g1 ⟨M,hrv,hq⟩=>?_
 subst hrv
 simp (maxSteps:=5000000) -dsimp only [↓gp,gq,reduceCtorEq,reduceEqDiff,reduceLT,reduceLeDiff,reduceAdd,reduceMul,reduceSub,Nat.reduceBEq,Int.reduceToNat,Int.reduceLE,Int.reduceLT,Int.reduceNeg,reduceMod,zac,zad,zab,zaa,gT,TK.isInt,TK.agg,Array.toList,hs,hR,zaK]
 refine ⟨by kernel_rfl,zi1 (zca bs hbs [0,1,2,3,4,6,12,13,-1] (by decide) (by decide)) (zcR _) (i:=i1) (h:=g1) (by simp (maxSteps:=5000000) -dsimp only [gr,reduceEqDiff,reduceLT,reduceAdd,reduceMod,Nat.reduceBEq,zaa,zac,zad,zab] <;> rfl) (by simp (maxSteps:=5000000) -dsimp only [gr,reduceEqDiff,reduceLT,reduceAdd,reduceMod,Nat.reduceBEq,zaa,zac,zad,zab,hR] <;> rfl) rfl rfl rfl ?_⟩
 obtain ⟨x,j4,g4,hr,hx⟩:=ztu bs (l:=[0,1,2,3,4,6,12,13,-1]) (by decide) i1 g1
 rw [hr]
 simp (maxSteps:=5000000) -dsimp only [↓gp,gq,reduceCtorEq,reduceEqDiff,reduceLT,reduceLeDiff,reduceAdd,reduceMul,reduceSub,Nat.reduceBEq,Int.reduceToNat,Int.reduceLE,Int.reduceLT,Int.reduceNeg,reduceMod,zac,zad,zab,zaa,gT,TK.isInt,TK.agg,Array.toList,hs,hR,zAg]
 exact ⟨by kernel_rfl,_,_,⟨M,x,rfl,hq⟩,.tup (.cons (.ag (.cons (.sl false 1 _) .nil)) (.cons (.lf (.im _)) .nil)),by simp⟩
end Go.Proofs.Ytpnknaaehcljoaa

namespace Go.Proofs.Ytpnknaaehcljoaa
open Go.Abs
set_option linter.unusedSimpArgs false
set_option linter.unusedVariables false
end Go.Proofs.Ytpnknaaehcljoaa

namespace Go.Proofs.Ytpnknaaehcljoaa
open Go.Abs
set_option linter.unusedSimpArgs false
set_option linter.unusedVariables false
def zKw (ps:List ByteArray):List Int:=ps.map fun p=>((zKv p p.size:Nat):Int)
def chr (n:Nat):ByteArray:=⟨#[UInt8.ofNat (48 + n)]⟩
structure OkText (t:ByteArray) (n:Nat) (rest:ByteArray) (ps:List ByteArray):Prop where
 size:2 ≤ t.size∧t.size ≤ 1000
 pts:1 ≤ n∧n ≤ 6
 b0:byt t 0 = 48 + n
 b1:byt t 1 = 58
 tail:t.extract 2 t.size = rest
 rsize:rest.size ≤ 1000
 full:(rest.toList == (⟨#[]⟩:ByteArray).toList) = false
 parts:zzr rest 44 = ps
 plen:ps.length ≤ 1000
 pne:0 < ps.length
 sets:∀ p ∈ ps,OkSet p
 head:zzr t 58 = [chr n,rest]
 cx:cxP n (zKw ps)
end Go.Proofs.Ytpnknaaehcljoaa

namespace Go.Proofs.Ytpnknaaehcljoaa
open Go.Abs
set_option linter.unusedSimpArgs false
set_option linter.unusedVariables false
end Go.Proofs.Ytpnknaaehcljoaa

namespace Go.Proofs.Ytpnknaaehcljoaa
open Go.Abs
set_option linter.unusedSimpArgs false
set_option linter.unusedVariables false
end Go.Proofs.Ytpnknaaehcljoaa

namespace Go.Proofs.Ytpnknaaehcljoaa
open Go.Abs
open Nat (reduceEqDiff reduceMod reduceAdd reduceLT reduceLeDiff reduceSub reduceMul)
set_option linter.unusedSimpArgs false
set_option linter.unusedVariables false
theorem zji (bs:List Int) (hbs:bs.length ≤ 9223372036854775806) (n:Nat) (hn1:1 ≤ n) (hn:n ≤ 6):zoF Try.prog 145 TC bs ⟨0,.dead⟩ [int n] (kcx cxQ):=by
 intro i h
 refine AG.go (rs:=[.cell 4 38]) zbq zaD Try.func145 rfl rfl rfl (by kernel_rfl) fun hl _ s hs hR=>?_
 have e0:s.rw 1000000 = ⟨1,.box TC [.sl false 1 (kL .u8 bs),int i,int h]⟩:=by rw [hR];rfl
 have e1:s.rw 1000500 = ⟨0,.dead⟩:=by rw [hR];rfl
 have elo:∀ k,k < 1000000→s.rw k = ⟨0,.dead⟩:=fun k hk=>by rw [hR];exact zlw hk
 simp (maxSteps:=5000000) -dsimp only [↓gp,gq,reduceCtorEq,reduceEqDiff,reduceLT,reduceLeDiff,reduceAdd,reduceMul,reduceSub,Nat.reduceBEq,Int.reduceToNat,Int.reduceLE,Int.reduceLT,Int.reduceNeg,reduceMod,zac,zad,zab,zaa,gT,TK.isInt,TK.agg,Array.toList,hs,e0,elo]
 refine zaE (zco bs hbs [0,1,2,3,3,4,5,6] (by decide) (by decide)) (.some (j:=11) (by simp (maxSteps:=5000000) -dsimp only [gr,reduceEqDiff,reduceLT,reduceAdd,reduceMod,Nat.reduceBEq,zaa,zac,zad,zab,elo] <;> rfl) (zcR _)) (by simp (maxSteps:=5000000) -dsimp only [gr,reduceEqDiff,reduceLT,reduceAdd,reduceMod,Nat.reduceBEq,zaa,zac,zad,zab,e0] <;> rfl) (.one (zbj (by simp (maxSteps:=5000000) -dsimp only [gr,reduceEqDiff,reduceLT,reduceAdd,reduceMod,Nat.reduceBEq,zaa,zac,zad,zab,e0] <;> rfl)) (.one (zlx (by simp (maxSteps:=5000000) -dsimp only [gr,reduceEqDiff,reduceLT,reduceAdd,reduceMod,Nat.reduceBEq,zaa,zac,zad,zab,elo])) .nil)) rfl (fun j hj=>by cases hj;exact ⟨rfl,rfl⟩) fun rv i1 g1 ⟨cnt,hrv,hc⟩=>?_
 subst hrv
 simp (maxSteps:=5000000) -dsimp only [↓gp,gq,reduceCtorEq,reduceEqDiff,reduceLT,reduceLeDiff,reduceAdd,reduceMul,reduceSub,Nat.reduceBEq,Int.reduceToNat,Int.reduceLE,Int.reduceLT,Int.reduceNeg,reduceMod,zac,zad,zab,zaa,gT,TK.isInt,TK.agg,Array.toList,hs,e0,elo]
 have hcn:0 ≤ cnt∧cnt ≤ 6:=by
  have hc:cnt ∈ [0,1,2,3,3,4,5,6]:=hc
  simp at hc;omega
 have h64:=zce hn
 have h2:2 ≤ 2 ^ n:=Nat.pow_le_pow_right (n:=2) (by omega) hn1
 have hsh:zoE .i64 1 (n:Int) = ((2 ^ n:Nat):Int):=zcC (by omega)
 have hun:IntKind.u64.wrap (n:Int) = (n:Int):=zba (by omega)
 have hw1:IntKind.i64.wrap (((2 ^ n:Nat):Int) - 1) = ((2 ^ n - 1:Nat):Int):=by rw [zaq (by omega) (by omega)];omega
 have hz:iL (ofN []) = []:=rfl
 refine zas (fun (za:Nat × Nat × Nat × Int × List Nat) s=>match za with | (k,v,j,g,L)=>s.sl 0 = .ref 1000000 1 0∧s.rw 1000000 = ⟨1,.box TC [.sl false 1 (kL .u8 bs),int j,int g]⟩∧s.rw 1000500 = ⟨0,.dead⟩∧s.sl 1 = int n∧s.sl 4 = .ref 4 1 0∧s.rw 4 = ⟨1,.box 38 [int 0,.v (.slice none 0 0)]⟩∧s.sl 5 = .own 9 v∧s.rw 9 = ⟨v,.sli 3 1 false (iL (ofN L))⟩∧s.sl 6 = int cnt∧s.sl 7 = int k∧(k ≤ 6∧L.length = k∧∀ s ∈ L,s < 64)) (fun (k,v,j,g,L)=>6 - k) ((0,1,i1,g1,[])) (by refine ⟨?_,?_,?_,?_,?_,?_,?_,?_,?_,?_,⟨by omega,rfl,fun s hs=>by simp at hs⟩⟩ <;> (first | (simp (maxSteps:=5000000) -dsimp only [gr,reduceEqDiff,reduceLT,reduceAdd,reduceMod,Nat.reduceBEq,zaa,zac,zad,zab,hs,e0,e1,elo,hz];first | done | rfl | (simp;done)) | assumption | rfl)) ?_
 intro (k,v,j,g,L) sa ⟨h0a,r1000000a,r1000500a,h1a,h4a,r4a,h5a,r9a,h6a,h7a,hIa⟩
 obtain ⟨hk,hL,hok⟩:=hIa
 have hol:=zav L
 simp (maxSteps:=5000000) -dsimp only [↓gp,gq,reduceCtorEq,reduceEqDiff,reduceLT,reduceLeDiff,reduceAdd,reduceMul,reduceSub,Nat.reduceBEq,Int.reduceToNat,Int.reduceLE,Int.reduceLT,Int.reduceNeg,reduceMod,zac,zad,zab,zaa,gT,TK.isInt,TK.agg,Array.toList,h0a,r1000000a,r1000500a,h1a,h4a,r4a,h5a,r9a,h6a,h7a,hsh,hun,hw1]
 refine ⟨fun hlt=>?_,fun hlt=>?_⟩
 ·refine zaE (zbu bs hbs ((2 ^ n - 1:Nat):Int) (by omega)) .none (by simp (maxSteps:=5000000) -dsimp only [gr,reduceEqDiff,reduceLT,reduceAdd,reduceMod,Nat.reduceBEq,zaa,zac,zad,zab,h0a,r1000000a,r1000500a,h1a,h4a,r4a,h5a,r9a,h6a,h7a] <;> rfl) (GvL.one (zbj (by simp (maxSteps:=5000000) -dsimp only [gr,reduceEqDiff,reduceLT,reduceAdd,reduceMod,Nat.reduceBEq,zaa,zac,zad,zab,h0a,r1000000a,r1000500a,h1a,h4a,r4a,h5a,r9a,h6a,h7a] <;> rfl)) (by repeat (first | exact GvL.nil | refine GvL.one (GvA.v _) ?_ | refine GvL.one (GvA.sl _ _ _) ?_))) rfl (fun _ h=>by cases h) fun rv i2 g2 ⟨x,hrv,hx⟩=>?_
  subst hrv
  obtain ⟨y,rfl,hy⟩:=zkW (n:=2 ^ n - 1) (by omega) hx
  have hw2:IntKind.i64.wrap (1 + (y:Int)) = ((y + 1:Nat):Int):=by rw [zaq (by omega) (by omega)];omega
  simp (maxSteps:=5000000) -dsimp only [↓gp,gq,reduceCtorEq,reduceEqDiff,reduceLT,reduceLeDiff,reduceAdd,reduceMul,reduceSub,Nat.reduceBEq,Int.reduceToNat,Int.reduceLE,Int.reduceLT,Int.reduceNeg,reduceMod,zac,zad,zab,zaa,gT,TK.isInt,TK.agg,Array.toList,h0a,r1000000a,r1000500a,h1a,h4a,r4a,h5a,r9a,h6a,h7a,hsh,hun,hw2]
  refine ⟨by omega,?_⟩
  have hap:ofN L ++ [((y + 1:Nat):Int)] = ofN (L ++ [y + 1]):=by rw [za4,zdz]
  exact zai ((k + 1,v + 1,i2,g2,L ++ [y + 1])) (by refine ⟨?_,?_,?_,?_,?_,?_,?_,?_,?_,?_,⟨by dsimp only;omega,by simp [hL],fun s hs=>by
   rw [List.mem_append,List.mem_singleton] at hs
   exact hs.elim (hok s) (fun e=>by omega)⟩⟩ <;> (first | (simp (maxSteps:=5000000) -dsimp only [gr,reduceEqDiff,reduceLT,reduceAdd,reduceMod,Nat.reduceBEq,zaa,zac,zad,zab,h0a,r1000000a,r1000500a,h1a,h4a,r4a,h5a,r9a,h6a,h7a,hap,zaf (show k < 6 by omega) (by omega)];first | done | rfl | (simp;done)) | assumption | rfl)) (by first | omega | (simp only;omega) | (dsimp only;omega) | (show _ < _;simp;omega))
 ·refine zaE (zbI bs hbs 20 (by decide)) .none (by simp (maxSteps:=5000000) -dsimp only [gr,reduceEqDiff,reduceLT,reduceAdd,reduceMod,Nat.reduceBEq,zaa,zac,zad,zab,h0a,r1000000a,r1000500a,h1a,h4a,r4a,h5a,r9a,h6a,h7a] <;> rfl) (GvL.one (zbj (by simp (maxSteps:=5000000) -dsimp only [gr,reduceEqDiff,reduceLT,reduceAdd,reduceMod,Nat.reduceBEq,zaa,zac,zad,zab,h0a,r1000000a,r1000500a,h1a,h4a,r4a,h5a,r9a,h6a,h7a] <;> rfl)) (by repeat (first | exact GvL.nil | refine GvL.one (GvA.v _) ?_ | refine GvL.one (GvA.sl _ _ _) ?_))) rfl (fun _ h=>by cases h) fun rv i3 g3 ⟨b,hrv⟩=>?_
  subst hrv
  simp (maxSteps:=5000000) -dsimp only [↓gp,gq,reduceCtorEq,reduceEqDiff,reduceLT,reduceLeDiff,reduceAdd,reduceMul,reduceSub,Nat.reduceBEq,Int.reduceToNat,Int.reduceLE,Int.reduceLT,Int.reduceNeg,reduceMod,zac,zad,zab,zaa,gT,TK.isInt,TK.agg,Array.toList,h0a,r1000000a,r1000500a,h1a,h4a,r4a,h5a,r9a,h6a,h7a]
  refine ⟨fun hb=>⟨by omega,?_⟩,fun hb=>?_⟩
  ·have hap:ofN L ++ [(0:Int)] = ofN (L ++ [0]):=by rw [za4];rfl
   simp (maxSteps:=5000000) -dsimp only [↓gp,gq,reduceCtorEq,reduceEqDiff,reduceLT,reduceLeDiff,reduceAdd,reduceMul,reduceSub,Nat.reduceBEq,Int.reduceToNat,Int.reduceLE,Int.reduceLT,Int.reduceNeg,reduceMod,zac,zad,zab,zaa,gT,TK.isInt,TK.agg,Array.toList,h0a,r1000000a,r1000500a,h1a,h4a,r4a,h5a,r9a,h6a,h7a,hap]
   refine zak (zc8 (L ++ [0]) fun s hs=>?_) ?_
   ·rw [List.mem_append,List.mem_singleton] at hs
    exact hs.elim (hok s) (fun e=>by omega)
   ·simp (maxSteps:=5000000) -dsimp only [↓gp,gq,reduceCtorEq,reduceEqDiff,reduceLT,reduceLeDiff,reduceAdd,reduceMul,reduceSub,Nat.reduceBEq,Int.reduceToNat,Int.reduceLE,Int.reduceLT,Int.reduceNeg,reduceMod,zac,zad,zab,zaa,gT,TK.isInt,TK.agg,Array.toList,h0a,r1000000a,r1000500a,h1a,h4a,r4a,h5a,r9a,h6a,h7a]
    exact ⟨_,i3,g3,_,ztr hn _ _,.one (.ag (.cons (.im _) (.cons (.fr (by simp (maxSteps:=5000000) -dsimp only [gr,reduceEqDiff,reduceLT,reduceAdd,reduceMod,Nat.reduceBEq,zaa,zac,zad,zab,h0a,r1000000a,r1000500a,h1a,h4a,r4a,h5a,r9a,h6a,h7a] <;> rfl) (by decide)) .nil))),by simp,by simp (maxSteps:=5000000) -dsimp only [gr,reduceEqDiff,reduceLT,reduceAdd,reduceMod,Nat.reduceBEq,zaa,zac,zad,zab,h0a,r1000000a,r1000500a,h1a,h4a,r4a,h5a,r9a,h6a,h7a] <;> rfl,by simp (maxSteps:=5000000) -dsimp only [gr,reduceEqDiff,reduceLT,reduceAdd,reduceMod,Nat.reduceBEq,zaa,zac,zad,zab,h0a,r1000000a,r1000500a,h1a,h4a,r4a,h5a,r9a,h6a,h7a]⟩
  ·refine zak (zc8 L hok) ?_
   simp (maxSteps:=5000000) -dsimp only [↓gp,gq,reduceCtorEq,reduceEqDiff,reduceLT,reduceLeDiff,reduceAdd,reduceMul,reduceSub,Nat.reduceBEq,Int.reduceToNat,Int.reduceLE,Int.reduceLT,Int.reduceNeg,reduceMod,zac,zad,zab,zaa,gT,TK.isInt,TK.agg,Array.toList,h0a,r1000000a,r1000500a,h1a,h4a,r4a,h5a,r9a,h6a,h7a]
   exact ⟨_,i3,g3,_,ztr hn _ _,.one (.ag (.cons (.im _) (.cons (.fr (by simp (maxSteps:=5000000) -dsimp only [gr,reduceEqDiff,reduceLT,reduceAdd,reduceMod,Nat.reduceBEq,zaa,zac,zad,zab,h0a,r1000000a,r1000500a,h1a,h4a,r4a,h5a,r9a,h6a,h7a] <;> rfl) (by decide)) .nil))),by simp,by simp (maxSteps:=5000000) -dsimp only [gr,reduceEqDiff,reduceLT,reduceAdd,reduceMod,Nat.reduceBEq,zaa,zac,zad,zab,h0a,r1000000a,r1000500a,h1a,h4a,r4a,h5a,r9a,h6a,h7a] <;> rfl,by simp (maxSteps:=5000000) -dsimp only [gr,reduceEqDiff,reduceLT,reduceAdd,reduceMod,Nat.reduceBEq,zaa,zac,zad,zab,h0a,r1000000a,r1000500a,h1a,h4a,r4a,h5a,r9a,h6a,h7a]⟩
def idQ (n:Int) (xs:List Int):Prop:=0 ≤ n∧n ≤ 7∧xs.length ≤ 450
theorem zew (bs:List Int) (hbs:bs.length ≤ 9223372036854775806):zoF Try.prog 88 TC bs ⟨0,.dead⟩ [] (kcx idQ):=by
 intro i h
 refine AG.go (rs:=[.cell 2 38]) zbq zaD Try.func88 rfl rfl rfl (by kernel_rfl) fun hl _ s hs hR=>?_
 have e0:s.rw 1000000 = ⟨1,.box TC [.sl false 1 (kL .u8 bs),int i,int h]⟩:=by rw [hR];rfl
 have e1:s.rw 1000500 = ⟨0,.dead⟩:=by rw [hR];rfl
 have elo:∀ k,k < 1000000→s.rw k = ⟨0,.dead⟩:=fun k hk=>by rw [hR];exact zlw hk
 simp (maxSteps:=5000000) -dsimp only [↓gp,gq,reduceCtorEq,reduceEqDiff,reduceLT,reduceLeDiff,reduceAdd,reduceMul,reduceSub,Nat.reduceBEq,Int.reduceToNat,Int.reduceLE,Int.reduceLT,Int.reduceNeg,reduceMod,zac,zad,zab,zaa,gT,TK.isInt,TK.agg,Array.toList,hs,e0,elo]
 refine zaE (zco bs hbs [1,2,3,4,4,5,6] (by decide) (by decide)) (.some (j:=6) (by simp (maxSteps:=5000000) -dsimp only [gr,reduceEqDiff,reduceLT,reduceAdd,reduceMod,Nat.reduceBEq,zaa,zac,zad,zab,elo] <;> rfl) (zcR _)) (by simp (maxSteps:=5000000) -dsimp only [gr,reduceEqDiff,reduceLT,reduceAdd,reduceMod,Nat.reduceBEq,zaa,zac,zad,zab,e0] <;> rfl) (.one (zbj (by simp (maxSteps:=5000000) -dsimp only [gr,reduceEqDiff,reduceLT,reduceAdd,reduceMod,Nat.reduceBEq,zaa,zac,zad,zab,e0] <;> rfl)) (.one (zlx (by simp (maxSteps:=5000000) -dsimp only [gr,reduceEqDiff,reduceLT,reduceAdd,reduceMod,Nat.reduceBEq,zaa,zac,zad,zab,elo])) .nil)) rfl (fun j hj=>by cases hj;exact ⟨rfl,rfl⟩) fun rv i0 g0 ⟨n0,hrv,hc⟩=>?_
 subst hrv
 obtain ⟨n,rfl,hn1,hn⟩:∃ n:Nat,n0 = n∧1 ≤ n∧n ≤ 6:=by
  have hc:n0 ∈ [1,2,3,4,4,5,6]:=hc
  simp at hc
  exact ⟨n0.toNat,by omega,by omega,by omega⟩
 simp (maxSteps:=5000000) -dsimp only [↓gp,gq,reduceCtorEq,reduceEqDiff,reduceLT,reduceLeDiff,reduceAdd,reduceMul,reduceSub,Nat.reduceBEq,Int.reduceToNat,Int.reduceLE,Int.reduceLT,Int.reduceNeg,reduceMod,zac,zad,zab,zaa,gT,TK.isInt,TK.agg,Array.toList,hs,e0,elo]
 refine zaE (zji bs hbs n hn1 hn) .none (by simp (maxSteps:=5000000) -dsimp only [gr,reduceEqDiff,reduceLT,reduceAdd,reduceMod,Nat.reduceBEq,zaa,zac,zad,zab,e0,elo] <;> rfl) (GvL.one (zbj (by simp (maxSteps:=5000000) -dsimp only [gr,reduceEqDiff,reduceLT,reduceAdd,reduceMod,Nat.reduceBEq,zaa,zac,zad,zab,e0,elo] <;> rfl)) (by repeat (first | exact GvL.nil | refine GvL.one (GvA.v _) ?_ | refine GvL.one (GvA.sl _ _ _) ?_))) rfl (fun _ h=>by cases h) fun rv i1 g1 ⟨n,xs,hrv,hq⟩=>?_
 subst hrv
 obtain ⟨hn0,hn7,hxl⟩:=hq
 simp (maxSteps:=5000000) -dsimp only [↓gp,gq,reduceCtorEq,reduceEqDiff,reduceLT,reduceLeDiff,reduceAdd,reduceMul,reduceSub,Nat.reduceBEq,Int.reduceToNat,Int.reduceLE,Int.reduceLT,Int.reduceNeg,reduceMod,zac,zad,zab,zaa,gT,TK.isInt,TK.agg,Array.toList,hs,e0,elo]
 refine zaE (zbu bs hbs 14 (by decide)) .none (by simp (maxSteps:=5000000) -dsimp only [gr,reduceEqDiff,reduceLT,reduceAdd,reduceMod,Nat.reduceBEq,zaa,zac,zad,zab,e0,elo] <;> rfl) (GvL.one (zbj (by simp (maxSteps:=5000000) -dsimp only [gr,reduceEqDiff,reduceLT,reduceAdd,reduceMod,Nat.reduceBEq,zaa,zac,zad,zab,e0,elo] <;> rfl)) (by repeat (first | exact GvL.nil | refine GvL.one (GvA.v _) ?_ | refine GvL.one (GvA.sl _ _ _) ?_))) rfl (fun _ h=>by cases h) fun rv i2 g2 ⟨x,hrv,hx⟩=>?_
 subst hrv
 simp (maxSteps:=5000000) -dsimp only [↓gp,gq,reduceCtorEq,reduceEqDiff,reduceLT,reduceLeDiff,reduceAdd,reduceMul,reduceSub,Nat.reduceBEq,Int.reduceToNat,Int.reduceLE,Int.reduceLT,Int.reduceNeg,reduceMod,zac,zad,zab,zaa,gT,TK.isInt,TK.agg,Array.toList,hs,e0,elo]
 refine ⟨fun h0=>?_,fun h0=>⟨fun h1=>?_,fun h1=>?_⟩⟩
 ·refine zaE (zco bs hbs [0,7,2] (by decide) (by decide)) (.some (j:=14) (by simp (maxSteps:=5000000) -dsimp only [gr,reduceEqDiff,reduceLT,reduceAdd,reduceMod,Nat.reduceBEq,zaa,zac,zad,zab,elo] <;> rfl) (zcR _)) (by simp (maxSteps:=5000000) -dsimp only [gr,reduceEqDiff,reduceLT,reduceAdd,reduceMod,Nat.reduceBEq,zaa,zac,zad,zab,e0] <;> rfl) (.one (zbj (by simp (maxSteps:=5000000) -dsimp only [gr,reduceEqDiff,reduceLT,reduceAdd,reduceMod,Nat.reduceBEq,zaa,zac,zad,zab,e0] <;> rfl)) (.one (zlx (by simp (maxSteps:=5000000) -dsimp only [gr,reduceEqDiff,reduceLT,reduceAdd,reduceMod,Nat.reduceBEq,zaa,zac,zad,zab,elo])) .nil)) rfl (fun j hj=>by cases hj;exact ⟨rfl,rfl⟩) fun rv i3 g3 ⟨m,hrv,hc⟩=>?_
  subst hrv
  have hm:0 ≤ m∧m ≤ 7:=by
   have hc:m ∈ [0,7,2]:=hc
   simp at hc;omega
  simp (maxSteps:=5000000) -dsimp only [↓gp,gq,reduceCtorEq,reduceEqDiff,reduceLT,reduceLeDiff,reduceAdd,reduceMul,reduceSub,Nat.reduceBEq,Int.reduceToNat,Int.reduceLE,Int.reduceLT,Int.reduceNeg,reduceMod,zac,zad,zab,zaa,gT,TK.isInt,TK.agg,Array.toList,e0,elo]
  exact ⟨_,i3,g3,_,⟨m,xs,rfl,hm.1,hm.2,by omega⟩,.one (.ag (.cons (.im _) (.cons (.fr (by simp (maxSteps:=5000000) -dsimp only [gr,reduceEqDiff,reduceLT,reduceAdd,reduceMod,Nat.reduceBEq,zaa,zac,zad,zab] <;> rfl) (by decide)) .nil))),by simp,by simp (maxSteps:=5000000) -dsimp only [gr,reduceEqDiff,reduceLT,reduceAdd,reduceMod,Nat.reduceBEq,zaa,zac,zad,zab] <;> rfl,by simp (maxSteps:=5000000) -dsimp only [gr,reduceEqDiff,reduceLT,reduceAdd,reduceMod,Nat.reduceBEq,zaa,zac,zad,zab,e1]⟩
 ·refine ⟨by kernel_rfl,zs4 (zb1 bs hbs 66 (by decide)) (zhG _) (i:=i2) (h:=g2) (by simp (maxSteps:=5000000) -dsimp only [gr,reduceEqDiff,reduceLT,reduceAdd,reduceMod,Nat.reduceBEq,zaa,zac,zad,zab] <;> rfl) rfl ?_⟩
  obtain ⟨y,j3,g3,hr,hy⟩:=zl3 bs 66 i2 g2
  rw [hr]
  have hy66:0 ≤ y∧y < 66:=by obtain ⟨a,b⟩:=hy;omega
  have hw:IntKind.i64.wrap (y - 1) = y - 1:=zaq (by omega) (by omega)
  simp (maxSteps:=5000000) -dsimp only [↓gp,gq,reduceCtorEq,reduceEqDiff,reduceLT,reduceLeDiff,reduceAdd,reduceMul,reduceSub,Nat.reduceBEq,Int.reduceToNat,Int.reduceLE,Int.reduceLT,Int.reduceNeg,reduceMod,zac,zad,zab,zaa,gT,TK.isInt,TK.agg,Array.toList,e0,elo,hw]
  refine ⟨by omega,by kernel_rfl,?_⟩
  exact ⟨_,j3,g3,_,⟨n,xs ++ [y - 1],rfl,hn0,hn7,by simp;omega⟩,.one (.ag (.cons (.im _) (.cons (.fr (by simp (maxSteps:=5000000) -dsimp only [gr,reduceEqDiff,reduceLT,reduceAdd,reduceMod,Nat.reduceBEq,zaa,zac,zad,zab] <;> rfl) (by decide)) .nil))),by simp,by simp (maxSteps:=5000000) -dsimp only [gr,reduceEqDiff,reduceLT,reduceAdd,reduceMod,Nat.reduceBEq,zaa,zac,zad,zab] <;> rfl,by simp (maxSteps:=5000000) -dsimp only [gr,reduceEqDiff,reduceLT,reduceAdd,reduceMod,Nat.reduceBEq,zaa,zac,zad,zab,e1]⟩
 ·exact ⟨_,i2,g2,_,⟨n,xs,rfl,hn0,hn7,by omega⟩,.one (.ag (.cons (.im _) (.cons (.fr (by simp (maxSteps:=5000000) -dsimp only [gr,reduceEqDiff,reduceLT,reduceAdd,reduceMod,Nat.reduceBEq,zaa,zac,zad,zab] <;> rfl) (by decide)) .nil))),by simp,by simp (maxSteps:=5000000) -dsimp only [gr,reduceEqDiff,reduceLT,reduceAdd,reduceMod,Nat.reduceBEq,zaa,zac,zad,zab] <;> rfl,by simp (maxSteps:=5000000) -dsimp only [gr,reduceEqDiff,reduceLT,reduceAdd,reduceMod,Nat.reduceBEq,zaa,zac,zad,zab,e1]⟩
theorem zdG (bs:List Int) (hbs:bs.length ≤ 9223372036854775806):ADr Try.prog 19 [.sl false 1 (kL .u8 bs)] (kcx idQ):=by
 refine AG.go (rs:=[.cell 2 38]) zbq zaD Try.func19 rfl rfl rfl (by kernel_rfl) fun hl _ s hs hR=>?_
 simp (maxSteps:=5000000) -dsimp only [↓gp,gq,reduceCtorEq,reduceEqDiff,reduceLT,reduceLeDiff,reduceAdd,reduceMul,reduceSub,Nat.reduceBEq,Int.reduceToNat,Int.reduceLE,Int.reduceLT,Int.reduceNeg,reduceMod,zac,zad,zab,zaa,gT,TK.isInt,TK.agg,Array.toList,hs,hR]
 refine zcX (zcO bs) (.one (.sl _ _ _) .nil) fun h0=>?_
 simp (maxSteps:=5000000) -dsimp only [↓gp,gq,reduceCtorEq,reduceEqDiff,reduceLT,reduceLeDiff,reduceAdd,reduceMul,reduceSub,Nat.reduceBEq,Int.reduceToNat,Int.reduceLE,Int.reduceLT,Int.reduceNeg,reduceMod,zac,zad,zab,zaa,gT,TK.isInt,TK.agg,Array.toList,hs,hR]
 refine zaE (zc0 bs hbs) .none (by simp (maxSteps:=5000000) -dsimp only [gr,reduceEqDiff,reduceLT,reduceAdd,reduceMod,Nat.reduceBEq,zaa,zac,zad,zab,hR] <;> rfl) (GvL.one (zbj (by simp (maxSteps:=5000000) -dsimp only [gr,reduceEqDiff,reduceLT,reduceAdd,reduceMod,Nat.reduceBEq,zaa,zac,zad,zab,hR] <;> rfl)) (by repeat (first | exact GvL.nil | refine GvL.one (GvA.v _) ?_ | refine GvL.one (GvA.sl _ _ _) ?_))) rfl (fun _ h=>by cases h) fun rv i1 g1 ⟨M,hrv,hq⟩=>?_
 subst hrv
 simp (maxSteps:=5000000) -dsimp only [↓gp,gq,reduceCtorEq,reduceEqDiff,reduceLT,reduceLeDiff,reduceAdd,reduceMul,reduceSub,Nat.reduceBEq,Int.reduceToNat,Int.reduceLE,Int.reduceLT,Int.reduceNeg,reduceMod,zac,zad,zab,zaa,gT,TK.isInt,TK.agg,Array.toList,hs,hR,zaK]
 refine zak (zcL M) ?_
 simp (maxSteps:=5000000) -dsimp only [↓gp,gq,reduceCtorEq,reduceEqDiff,reduceLT,reduceLeDiff,reduceAdd,reduceMul,reduceSub,Nat.reduceBEq,Int.reduceToNat,Int.reduceLE,Int.reduceLT,Int.reduceNeg,reduceMod,zac,zad,zab,zaa,gT,TK.isInt,TK.agg,Array.toList,hs,hR,zaK]
 have hsp:p19 M = true→kcx idQ (.ag [.im (int (spO M)),.fr 3 1 (iL (ofN (spV M)))]):=fun hp=>by
  have e1:spO M = 6:=if_pos hp
  have e2:spV M = zga (inF (ofN (zg0 M))) false:=if_pos hp
  have:=zr1 (inF (ofN (zg0 M))) false
  rw [e1,e2]
  exact ⟨_,_,rfl,by decide,by decide,by rw [zav];omega⟩
 generalize spO M = O at *
 generalize spV M = V at *
 refine ⟨fun hp=>zaE (zbI bs hbs 2 (by decide)) .none (by simp (maxSteps:=5000000) -dsimp only [gr,reduceEqDiff,reduceLT,reduceAdd,reduceMod,Nat.reduceBEq,zaa,zac,zad,zab,hR] <;> rfl) (GvL.one (zbj (by simp (maxSteps:=5000000) -dsimp only [gr,reduceEqDiff,reduceLT,reduceAdd,reduceMod,Nat.reduceBEq,zaa,zac,zad,zab,hR] <;> rfl)) (by repeat (first | exact GvL.nil | refine GvL.one (GvA.v _) ?_ | refine GvL.one (GvA.sl _ _ _) ?_))) rfl (fun _ h=>by cases h) fun rv i2 g2 ⟨b,hrv⟩=>?_,fun hp=>zaE (zew bs hbs) .none (by simp (maxSteps:=5000000) -dsimp only [gr,reduceEqDiff,reduceLT,reduceAdd,reduceMod,Nat.reduceBEq,zaa,zac,zad,zab,hR] <;> rfl) (GvL.one (zbj (by simp (maxSteps:=5000000) -dsimp only [gr,reduceEqDiff,reduceLT,reduceAdd,reduceMod,Nat.reduceBEq,zaa,zac,zad,zab,hR] <;> rfl)) (by repeat (first | exact GvL.nil | refine GvL.one (GvA.v _) ?_ | refine GvL.one (GvA.sl _ _ _) ?_))) rfl (fun _ h=>by cases h) fun rv i2 g2 ⟨n,xs,hrv,hq2⟩=>?_⟩
 ·subst hrv
  simp (maxSteps:=5000000) -dsimp only [↓gp,gq,reduceCtorEq,reduceEqDiff,reduceLT,reduceLeDiff,reduceAdd,reduceMul,reduceSub,Nat.reduceBEq,Int.reduceToNat,Int.reduceLE,Int.reduceLT,Int.reduceNeg,reduceMod,zac,zad,zab,zaa,gT,TK.isInt,TK.agg,Array.toList,hs,hR,zaK]
  refine ⟨fun hb=>?_,fun hb=>zaE (zew bs hbs) .none (by simp (maxSteps:=5000000) -dsimp only [gr,reduceEqDiff,reduceLT,reduceAdd,reduceMod,Nat.reduceBEq,zaa,zac,zad,zab,hR] <;> rfl) (GvL.one (zbj (by simp (maxSteps:=5000000) -dsimp only [gr,reduceEqDiff,reduceLT,reduceAdd,reduceMod,Nat.reduceBEq,zaa,zac,zad,zab,hR] <;> rfl)) (by repeat (first | exact GvL.nil | refine GvL.one (GvA.v _) ?_ | refine GvL.one (GvA.sl _ _ _) ?_))) rfl (fun _ h=>by cases h) fun rv i3 g3 ⟨n,xs,hrv,hq2⟩=>?_⟩
  ·exact ⟨_,_,hsp hp,.one (.ag (.cons (.im _) (.cons (.fr (by simp (maxSteps:=5000000) -dsimp only [gr,reduceEqDiff,reduceLT,reduceAdd,reduceMod,Nat.reduceBEq,zaa,zac,zad,zab] <;> rfl) (by decide)) .nil))),by simp⟩
  ·subst hrv
   simp (maxSteps:=5000000) -dsimp only [↓gp,gq,reduceCtorEq,reduceEqDiff,reduceLT,reduceLeDiff,reduceAdd,reduceMul,reduceSub,Nat.reduceBEq,Int.reduceToNat,Int.reduceLE,Int.reduceLT,Int.reduceNeg,reduceMod,zac,zad,zab,zaa,gT,TK.isInt,TK.agg,Array.toList,hs,hR,zaK]
   exact ⟨_,_,⟨n,xs,rfl,hq2⟩,.one (.ag (.cons (.im _) (.cons (.fr (by simp (maxSteps:=5000000) -dsimp only [gr,reduceEqDiff,reduceLT,reduceAdd,reduceMod,Nat.reduceBEq,zaa,zac,zad,zab] <;> rfl) (by decide)) .nil))),by simp⟩
 ·subst hrv
  simp (maxSteps:=5000000) -dsimp only [↓gp,gq,reduceCtorEq,reduceEqDiff,reduceLT,reduceLeDiff,reduceAdd,reduceMul,reduceSub,Nat.reduceBEq,Int.reduceToNat,Int.reduceLE,Int.reduceLT,Int.reduceNeg,reduceMod,zac,zad,zab,zaa,gT,TK.isInt,TK.agg,Array.toList,hs,hR,zaK]
  exact ⟨_,_,⟨n,xs,rfl,hq2⟩,.one (.ag (.cons (.im _) (.cons (.fr (by simp (maxSteps:=5000000) -dsimp only [gr,reduceEqDiff,reduceLT,reduceAdd,reduceMod,Nat.reduceBEq,zaa,zac,zad,zab] <;> rfl) (by decide)) .nil))),by simp⟩
end Go.Proofs.Ytpnknaaehcljoaa

namespace Go.Proofs.Ytpnknaaehcljoaa
open Go.Abs
set_option linter.unusedSimpArgs false
set_option linter.unusedVariables false
end Go.Proofs.Ytpnknaaehcljoaa

namespace Go.Proofs.Ytpnknaaehcljoaa
open Go.Abs
open Nat (reduceEqDiff reduceMod reduceAdd reduceLT reduceLeDiff reduceSub reduceMul)
set_option linter.unusedSimpArgs false
set_option linter.unusedVariables false
def zgg (n k:Int):Int:=if 0 ≤ n∧0 ≤ k∧k ≤ n then (bin n.toNat k.toNat:Nat) else 0
theorem zlU (n k:Int) (hn:n ≤ 57):AC Try.prog 103 [int n,int k] (.im (int (zgg n k))):=by
 refine AC.go (rs:=[.tmp 4]) zbq zaD Try.func103 rfl rfl rfl (by kernel_rfl) fun hl=>?_
 simp (maxSteps:=5000000) -dsimp only [↓gp,gq,reduceCtorEq,reduceEqDiff,reduceLT,reduceLeDiff,reduceAdd,reduceMul,reduceSub,Nat.reduceBEq,Int.reduceToNat,Int.reduceLE,Int.reduceLT,Int.reduceNeg,reduceMod,zac,zad,zab,zaa,gT,TK.isInt,TK.agg,Array.toList]
 refine zak (zaY _ _ _) ?_
 simp (maxSteps:=5000000) -dsimp only [↓gp,gq,reduceCtorEq,reduceEqDiff,reduceLT,reduceLeDiff,reduceAdd,reduceMul,reduceSub,Nat.reduceBEq,Int.reduceToNat,Int.reduceLE,Int.reduceLT,Int.reduceNeg,reduceMod,zac,zad,zab,zaa,gT,TK.isInt,TK.agg,Array.toList]
 refine ⟨fun h=>zak (zaY _ _ _) ?_,fun h=>?_⟩
 ·simp (maxSteps:=5000000) -dsimp only [↓gp,gq,reduceCtorEq,reduceEqDiff,reduceLT,reduceLeDiff,reduceAdd,reduceMul,reduceSub,Nat.reduceBEq,Int.reduceToNat,Int.reduceLE,Int.reduceLT,Int.reduceNeg,reduceMod,zac,zad,zab,zaa,gT,TK.isInt,TK.agg,Array.toList]
  refine ⟨fun h2=>?_,fun h2=>?_⟩
  ·unfold zgg
   rw [if_neg (by simp at h2;omega)]
  ·have h1:0 ≤ n:=by simp at h;omega
   have h3:0 ≤ k∧k ≤ n:=by simp at h2;omega
   obtain ⟨n,rfl⟩:=Int.eq_ofNat_of_zero_le h1
   obtain ⟨k,rfl⟩:=Int.eq_ofNat_of_zero_le h3.1
   have hn:n ≤ 57:=by omega
   have hk:k ≤ n:=by omega
   refine zas (fun (i:Nat) s=>s.sl 0 = int n∧s.sl 1 = int k∧s.sl 5 = int (bin n i:Nat)∧s.sl 6 = int i∧(i ≤ k)) (fun i=>k - i) (0) (by refine ⟨?_,?_,?_,?_,by omega⟩ <;> (first | (simp (maxSteps:=5000000) -dsimp only [gr,reduceEqDiff,reduceLT,reduceAdd,reduceMod,Nat.reduceBEq,zaa,zac,zad,zab,zfA];first | done | rfl | (simp;done)) | assumption | rfl)) ?_
   intro i sa ⟨h0a,h1a,h5a,h6a,hIa⟩
   simp (maxSteps:=5000000) -dsimp only [↓gp,gq,reduceCtorEq,reduceEqDiff,reduceLT,reduceLeDiff,reduceAdd,reduceMul,reduceSub,Nat.reduceBEq,Int.reduceToNat,Int.reduceLE,Int.reduceLT,Int.reduceNeg,reduceMod,zac,zad,zab,zaa,gT,TK.isInt,TK.agg,Array.toList,h0a,h1a,h5a,h6a]
   refine ⟨fun h=>?_,fun h=>?_⟩
   ·rw [zaf h (by omega)]
    refine ⟨by omega,?_⟩
    exact zai (i + 1) (by refine ⟨?_,?_,?_,?_,by omega⟩ <;> (first | (simp (maxSteps:=5000000) -dsimp only [gr,reduceEqDiff,reduceLT,reduceAdd,reduceMod,Nat.reduceBEq,zaa,zac,zad,zab,h0a,h1a,h5a,h6a,zaf h (by omega),zzt (i:=i) hn (by omega),zzu (i:=i) hn (by omega),zzv (i:=i) hn];first | done | rfl | (simp;done)) | assumption | rfl)) (by first | omega | (simp only;omega) | (dsimp only;omega) | (show _ < _;simp;omega))
   ·have:i = k:=by omega
    subst this
    unfold zgg
    rw [if_pos ⟨by omega,by omega,by omega⟩]
    simp
 ·unfold zgg
  rw [if_neg (by simp at h;omega)]
end Go.Proofs.Ytpnknaaehcljoaa

namespace Go.Proofs.Ytpnknaaehcljoaa
open Go.Abs
open Nat (reduceEqDiff reduceMod reduceAdd reduceLT reduceLeDiff reduceSub reduceMul)
set_option linter.unusedSimpArgs false
set_option linter.unusedVariables false
theorem zth (bs:List Int):AC Try.prog 12 [.sl false 1 (kL .u8 bs)] (.im (bool (decide (1048576 < (bs.length:Int))))):=by
 refine AC.go (rs:=[.tmp 2]) zbq zaD Try.func12 rfl rfl rfl (by kernel_rfl) fun hl=>?_
 simp (maxSteps:=5000000) -dsimp only [↓gp,gq,reduceCtorEq,reduceEqDiff,reduceLT,reduceLeDiff,reduceAdd,reduceMul,reduceSub,Nat.reduceBEq,Int.reduceToNat,Int.reduceLE,Int.reduceLT,Int.reduceNeg,reduceMod,zac,zad,zab,zaa,gT,TK.isInt,TK.agg,Array.toList]
theorem zb8 (xs ys:List Int):AC Try.prog 28 [zbr xs,zbr ys] (.im (bool (decide (xs = ys)))):=by
 refine AC.go (rs:=[.tmp 4]) zbq zaD Try.func28 rfl rfl rfl (by kernel_rfl) fun hl=>?_
 simp only [zaH,zb2,zaN,and_true] at hl
 simp (maxSteps:=5000000) -dsimp only [↓gp,gq,reduceCtorEq,reduceEqDiff,reduceLT,reduceLeDiff,reduceAdd,reduceMul,reduceSub,Nat.reduceBEq,Int.reduceToNat,Int.reduceLE,Int.reduceLT,Int.reduceNeg,reduceMod,zac,zad,zab,zaa,gT,TK.isInt,TK.agg,Array.toList]
 refine ⟨fun h=>?_,fun h=>?_⟩
 ·intro e
  simp [e] at h
 ·have hn:xs.length = ys.length:=by simp at h;omega
  refine zas (fun (i:Nat) s=>s.sl 0 = zbr xs∧s.sl 1 = zbr ys∧s.sl 5 = int i∧i ≤ xs.length∧xs.take i = ys.take i) (fun i=>xs.length - i) 0 ⟨by simp (maxSteps:=5000000) -dsimp only [gr,reduceEqDiff,reduceLT,reduceAdd,reduceMod,Nat.reduceBEq,zaa,zac,zad,zab],by simp (maxSteps:=5000000) -dsimp only [gr,reduceEqDiff,reduceLT,reduceAdd,reduceMod,Nat.reduceBEq,zaa,zac,zad,zab],by simp (maxSteps:=5000000) -dsimp only [gr,reduceEqDiff,reduceLT,reduceAdd,reduceMod,Nat.reduceBEq,zaa,zac,zad,zab];rfl,by simp,by simp⟩ ?_
  intro i s1 ⟨h0,h1,h5,hi,hall⟩
  simp (maxSteps:=5000000) -dsimp only [↓gp,gq,reduceCtorEq,reduceEqDiff,reduceLT,reduceLeDiff,reduceAdd,reduceMul,reduceSub,Nat.reduceBEq,Int.reduceToNat,Int.reduceLE,Int.reduceLT,Int.reduceNeg,reduceMod,zac,zad,zab,zaa,gT,TK.isInt,TK.agg,Array.toList,h0,h1,h5]
  refine ⟨fun h=>⟨by kernel_rfl,h,h,by omega,by omega,fun ha=>?_,fun ha=>?_⟩,fun h=>?_⟩
  ·intro e
   simp [e] at ha
  ·refine zai (i + 1) ⟨by simp (maxSteps:=5000000) -dsimp only [gr,reduceEqDiff,reduceLT,reduceAdd,reduceMod,Nat.reduceBEq,zaa,zac,zad,zab,h0],by simp (maxSteps:=5000000) -dsimp only [gr,reduceEqDiff,reduceLT,reduceAdd,reduceMod,Nat.reduceBEq,zaa,zac,zad,zab,h1],by simp (maxSteps:=5000000) -dsimp only [gr,reduceEqDiff,reduceLT,reduceAdd,reduceMod,Nat.reduceBEq,zaa,zac,zad,zab];rw [zaf h hl.1],h,?_⟩ (by omega)
   rw [zaF 0 h,zaF 0 (show i < ys.length by omega),hall]
   simp at ha
   simpa using ha
  ·rw [List.take_of_length_le (by omega),List.take_of_length_le (by omega)] at hall
   exact hall
theorem zcs (xs ys:List (List Int)):AC Try.prog 25 [zcp xs,zcp ys] (.im (bool (decide (xs = ys)))):=by
 refine AC.go (rs:=[.tmp 4]) zbq zaD Try.func25 rfl rfl rfl (by kernel_rfl) fun hl=>?_
 simp only [zaH,zvf,zaN,and_true] at hl
 simp (maxSteps:=5000000) -dsimp only [↓gp,gq,reduceCtorEq,reduceEqDiff,reduceLT,reduceLeDiff,reduceAdd,reduceMul,reduceSub,Nat.reduceBEq,Int.reduceToNat,Int.reduceLE,Int.reduceLT,Int.reduceNeg,reduceMod,zac,zad,zab,zaa,gT,TK.isInt,TK.agg,Array.toList]
 refine ⟨fun h=>?_,fun h=>?_⟩
 ·intro e
  simp [e] at h
 ·have hn:xs.length = ys.length:=by simp at h;omega
  refine zas (fun (i:Nat) s=>s.sl 0 = zcp xs∧s.sl 1 = zcp ys∧s.sl 5 = int i∧i ≤ xs.length∧xs.take i = ys.take i) (fun i=>xs.length - i) 0 ⟨by simp (maxSteps:=5000000) -dsimp only [gr,reduceEqDiff,reduceLT,reduceAdd,reduceMod,Nat.reduceBEq,zaa,zac,zad,zab],by simp (maxSteps:=5000000) -dsimp only [gr,reduceEqDiff,reduceLT,reduceAdd,reduceMod,Nat.reduceBEq,zaa,zac,zad,zab],by simp (maxSteps:=5000000) -dsimp only [gr,reduceEqDiff,reduceLT,reduceAdd,reduceMod,Nat.reduceBEq,zaa,zac,zad,zab];rfl,by simp,by simp⟩ ?_
  intro i s1 ⟨h0,h1,h5,hi,hall⟩
  simp (maxSteps:=5000000) -dsimp only [↓gp,gq,reduceCtorEq,reduceEqDiff,reduceLT,reduceLeDiff,reduceAdd,reduceMul,reduceSub,Nat.reduceBEq,Int.reduceToNat,Int.reduceLE,Int.reduceLT,Int.reduceNeg,reduceMod,zac,zad,zab,zaa,gT,TK.isInt,TK.agg,Array.toList,h0,h1,h5]
  refine ⟨fun h=>⟨by kernel_rfl,h,h,by omega,by omega,zak (zb8 _ _) ?_⟩,fun h=>?_⟩
  ·simp (maxSteps:=5000000) -dsimp only [↓gp,gq,reduceCtorEq,reduceEqDiff,reduceLT,reduceLeDiff,reduceAdd,reduceMul,reduceSub,Nat.reduceBEq,Int.reduceToNat,Int.reduceLE,Int.reduceLT,Int.reduceNeg,reduceMod,zac,zad,zab,zaa,gT,TK.isInt,TK.agg,Array.toList,h0,h1,h5]
   refine ⟨fun ha=>?_,fun ha=>?_⟩
   ·intro e
    simp [e] at ha
   ·refine zai (i + 1) ⟨by simp (maxSteps:=5000000) -dsimp only [gr,reduceEqDiff,reduceLT,reduceAdd,reduceMod,Nat.reduceBEq,zaa,zac,zad,zab,h0],by simp (maxSteps:=5000000) -dsimp only [gr,reduceEqDiff,reduceLT,reduceAdd,reduceMod,Nat.reduceBEq,zaa,zac,zad,zab,h1],by simp (maxSteps:=5000000) -dsimp only [gr,reduceEqDiff,reduceLT,reduceAdd,reduceMod,Nat.reduceBEq,zaa,zac,zad,zab];rw [zaf h hl.1.1],h,?_⟩ (by omega)
    rw [zaF [] h,zaF [] (show i < ys.length by omega),hall]
    simp at ha
    simpa using ha
  ·rw [List.take_of_length_le (by omega),List.take_of_length_le (by omega)] at hall
   exact hall
theorem zbH (a:Int) (l:List Int):decide (a = a∧l = l) = true:=by simp
end Go.Proofs.Ytpnknaaehcljoaa

namespace Go.Proofs.Ytpnknaaehcljoaa
open Go.Abs
open Nat (reduceEqDiff reduceMod reduceAdd reduceLT reduceLeDiff reduceSub reduceMul)
set_option linter.unusedSimpArgs false
set_option linter.unusedVariables false
def lnM (c:Nat→Int) (n Q:Nat):List Int:=(List.range (n + 1)).map fun t=>lnA c n Q t
def lnT (c:Nat→Int) (n q k:Nat):List Int:=(List.range (n + 1)).map fun t=>if t < q + k then lnA c n (q + 1) t else lnA c n q t
theorem ztf (c:Nat→Int) (n q k:Nat):(lnT c n q k).length = n + 1:=by simp [lnT]
theorem zyk (c:Nat→Int) (n q:Nat):lnT c n q 0 = lnM c n q:=by
 unfold lnT lnM
 refine List.map_congr_left fun t _=>?_
 by_cases h:t < q + 0
 ·rw [if_pos h,zlR,if_neg (by omega),Int.add_zero]
 ·rw [if_neg h]
theorem zAv (c:Nat→Int) {n q k:Nat} (h:n < q + k):lnT c n q k = lnM c n (q + 1):=by
 unfold lnT lnM
 refine List.map_congr_left fun t ht=>if_pos ?_
 have:=List.mem_range.1 ht
 omega
theorem zAw (c:Nat→Int) {n q k:Nat} (h:q + k ≤ n):(lnT c n q k).getD (q + k) 0 = lnA c n q (q + k):=by
 unfold lnT
 rw [List.getD_eq_getElem?_getD,List.getElem?_map,List.getElem?_range (by omega)]
 simp
theorem zAx (c:Nat→Int) {n q k:Nat} (h:q + k ≤ n):(lnT c n q k).set (q + k) (lnA c n (q + 1) (q + k)) = lnT c n q (k + 1):=by
 unfold lnT
 refine List.ext_getElem (by simp) fun t h1 h2=>?_
 rw [List.getElem_set,List.getElem_map,List.getElem_map,List.getElem_range]
 by_cases e:q + k = t
 ·subst e;rw [if_pos rfl,if_pos (by omega)]
 ·rw [if_neg e]
  by_cases h3:t < q + k
  ·rw [if_pos h3,if_pos (by omega)]
  ·rw [if_neg h3,if_neg (by omega)]
noncomputable def lnC (xs:List Int) (q:Nat):Int:=((zeS (zcr xs) q 64).length:Int)
noncomputable def lnL (n:Int) (xs:List Int):List Int:=if zfC n xs = true then lnM (lnC xs) n.toNat (ztc (zcr xs)) else []
theorem zDo (xs:List Int) (q:Nat):0 ≤ lnC xs q∧lnC xs q ≤ 64:=by
 have:=zxW (zcr xs) q (Nat.le_refl 64)
 unfold lnC;omega
theorem zfN (n:Int) (xs:List Int):AC Try.prog 33 [.ag [int n,zbr xs]] (.fr 3 1 (iL (lnL n xs))):=by
 refine AC.go (rs:=[.tmp 2]) zbq zaD Try.func33 rfl rfl rfl (by kernel_rfl) fun hl=>?_
 simp (maxSteps:=5000000) -dsimp only [↓gp,gq,reduceCtorEq,reduceEqDiff,reduceLT,reduceLeDiff,reduceAdd,reduceMul,reduceSub,Nat.reduceBEq,Int.reduceToNat,Int.reduceLE,Int.reduceLT,Int.reduceNeg,reduceMod,zac,zad,zab,zaa,gT,TK.isInt,TK.agg,Array.toList]
 refine zak (zcq n xs) ?_
 simp (maxSteps:=5000000) -dsimp only [↓gp,gq,reduceCtorEq,reduceEqDiff,reduceLT,reduceLeDiff,reduceAdd,reduceMul,reduceSub,Nat.reduceBEq,Int.reduceToNat,Int.reduceLE,Int.reduceLT,Int.reduceNeg,reduceMod,zac,zad,zab,zaa,gT,TK.isInt,TK.agg,Array.toList]
 refine ⟨fun hh=>?_,fun hh=>?_⟩
 ·have hh:zfC n xs = false:=by simpa using hh
  have e:lnL n xs = []:=by unfold lnL;rw [if_neg (by rw [hh];decide)]
  rw [e];rfl
 ·have hh:zfC n xs = true:=by simpa using hh
  have e:lnL n xs = lnM (lnC xs) n.toNat (ztc (zcr xs)):=if_pos hh
  rw [e]
  obtain ⟨h1,h6,_⟩:=zfD.1 hh
  obtain ⟨m,rfl⟩:∃ m:Nat,n = m:=⟨n.toNat,by omega⟩
  rw [Int.toNat_natCast]
  have hw1:IntKind.i64.wrap ((m:Int) + 1) = ((m + 1:Nat):Int):=by rw [zaq (by omega) (by omega)];omega
  have hfv:zzx (zfR m xs) = zzx (zcr xs):=by
   have:zfR (m:Int) xs = zcr xs:=by funext s;unfold zfR;rw [hh,Bool.true_and]
   rw [this]
  simp (maxSteps:=5000000) -dsimp only [↓gp,gq,reduceCtorEq,reduceEqDiff,reduceLT,reduceLeDiff,reduceAdd,reduceMul,reduceSub,Nat.reduceBEq,Int.reduceToNat,Int.reduceLE,Int.reduceLT,Int.reduceNeg,reduceMod,zac,zad,zab,zaa,gT,TK.isInt,TK.agg,Array.toList,hw1]
  refine ⟨by omega,by omega,zak (zgc m xs) ?_⟩
  rw [hfv]
  have hfl:=zpt (zcr xs)
  have hd7:=zlI (zcr xs)
  have hz:List.replicate (m + 1) (0:Int) = lnM (lnC xs) m 0:=by
   refine List.ext_getElem (by simp [lnM]) fun t h1 h2=>?_
   simp [lnM,zsc]
  generalize hF:zzx (zcr xs) = F at *
  simp (maxSteps:=5000000) -dsimp only [↓gp,gq,reduceCtorEq,reduceEqDiff,reduceLT,reduceLeDiff,reduceAdd,reduceMul,reduceSub,Nat.reduceBEq,Int.reduceToNat,Int.reduceLE,Int.reduceLT,Int.reduceNeg,reduceMod,zac,zad,zab,zaa,gT,TK.isInt,TK.agg,Array.toList,hw1]
  refine zas (fun (q:Nat) s=>s.sl 1 = .ref 1 1 0∧s.rw 1 = ⟨1,.box 27 [int m,zbr xs]⟩∧s.sl 3 = .own 14 1∧s.rw 14 = ⟨1,.sli 3 1 false (iL (lnM (lnC xs) m q))⟩∧s.sl 4 = .own 16 1∧s.rw 16 = ⟨1,.sli 3 1 false (iL F)⟩∧s.sl 5 = int q∧(q ≤ F.length)) (fun q=>F.length - q) (0) (by refine ⟨?_,?_,?_,?_,?_,?_,?_,Nat.zero_le _⟩ <;> (first | (simp (maxSteps:=5000000) -dsimp only [gr,reduceEqDiff,reduceLT,reduceAdd,reduceMod,Nat.reduceBEq,zaa,zac,zad,zab,hz];first | done | rfl | (simp;done)) | assumption | rfl)) ?_
  intro q sa ⟨h1a,r1a,h3a,r14a,h4a,r16a,h5a,hIa⟩
  have hw2:IntKind.i64.wrap ((m:Int) - q) = (m:Int) - q:=zaq (by omega) (by omega)
  simp (maxSteps:=5000000) -dsimp only [↓gp,gq,reduceCtorEq,reduceEqDiff,reduceLT,reduceLeDiff,reduceAdd,reduceMul,reduceSub,Nat.reduceBEq,Int.reduceToNat,Int.reduceLE,Int.reduceLT,Int.reduceNeg,reduceMod,zac,zad,zab,zaa,gT,TK.isInt,TK.agg,Array.toList,h1a,r1a,h3a,r14a,h4a,r16a,h5a]
  refine ⟨fun hq=>?_,fun hq=>?_⟩
  ·have hFq:F.getD q 0 = lnC xs q:=by rw [← hF,zwq _ (by rw [← hfl];exact hq)];rfl
   refine zas (fun (k:Nat) s=>s.sl 1 = .ref 1 1 0∧s.rw 1 = ⟨1,.box 27 [int m,zbr xs]⟩∧s.sl 3 = .own 14 1∧s.rw 14 = ⟨1,.sli 3 1 false (iL (lnT (lnC xs) m q k))⟩∧s.sl 4 = .own 16 1∧s.rw 16 = ⟨1,.sli 3 1 false (iL F)⟩∧s.sl 5 = int q∧s.sl 6 = int k∧(q + k ≤ m + 1 ∨ k = 0)) (fun k=>m + 1 - k) (0) (by refine ⟨?_,?_,?_,?_,?_,?_,?_,?_,.inr rfl⟩ <;> (first | (simp (maxSteps:=5000000) -dsimp only [gr,reduceEqDiff,reduceLT,reduceAdd,reduceMod,Nat.reduceBEq,zaa,zac,zad,zab,h1a,r1a,h3a,r14a,h4a,r16a,h5a,zyk];first | done | rfl | (simp;done)) | assumption | rfl)) ?_
   intro k sb ⟨h1b,r1b,h3b,r14b,h4b,r16b,h5b,h6b,hIb⟩
   simp (maxSteps:=5000000) -dsimp only [↓gp,gq,reduceCtorEq,reduceEqDiff,reduceLT,reduceLeDiff,reduceAdd,reduceMul,reduceSub,Nat.reduceBEq,Int.reduceToNat,Int.reduceLE,Int.reduceLT,Int.reduceNeg,reduceMod,zac,zad,zab,zaa,gT,TK.isInt,TK.agg,Array.toList,h1b,r1b,h3b,r14b,h4b,r16b,h5b,h6b,hw2]
   refine ⟨fun hk=>?_,fun hk=>?_⟩
   ·have hqk:q + k ≤ m:=by omega
    have hw3:IntKind.i64.wrap ((q:Int) + k) = ((q + k:Nat):Int):=by rw [zaq (by omega) (by omega)];omega
    have hll:=ztf (lnC xs) m q k
    simp (maxSteps:=5000000) -dsimp only [↓gp,gq,reduceCtorEq,reduceEqDiff,reduceLT,reduceLeDiff,reduceAdd,reduceMul,reduceSub,Nat.reduceBEq,Int.reduceToNat,Int.reduceLE,Int.reduceLT,Int.reduceNeg,reduceMod,zac,zad,zab,zaa,gT,TK.isInt,TK.agg,Array.toList,h1b,r1b,h3b,r14b,h4b,r16b,h5b,h6b,hw2,hw3]
    have hch:zgg ((m:Int) - q) k = (bin (m - q) k:Nat):=by unfold zgg;rw [if_pos ⟨by omega,by omega,by omega⟩,show ((m:Int) - q).toNat = m - q by omega,Int.toNat_natCast]
    have hbl:=zsd (n:=m - q) (k:=k) (by omega) (by omega)
    have hcb:=zDo xs q
    obtain ⟨t1,t2,t3,t4⟩:=zwL hcb (b:=(bin (m - q) k:Nat)) ⟨by omega,by omega⟩ k
    have hsm:=zoz (zDo xs) (n:=m) (t:=q + k) (by omega) hqk q
    have hget:=zAw (lnC xs) hqk
    have hA:lnA (lnC xs) m (q + 1) (q + k) = lnA (lnC xs) m q (q + k) + sgI k (lnC xs q * (bin (m - q) k:Nat)):=by
     rw [zlR,if_pos (by omega),show q + k - q = k by omega]
    have hset:=zAx (lnC xs) hqk
    have hm:(k:Int).tmod 2 = ((k % 2:Nat):Int):=by rw [zwa (by omega)];omega
    have v1:IntKind.i64.wrap (2 * ((k % 2:Nat):Int)) = 2 * ((k % 2:Nat):Int):=zaq (by omega) (by omega)
    have v2:IntKind.i64.wrap (1 - 2 * ((k % 2:Nat):Int)) = 1 - 2 * ((k % 2:Nat):Int):=zaq (by omega) (by omega)
    generalize hB:((bin (m - q) k:Nat):Int) = B at *
    generalize hC:lnC xs q = C at *
    have hs:C * B * (1 - 2 * ((k % 2:Nat):Int)) = sgI k (C * B):=by
     unfold sgI
     rcases Nat.mod_two_eq_zero_or_one k with h | h
     ·rw [h,if_pos rfl];simp
     ·rw [h,if_neg (by decide)];simp
    have v3:IntKind.i64.wrap (C * B) = C * B:=zaq (by omega) (by omega)
    have v4:IntKind.i64.wrap (sgI k (C * B)) = sgI k (C * B):=zaq (by omega) (by omega)
    have v5:IntKind.i64.wrap (lnA (lnC xs) m q (q + k) + sgI k (C * B)) = lnA (lnC xs) m (q + 1) (q + k):=by rw [hA];exact zaq (by omega) (by omega)
    refine ⟨by kernel_rfl,by omega,by omega,hq,hq,zak (zlU _ _ (by omega)) ?_⟩
    simp (maxSteps:=5000000) -dsimp only [↓gp,gq,reduceCtorEq,reduceEqDiff,reduceLT,reduceLeDiff,reduceAdd,reduceMul,reduceSub,Nat.reduceBEq,Int.reduceToNat,Int.reduceLE,Int.reduceLT,Int.reduceNeg,reduceMod,zac,zad,zab,zaa,gT,TK.isInt,TK.agg,Array.toList,h1b,r1b,h3b,r14b,h4b,r16b,h5b,h6b,hw2,hw3,hch,hFq,hget,hm,v1,v2,v3,v4,v5,hs]
    exact ⟨by decide,by omega,by omega,by kernel_rfl,zai (k + 1) (by refine ⟨?_,?_,?_,?_,?_,?_,?_,?_,by omega⟩ <;> (first | (simp (maxSteps:=5000000) -dsimp only [gr,reduceEqDiff,reduceLT,reduceAdd,reduceMod,Nat.reduceBEq,zaa,zac,zad,zab,h1b,r1b,h3b,r14b,h4b,r16b,h5b,h6b,hset,zaf (show k < 7 by omega) (by omega)];first | done | rfl | (simp;done)) | assumption | rfl)) (by first | omega | (simp only;omega) | (dsimp only;omega) | (show _ < _;simp;omega))⟩
   ·have e:=zAv (lnC xs) (n:=m) (q:=q) (k:=k) (by omega)
    exact zai (q + 1) (by refine ⟨?_,?_,?_,?_,?_,?_,?_,by omega⟩ <;> (first | (simp (maxSteps:=5000000) -dsimp only [gr,reduceEqDiff,reduceLT,reduceAdd,reduceMod,Nat.reduceBEq,zaa,zac,zad,zab,h1a,r1a,h3a,r14a,h4a,r16a,h5a,h1b,r1b,h3b,r14b,h4b,r16b,h5b,h6b,e,zaf hq (by omega)];first | done | rfl | (simp;done)) | assumption | rfl)) (by first | omega | (simp only;omega) | (dsimp only;omega) | (show _ < _;simp;omega))
  ·have:q = F.length:=by omega
   subst this
   rw [← hfl]
end Go.Proofs.Ytpnknaaehcljoaa

namespace Go.Proofs.Ytpnknaaehcljoaa
open Go.Abs
set_option linter.unusedSimpArgs false
set_option linter.unusedVariables false
end Go.Proofs.Ytpnknaaehcljoaa

namespace Go.Proofs.Ytpnknaaehcljoaa
open Go.Abs
set_option linter.unusedSimpArgs false
set_option linter.unusedVariables false
end Go.Proofs.Ytpnknaaehcljoaa

namespace Go.Proofs.Ytpnknaaehcljoaa
open Go.Abs
set_option linter.unusedSimpArgs false
set_option linter.unusedVariables false
end Go.Proofs.Ytpnknaaehcljoaa

namespace Go.Proofs.Ytpnknaaehcljoaa
open Go.Abs
set_option linter.unusedSimpArgs false
set_option linter.unusedVariables false
end Go.Proofs.Ytpnknaaehcljoaa

namespace Go.Proofs.Ytpnknaaehcljoaa
open Go.Abs
set_option linter.unusedSimpArgs false
set_option linter.unusedVariables false
end Go.Proofs.Ytpnknaaehcljoaa

namespace Go.Proofs.Ytpnknaaehcljoaa
open Go.Abs
set_option linter.unusedSimpArgs false
set_option linter.unusedVariables false
end Go.Proofs.Ytpnknaaehcljoaa

namespace Go.Proofs.Ytpnknaaehcljoaa
open Go.Abs
set_option linter.unusedSimpArgs false
set_option linter.unusedVariables false
end Go.Proofs.Ytpnknaaehcljoaa

namespace Go.Proofs.Ytpnknaaehcljoaa
open Go.Abs
set_option linter.unusedSimpArgs false
set_option linter.unusedVariables false
end Go.Proofs.Ytpnknaaehcljoaa

namespace Go.Proofs.Ytpnknaaehcljoaa
open Go.Abs
set_option linter.unusedSimpArgs false
set_option linter.unusedVariables false
end Go.Proofs.Ytpnknaaehcljoaa

namespace Go.Proofs.Ytpnknaaehcljoaa
open Go.Abs
set_option linter.unusedSimpArgs false
set_option linter.unusedVariables false
end Go.Proofs.Ytpnknaaehcljoaa

namespace Go.Proofs.Ytpnknaaehcljoaa
open Go.Abs
set_option linter.unusedSimpArgs false
set_option linter.unusedVariables false
end Go.Proofs.Ytpnknaaehcljoaa

namespace Go.Proofs.Ytpnknaaehcljoaa
open Go.Abs
set_option linter.unusedSimpArgs false
set_option linter.unusedVariables false
end Go.Proofs.Ytpnknaaehcljoaa

namespace Go.Proofs.Ytpnknaaehcljoaa
open Go.Abs
set_option linter.unusedSimpArgs false
set_option linter.unusedVariables false
end Go.Proofs.Ytpnknaaehcljoaa

namespace Go.Proofs.Ytpnknaaehcljoaa
open Go.Abs
set_option linter.unusedSimpArgs false
set_option linter.unusedVariables false
end Go.Proofs.Ytpnknaaehcljoaa

namespace Go.Proofs.Ytpnknaaehcljoaa
open Go.Abs
open Nat (reduceEqDiff reduceMod reduceAdd reduceLT reduceLeDiff reduceSub reduceMul)
set_option linter.unusedSimpArgs false
set_option linter.unusedVariables false
def zbP (xs:List Int) (s:Nat):Bool:=xs.all fun x=>!(x.toNat &&& s == x.toNat)
theorem zpH {xs:List Int} {k s:Nat} (h:k < xs.length):zbP (xs.take (k + 1)) s = (zbP (xs.take k) s && !((xs.getD k 0).toNat &&& s == (xs.getD k 0).toNat)):=by
 unfold zbP
 rw [zaF 0 h,List.all_append];simp
theorem zpI {x:Int} (hx:0 ≤ x∧x < 64) {s:Nat} (hs:s < 64):(zet .i64 x (s:Int) != x) = !(x.toNat &&& s == x.toNat):=by
 have e:x = ((x.toNat:Nat):Int):=by omega
 rw [e,zdA (by omega) (by omega),Int.toNat_natCast]
 show (!(_ == _)) = _
 congr 1
 refine Bool.eq_iff_iff.2 ?_
 rw [beq_iff_eq,beq_iff_eq]
 omega
noncomputable def apF (n:Int) (xs:List Int) (s:Nat):Bool:=decide (s < 2 ^ n.toNat) && zbP xs s
theorem zlV (n:Nat) (xs:List Int) (hn:n ≤ 6) (hx:okS xs):AC Try.prog 100 [int n,zbr xs] (.ag [.im (int n),.fr 3 1 (iL (ofN (zga (apF n xs) true)))]):=by
 refine AC.go (rs:=[.cell 4 27]) zbq zaD Try.func100 rfl rfl rfl (by kernel_rfl) fun hl=>?_
 simp only [zaH,zaN,and_true,zir,zoP,zhi,zb2,zfY,true_and] at hl
 have h64:=zce hn
 have hsh:zoE .i64 1 (n:Int) = ((2 ^ n:Nat):Int):=zcC hn
 have hun:IntKind.u64.wrap (n:Int) = (n:Int):=zba (by omega)
 simp (maxSteps:=5000000) -dsimp only [↓gp,gq,reduceCtorEq,reduceEqDiff,reduceLT,reduceLeDiff,reduceAdd,reduceMul,reduceSub,Nat.reduceBEq,Int.reduceToNat,Int.reduceLE,Int.reduceLT,Int.reduceNeg,reduceMod,zac,zad,zab,zaa,gT,TK.isInt,TK.agg,Array.toList]
 refine zas (fun (za:Nat × Nat) s=>match za with | (t,v)=>s.sl 0 = int n∧s.sl 1 = zbr xs∧s.sl 4 = .ref 4 1 0∧s.rw 4 = ⟨1,.box 27 [int 0,.v (.slice none 0 0)]⟩∧s.sl 5 = .own 9 v∧s.rw 9 = ⟨v,.sli 3 1 false (iL (ofN ((List.range t).filter (zbP xs))))⟩∧s.sl 6 = int t∧(t ≤ 2 ^ n)) (fun (t,v)=>2 ^ n - t) ((0,1)) (by refine ⟨?_,?_,?_,?_,?_,?_,?_,by simp⟩ <;> (first | (simp (maxSteps:=5000000) -dsimp only [gr,reduceEqDiff,reduceLT,reduceAdd,reduceMod,Nat.reduceBEq,zaa,zac,zad,zab];first | done | rfl | (simp;done)) | assumption | rfl)) ?_
 intro (t,v) sa ⟨h0a,h1a,h4a,r4a,h5a,r9a,h6a,hIa⟩
 have hfl:((List.range t).filter (zbP xs)).length ≤ 64:=by
  have:=List.length_filter_le (zbP xs) (List.range t)
  rw [List.length_range] at this
  omega
 simp (maxSteps:=5000000) -dsimp only [↓gp,gq,reduceCtorEq,reduceEqDiff,reduceLT,reduceLeDiff,reduceAdd,reduceMul,reduceSub,Nat.reduceBEq,Int.reduceToNat,Int.reduceLE,Int.reduceLT,Int.reduceNeg,reduceMod,zac,zad,zab,zaa,gT,TK.isInt,TK.agg,Array.toList,h0a,h1a,h4a,r4a,h5a,r9a,h6a,hsh,hun]
 refine ⟨fun h=>?_,fun h=>?_⟩
 ·have hyes:zbP xs t = true→ofN ((List.range (t + 1)).filter (zbP xs)) = ofN ((List.range t).filter (zbP xs)) ++ [(t:Int)]:=fun h=>by
   rw [List.range_succ,List.filter_append,za4]
   simp [h,ofN]
  have hno:zbP xs t = false→ofN ((List.range (t + 1)).filter (zbP xs)) = ofN ((List.range t).filter (zbP xs)):=fun h=>by
   rw [List.range_succ,List.filter_append,za4]
   simp [h,ofN]
  have hz:zbP (xs.take 0) t = true:=rfl
  refine zas (fun (k:Nat) s=>s.sl 0 = int n∧s.sl 1 = zbr xs∧s.sl 4 = .ref 4 1 0∧s.rw 4 = ⟨1,.box 27 [int 0,.v (.slice none 0 0)]⟩∧s.sl 5 = .own 9 v∧s.rw 9 = ⟨v,.sli 3 1 false (iL (ofN ((List.range t).filter (zbP xs))))⟩∧s.sl 6 = int t∧s.sl 7 = .v (.bool (zbP (xs.take k) t))∧s.sl 8 = int k∧(k ≤ xs.length)) (fun k=>xs.length - k) (0) (by refine ⟨?_,?_,?_,?_,?_,?_,?_,?_,?_,by omega⟩ <;> (first | (simp (maxSteps:=5000000) -dsimp only [gr,reduceEqDiff,reduceLT,reduceAdd,reduceMod,Nat.reduceBEq,zaa,zac,zad,zab,h0a,h1a,h4a,r4a,h5a,r9a,h6a,hz];first | done | rfl | (simp;done)) | assumption | rfl)) ?_
  intro k sb ⟨h0b,h1b,h4b,r4b,h5b,r9b,h6b,h7b,h8b,hIb⟩
  by_cases hk:k < xs.length
  ·have hs2:=zpH (s:=t) hk
   have htest:=zpI (zwj hx hk) (s:=t) (by omega)
   simp (maxSteps:=5000000) -dsimp only [↓gp,gq,reduceCtorEq,reduceEqDiff,reduceLT,reduceLeDiff,reduceAdd,reduceMul,reduceSub,Nat.reduceBEq,Int.reduceToNat,Int.reduceLE,Int.reduceLT,Int.reduceNeg,reduceMod,zac,zad,zab,zaa,gT,TK.isInt,TK.agg,Array.toList,h0b,h1b,h4b,r4b,h5b,r9b,h6b,h7b,h8b,htest]
   refine ⟨fun _=>⟨by kernel_rfl,fun h3=>⟨hk,hk,hk,hk,?_⟩,fun h3=>?_⟩,fun h=>absurd hk h⟩
   ·rw [h3,Bool.true_and] at hs2
    exact zai (k + 1) (by refine ⟨?_,?_,?_,?_,?_,?_,?_,?_,?_,by omega⟩ <;> (first | (simp (maxSteps:=5000000) -dsimp only [gr,reduceEqDiff,reduceLT,reduceAdd,reduceMod,Nat.reduceBEq,zaa,zac,zad,zab,h0b,h1b,h4b,r4b,h5b,r9b,h6b,h7b,h8b,zaf hk (by omega),hs2];first | done | rfl | (simp;done)) | assumption | rfl)) (by first | omega | (simp only;omega) | (dsimp only;omega) | (show _ < _;simp;omega))
   ·rw [h3,Bool.false_and] at hs2
    exact zai (k + 1) (by refine ⟨?_,?_,?_,?_,?_,?_,?_,?_,?_,by omega⟩ <;> (first | (simp (maxSteps:=5000000) -dsimp only [gr,reduceEqDiff,reduceLT,reduceAdd,reduceMod,Nat.reduceBEq,zaa,zac,zad,zab,h0b,h1b,h4b,r4b,h5b,r9b,h6b,h7b,h8b,zaf hk (by omega),hs2];first | done | rfl | (simp;done)) | assumption | rfl)) (by first | omega | (simp only;omega) | (dsimp only;omega) | (show _ < _;simp;omega))
  ·have ht:xs.take k = xs:=List.take_of_length_le (by omega)
   rw [ht] at h7b
   simp (maxSteps:=5000000) -dsimp only [↓gp,gq,reduceCtorEq,reduceEqDiff,reduceLT,reduceLeDiff,reduceAdd,reduceMul,reduceSub,Nat.reduceBEq,Int.reduceToNat,Int.reduceLE,Int.reduceLT,Int.reduceNeg,reduceMod,zac,zad,zab,zaa,gT,TK.isInt,TK.agg,Array.toList,h0b,h1b,h4b,r4b,h5b,r9b,h6b,h7b,h8b]
   refine ⟨fun h=>absurd h hk,fun _=>⟨fun hb=>?_,fun hb=>?_⟩⟩
   ·have e:=hyes hb
    exact ⟨by rw [zav];omega,zai ((t + 1,v + 1)) (by refine ⟨?_,?_,?_,?_,?_,?_,?_,by dsimp only;omega⟩ <;> (first | (simp (maxSteps:=5000000) -dsimp only [gr,reduceEqDiff,reduceLT,reduceAdd,reduceMod,Nat.reduceBEq,zaa,zac,zad,zab,h0a,h1a,h4a,r4a,h5a,r9a,h6a,h0b,h1b,h4b,r4b,h5b,r9b,h6b,h7b,h8b,zaf h (by omega),e];first | done | rfl | (simp;done)) | assumption | rfl)) (by first | omega | (simp only;omega) | (dsimp only;omega) | (show _ < _;simp;omega))⟩
   ·have e:=hno hb
    exact zai ((t + 1,v)) (by refine ⟨?_,?_,?_,?_,?_,?_,?_,by dsimp only;omega⟩ <;> (first | (simp (maxSteps:=5000000) -dsimp only [gr,reduceEqDiff,reduceLT,reduceAdd,reduceMod,Nat.reduceBEq,zaa,zac,zad,zab,h0a,h1a,h4a,r4a,h5a,r9a,h6a,h0b,h1b,h4b,r4b,h5b,r9b,h6b,h7b,h8b,zaf h (by omega),e];first | done | rfl | (simp;done)) | assumption | rfl)) (by first | omega | (simp only;omega) | (dsimp only;omega) | (show _ < _;simp;omega))
 ·have:t = 2 ^ n:=by omega
  subst this
  refine zak (zlD n _ (zwk fun i hi=>?_)) ?_
  ·have:=List.mem_range.1 (List.mem_filter.1 hi).1;omega
  ·have e:inF (ofN ((List.range (2 ^ n)).filter (zbP xs))) = apF n xs:=by funext s;exact zxT
   rw [e]
   simp (maxSteps:=5000000) -dsimp only [↓gp,gq,reduceCtorEq,reduceEqDiff,reduceLT,reduceLeDiff,reduceAdd,reduceMul,reduceSub,Nat.reduceBEq,Int.reduceToNat,Int.reduceLE,Int.reduceLT,Int.reduceNeg,reduceMod,zac,zad,zab,zaa,gT,TK.isInt,TK.agg,Array.toList,h0a,h1a,h4a,r4a,h5a,r9a,h6a]
end Go.Proofs.Ytpnknaaehcljoaa

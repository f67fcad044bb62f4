/- DERIVED by an AI agent. -/
import Derived.Test.YtkledeboboplmaaGreatDoorQ2
import Derived.Test.YtkledeboboplmaaGreatDoorQ1
import Derived.Test.YtkledeboboplmaaGreatDoorP1
import Derived.Test.YtkledeboboplmaaGreatDoorA11
import Derived.Test.YtkledeboboplmaaGreatDoorA12
namespace Go.Proofs.YtkledeboboplmaaGreatDoor
open Go.Abs
set_option linter.unusedSimpArgs false
set_option linter.unusedVariables false
noncomputable def zku (n:Int) (xs:List Int) (s:Nat):Bool:=zaC n xs && (zcI n s && !zah xs s)
noncomputable def zk5 (n:Int) (xs:List Int):List Nat:=zcK (zku n xs) false
theorem zDA {n:Int} {xs:List Int} {s:Nat} (h:zku n xs s = true):s < 64:=by
 unfold zku at h
 simp only [Bool.and_eq_true] at h
 have:=zfd h.2.1
 omega
theorem zFU (n:Int) (xs:List Int):inF (ofN ((List.range 64).filter (zku n xs))) = zku n xs:=by
 funext s
 rw [zmV]
 refine Bool.eq_iff_iff.2 ?_
 rw [decide_eq_true_iff,List.mem_filter,List.mem_range]
 exact ⟨fun h=>h.2,fun h=>⟨zDA h,h⟩⟩
theorem zve {n:Int} {xs:List Int} (h:zaC n xs = false) (s:Nat):zku n xs s = false:=by unfold zku;rw [h];rfl
theorem zJg {n:Int} {xs:List Int} (h:zaC n xs = false):zk5 n xs = []:=by
 unfold zk5 zcK za4 zaR
 have:zku n xs = fun _=>false:=funext (zve h)
 rw [this];simp
theorem ziJ (n:Int) (xs:List Int):(zk5 n xs).length <= 448:=zk3 _ _
theorem zem (n:Int) (xs:List Int):AC Tryz.prog 60 [.ag [int n,zaz xs]] (.fr 3 1 (iL (ofN (zk5 n xs)))):=by
 refine xac [.tmp 2] Tryz.func60 fun hl=>?_
 refine xg0 ?_
 refine zag (fun (za:Nat × Nat) s=>match za with | (t,v)=>(s.sl 1 = .ref 1 1 0/\s.rw 1 = ⟨1,.box 27 [int n,zaz xs]⟩/\s.sl 3 = .own 5 v/\s.rw 5 = ⟨v,.sli 3 1 false (iL (ofN ((List.range t).filter (zku n xs))))⟩/\s.sl 4 = int t)/\(t <= 64)) (fun (t,v)=>64 - t) ((0,1)) ⟨xc0,sp⟩ ?_
 intro (t,v) sa ⟨Ha,hIa⟩
 have hfl:((List.range t).filter (zku n xs)).length <= 64:=by
  have:=List.length_filter_le (zku n xs) (List.range t)
  rw [List.length_range] at this
  omega
 have hend:(t = 64 \/ zaC n xs = false)->inF (ofN ((List.range t).filter (zku n xs))) = zku n xs:=fun h=>by
  rcases h with rfl | h
  ·exact zFU n xs
  ·funext i
   rw [zmV,zve h]
   exact decide_eq_false fun hm=>by rw [List.mem_filter,zve h] at hm;cases hm.2
 have hext:(t = 64 \/ zaC n xs = false)->AC Tryz.prog 122 [zaz (ofN ((List.range t).filter (zku n xs))),bool false] (.fr 3 1 (iL (ofN (zk5 n xs)))):=fun h=>by
  have:=zfC false _ (zDq (l:=(List.range t).filter (zku n xs)) fun i hi=>zDA (List.mem_filter.1 hi).2)
  rwa [hend h] at this
 refine xg1 Ha ?_
 refine ⟨fun h=>zaa (zat n xs) ?_,fun h=>zaa (hext (.inl om)) ?_⟩
 ·refine xg1 Ha ?_
  refine ⟨fun hc=>zaa (zjD _ _) ?_,fun hc=>zaa (hext (.inr hc)) ?_⟩
  ·have hx:=zcb hc
   have h:t < 64:=om
   have hms:zku n xs t = (zcI n t && !zah xs t):=by unfold zku;rw [hc];rfl
   have hyes:zku n xs t = true->ofN ((List.range (t + 1)).filter (zku n xs)) = ofN ((List.range t).filter (zku n xs)) ++ [(t:Int)]:=fun h=>by
    rw [List.range_succ,List.filter_append,zaD]
    simp [h,ofN]
   have hno:zku n xs t = false->ofN ((List.range (t + 1)).filter (zku n xs)) = ofN ((List.range t).filter (zku n xs)):=fun h=>by
    rw [List.range_succ,List.filter_append,zaD]
    simp [h,ofN]
   refine xg1 Ha ?_
   refine ⟨fun hs=>zaa (zdv n xs t hx h) ?_,fun hs=>?_⟩
   ·refine xg1 Ha ?_
    refine ⟨fun hf=>?_,fun hf=>?_⟩
    ·have e:=hyes (by rw [hms,hs,hf];rfl)
     refine ⟨by rw [zad];omega,zab ((t + 1,v + 1)) ⟨(xc3 Ha (zac h om) e),by dsimp only;omega⟩⟩
    ·have e:=hno (by rw [hms,hf];simp)
     exact zab ((t + 1,v)) ⟨(xc3 Ha (zac h om) e),by dsimp only;omega⟩
   ·have e:=hno (by rw [hms,hs];rfl)
    exact zab ((t + 1,v)) ⟨(xc3 Ha (zac h om) e),by dsimp only;omega⟩
  ·exact xd1 Ha
 ·exact xd1 Ha
theorem ziK (G t:Nat) (hG:G < 18446744073709551616) (ht:t < 64):AC Tryz.prog 170 [int t,.eref false [u64 G] 0] (.im (bool (!G.testBit t))):=by
 refine xac [.tmp 3] Tryz.func170 fun hl=>?_
 refine xg0 ?_
 refine zaa (zbo G t hG ht) ?_
 exact xd0
theorem zkv (n G:Nat) (hn:n <= 6) (hG:G < 18446744073709551616):AC Tryz.prog 119 [int n,u64 G] (.fr 3 1 (iL (ofN (zcK (fun s=>decide (s < 2 ^ n) && !G.testBit s) false)))):=by
 refine xac [.tmp 4] Tryz.func119 fun hl=>?_
 have h64:=zbq hn
 refine xg0 ?_
 refine zaa (zd2 n hn _ [.eref false [u64 G] 0] (fun s=>!G.testBit s) (fun rw=>rfl) fun s hs=>ziK G s hG om) ?_
 refine xg0 ?_
 refine zaa (zkp _ (ztL _ hn)) ?_
 have e:(zax (fun s=>!G.testBit s) (2 ^ n)).testBit = fun s=>decide (s < 2 ^ n) && !G.testBit s:=funext fun s=>zcZ _ _ _
 rw [e]
 exact xd0
theorem zen (n:Int) (xs:List Int):AC Tryz.prog 58 [.ag [int n,zaz xs]] (.fr 3 1 (iL (ofN (zk5 n xs)))):=by
 refine xac [.tmp 2] Tryz.func58 fun hl=>?_
 refine xg0 ?_
 refine zaa (zao n xs) ?_
 refine xg0 ?_
 refine ⟨fun hc=>?_,fun hc=>?_⟩
 ·rw [zJg (by simpa using hc)];rfl
 ·have hc:zaC n xs = true:=by simpa using hc
  obtain ⟨h1,h6,_⟩:=zaK.1 hc
  have hx:=zcb hc
  obtain ⟨m,rfl⟩:∃ m:Nat,n = m:=⟨n.toNat,om⟩
  have h64:=zbq (m:=m) om
  refine ⟨kr,zaa (zaT _ xs hx) ?_⟩
  refine xg0 ?_
  have hm:=zbn (zah xs) 64
  refine zaa (zkv m _ om om) ?_
  have e:(fun s=>decide (s < 2 ^ m) && !(zax (zah xs) 64).testBit s) = zku m xs:=funext fun s=>by
   unfold zku
   rw [hc,zcZ,Bool.true_and]
   unfold zcI
   by_cases hs:s < 2 ^ m
   ·have h2:s < 64:=om
    have h3:decide (0 <= (m:Int)/\(m:Int) <= 6/\0 <= (s:Int)/\(s:Int) < 2 ^ (m:Int).toNat) = true:=decide_eq_true ⟨om,om,om,by rw [Int.toNat_natCast];exact_mod_cast hs⟩
    rw [h3];simp [hs,h2]
   ·have h3:decide (0 <= (m:Int)/\(m:Int) <= 6/\0 <= (s:Int)/\(s:Int) < 2 ^ (m:Int).toNat) = false:=decide_eq_false fun h=>hs (by have:=h.2.2.2;rw [Int.toNat_natCast] at this;exact_mod_cast this)
    rw [h3];simp [hs]
  rw [e]
  refine xg0 ?_
  rfl
theorem zzw (bs:List Int):AC Tryz.prog 10 [.sl false 1 (kL .u8 bs)] (.im (bool (decide (1048576 < (bs.length:Int))))):=by
 refine xac [.tmp 2] Tryz.func10 fun hl=>?_
 exact xd0
noncomputable def gmO (n:Int) (xs:List Int):Int:=if zk5 n xs = [] then -1 else (zar ((zk5 n xs).getD ((zk5 n xs).length - 1) 0):Int)
noncomputable def zEZ (n:Int) (xs:List Int):Bool:=zaC n xs && decide (gmO n xs <= 2)
theorem zAp {n:Int} {xs:List Int} {i:Nat} (h:i < (zk5 n xs).length):(zk5 n xs).getD i 0 < 64:=(ziH.1 (zaj 0 h)).1.1
theorem zfK (n:Int) (xs:List Int):AC Tryz.prog 135 [.ag [int n,zaz xs]] (.im (int (gmO n xs))):=by
 refine xac [.tmp 2] Tryz.func135 fun hl=>?_
 refine xg0 ?_
 refine zaa (zem n xs) ?_
 unfold gmO
 have h64:=fun i=>zAp (n:=n) (xs:=xs) (i:=i)
 have hml:=ziJ n xs
 generalize zk5 n xs = L at *
 refine xg1 @zad ?_
 refine ⟨fun h0=>?_,fun h0=>?_⟩
 ·rw [if_pos (by cases L with
   | nil=>rfl
   | cons a l=>simp at h0;omega)]
 ·have hp:0 < L.length:=by cases L with
   | nil=>simp at h0
   | cons a l=>simp
  have hk:L.length - 1 < L.length:=om
  have h64:=h64 _ hk
  have hw:IntKind.i64.wrap ((L.length:Int) - 1) = ((L.length - 1:Nat):Int):=by rw [zai om om];omega
  have hge:(ofN L).getD (L.length - 1) 0 = ((L.getD (L.length - 1) 0:Nat):Int):=zay hk
  rw [if_neg (fun e=>by rw [e] at hp;simp at hp)]
  rw [hw]
  refine ⟨om,om,om,?_⟩
  rw [Int.toNat_natCast,hge]
  refine zaa (zaM _ om) ?_
  exact xd1 hw
theorem zpQ (n:Int) (xs:List Int):AC Tryz.prog 76 [.ag [int n,zaz xs]] (.im (bool (zEZ n xs))):=by
 refine xac [.tmp 2] Tryz.func76 fun hl=>?_
 refine xg0 ?_
 refine zaa (zat n xs) ?_
 refine xg0 ?_
 unfold zEZ
 refine ⟨fun h=>zaa (zfK n xs) ?_,fun h=>?_⟩
 ·rw [h];exact xd0
 ·rw [h];rfl
theorem zeo {n:Int} {xs:List Int} (h:zaC n xs = true):xs.length <= 64:=by
 have hn:=zqH (zaK.1 h)
 have hx:=zcb h
 have h2:(xs.map Int.toNat).Nodup:=by
  refine List.Pairwise.map _ (fun a b=>?_) (List.Pairwise.imp_of_mem (S:=fun a b=>0 <= a/\0 <= b/\a ≠ b) (fun ha hb hab=>⟨(hx _ ha).1,(hx _ hb).1,hab⟩) hn)
  intro ⟨q1,q2,q3⟩ e
  omega
 refine Classical.byContradiction fun hc=>?_
 have:=(zu8 (m:=List.range 64) h2 (fun x hx'=>?_) (by simp;omega)).length_eq
 ·simp at this;omega
 ·obtain ⟨y,hy,rfl⟩:=List.mem_map.1 hx'
  have:=hx y hy
  exact List.mem_range.2 om
theorem zHV {m:Nat} (h1:1 <= m) (hm:m <= 6) {f:Nat->Bool} (hf:∀ s,s < 64->f s = true->s < 2 ^ m):zaC (m:Int) (ofN (zcK f true)) = true:=by
 refine zk0 ⟨(by omega:(1:Int) <= (m:Int)),(by omega:(m:Int) <= 6),fun k hk2=>?_⟩
 rw [zad] at hk2
 have hpw:=zDw f true
 have hmem:=fun i (hi:i < (zcK f true).length)=>ziH.1 (zaj 0 hi)
 generalize zcK f true = ys at *
 have hbef:∀ i j,i < j->j < ys.length->zuf (ys.getD i 0) (ys.getD j 0):=fun i j hij hj=>by
  have:=List.pairwise_iff_getElem.1 hpw i j om hj hij
  have a:ys.getD i 0 = ys[i]'om:=by simp [List.getD,show i < ys.length by omega]
  have b:ys.getD j 0 = ys[j]:=by simp [List.getD,hj]
  rw [a,b];exact this
 refine ⟨?_,fun h0=>?_,fun i hi=>?_⟩
 ·have h1:=hmem k hk2
  have h2:=hf _ h1.1.1 h1.1.2
  rw [zay hk2]
  unfold zcI
  rw [decide_eq_true_iff]
  refine ⟨om,om,om,?_⟩
  rw [zgi];exact_mod_cast h2
 ·rw [zay hk2,zay om]
  have hb:=hbef (k - 1) k om hk2
  have:=(hmem k hk2).1.1
  have:=(hmem (k - 1) om).1.1
  unfold znC
  unfold zuf at hb
  rw [zdk om,zdk om]
  simp only [Bool.and_eq_true,decide_eq_true_iff]
  refine ⟨om,om,?_⟩
  split
  ·rw [decide_eq_true_iff];omega
  ·rw [decide_eq_true_iff];omega
 ·have hlti:=(hmem i om).1.1
  have hltk:=(hmem k hk2).1
  rw [zay hk2,zay om,za1 om om]
  intro e
  have:=zdu.1 (hmem i om).2 (ys.getD k 0) hltk.1 hltk.2 om
  have hb:=hbef i k hi hk2
  rw [this] at hb
  exact zff hb
theorem ztW (xs:List Int) (t:Nat):inF xs t = decide ((t:Int) ∈ xs):=rfl
def zna (xs:List Int) (s:Nat):List Int:=(xs.filter fun x=>zdQ .i64 x s == (s:Int)).map fun x=>x - s
theorem zDF {xs:List Int} (hx:okS xs) {s:Nat} (hs:s < 64) (v:Nat):(v:Int) ∈ zna xs s ↔ ∃ x ∈ xs,x.toNat &&& s = s/\v = x.toNat - s:=by
 have key:∀ x ∈ xs,zdQ .i64 x (s:Int) = ((x.toNat &&& s:Nat):Int):=fun x h=>by
  have:=hx x h
  rw [<- za1 om om]
  congr 1;omega
 unfold zna
 rw [List.mem_map]
 refine ⟨fun ⟨x,h1,e⟩=>?_,fun ⟨x,h1,h2,e⟩=>?_⟩
 ·obtain ⟨a,b⟩:=List.mem_filter.1 h1
  rw [beq_iff_eq,key x a] at b
  exact ⟨x,a,om,by have:=hx x a;omega⟩
 ·refine ⟨x,List.mem_filter.2 ⟨h1,by rw [beq_iff_eq,key x h1,h2]⟩,?_⟩
  have:=hx x h1
  have:s <= x.toNat:=by rw [<- h2];exact Nat.and_le_left
  omega
theorem zDG {m:Nat} {xs:List Int} (h:zaC (m:Int) xs = true) {s:Nat} (hs:s < 64):zaC (m:Int) (ofN (zcK (inF (zna xs s)) true)) = true:=by
 obtain ⟨h1,h6,hk⟩:=zaK.1 h
 refine zHV om om fun t ht hf=>?_
 rw [ztW,decide_eq_true_iff] at hf
 obtain ⟨x,hx,_,rfl⟩:=(zDF (zcb h) hs t).1 hf
 obtain ⟨i,hi,rfl⟩:=zaV 0 hx
 have:=(hk i hi).1
 unfold zcI at this
 rw [decide_eq_true_iff,zgi] at this
 omega
theorem zDH {m:Nat} {xs:List Int} (h:zaC (m:Int) xs = true) {s:Nat} (hs:s < 64) (t:Nat):za8 m (ofN (zcK (inF (zna xs s)) true)) t = zbE (zah xs) s t:=by
 unfold za8
 rw [zDG h hs,Bool.true_and,ztR]
 exact zzx (fun x hx=>by have:=zcb h x hx;omega) hs (fun v=>zDF (zcb h) hs v) t
theorem zDI {P:Program} {s:St} {K:St->Prop} {f:FuncId} {args raw:List PV} {Ka:RV->Prop} {d e e2:Nat} {us:Dm s} {u:Dm K} {M:Mat} (h:AC P f args (.tb e e2 (M.map iL))) (hd:∀ i,i < M.length->(s.rw (sid d i)).ver = 0)
 (hk:∀ S:St,TabI S.rw d ((s.rw d).ver + 1) e e2 (List.range M.length) M->S.sl d = .own d ((s.rw d).ver + 1)->(∀ t,t ≠ d->S.sl t = s.sl t)->(∀ j,(j % 1000 == d % 1000) = false->S.rw j = s.rw j)->K S):zf0 P f args Ka (znD P f args raw (some d) (kk s us) (kk K u)) :=
 zE6 _ h (Wk.refl _) (hk _ ⟨by
  have:=zs3 (s:=s) d e e2 (M.map iL) (fun i hi=>hd i (by simpa using hi))
  rwa [List.length_map] at this,List.nodup_range⟩ (zf4 d e e2 _) (fun t ht=>zdS d e e2 t _ ht) (fun j hj=>zf5 d e e2 j _ hj))
theorem zpz {w w':Nat->Bool} {m:Nat} (hm:m <= 6) (h:∀ s,s < 64->(decide (s < 2 ^ m) && w s) = w' s):zax w (2 ^ m) = zax w' 64 :=
 zeU w' (ztL w hm) fun s hs=>by rw [zcZ,h s hs]
theorem zm9 (G s t:Nat) (hG:G < 18446744073709551616) (hs:s < 64) (ht:t < 64):AC Tryz.prog 191 [int t,.eref false [int s] 0,.eref false [u64 G] 0] (.im (bool (zbE G.testBit s t))):=by
 refine xac [.tmp 4] Tryz.func191 fun hl=>?_
 have e1:zdQ .i64 (t:Int) (s:Int) = ((t &&& s:Nat):Int):=za1 om om
 have e2:ior .i64 (t:Int) (s:Int) = ((t ||| s:Nat):Int):=zmO om om
 have h3:t ||| s < 64:=Nat.or_lt_two_pow (n:=6) ht hs
 refine xg2 e1 e2 ?_
 unfold zbE
 refine ⟨fun h=>zaa (zbo G _ hG h3) ?_,fun h=>?_⟩
 ·have h:t &&& s = 0:=by simpa using h
  rw [h]
  exact xd0
 ·have h:(t &&& s == 0) = false:=by rw [beq_eq_false_iff_ne];intro e;simp [e] at h
  rw [h];rfl
theorem zdM (f:Nat->Bool) (s:Nat) (hs:s < 64):AC Tryz.prog 155 [u64 (zax f 64:Nat),int s] (.im (u64 (zax (zbE f s) 64:Nat))):=by
 refine xac [.tmp 4] Tryz.func155 fun hl=>?_
 have hlt:=zbn f 64
 refine xg0 ?_
 refine zaa (zd2 6 om _ [.eref false [int s] 0,.eref false [u64 (zax f 64:Nat)] 0] (zbE (zax f 64).testBit s) (fun rw=>rfl) fun t ht=>zm9 _ s t om hs om) ?_
 rw [zpz (w':=zbE f s) om fun t ht=>by rw [decide_eq_true (show t < 2 ^ 6 by omega),Bool.true_and];exact zvg (fun u hu=>zba f hu) hs ht]
 exact xd0
theorem zdN (n:Int) (xs:List Int) (w:Nat) (hs:w < 64) (hx:okS xs) (hlen:xs.length <= 1000):AC Tryz.prog 88 [.ag [int n,zaz xs],int w] (.ag [.im (int n),.fr 3 1 (iL (ofN (zcK (inF (zna xs w)) true)))]):=by
 refine xac [.cell 4 27] Tryz.func88 fun hl=>?_
 simp only [zaS,zbe,and_true,zcv,zev,zdh,true_and] at hl
 refine xg0 ?_
 have hlk:zna xs w = zna (xs.take xs.length) w:=by rw [List.take_length]
 refine zag (fun (za:Nat × Nat) s=>match za with | (k,v)=>(s.sl 1 = int w/\s.sl 2 = .ref 2 1 0/\s.rw 2 = ⟨1,.box 27 [int n,zaz xs]⟩/\s.sl 4 = .ref 4 1 0/\s.rw 4 = ⟨1,.box 27 [int 0,.v (.slice none 0 0)]⟩/\s.sl 5 = .own 7 v/\s.rw 7 = ⟨v,.sli 3 1 false (iL (zna (xs.take k) w))⟩/\s.sl 6 = int k)/\(k <= xs.length)) (fun (k,v)=>xs.length - k) ((0,1)) ⟨xc0,sp⟩ ?_
 intro (k,v) sa ⟨Ha,hIa⟩
 have hll:(zna (xs.take k) w).length <= 1000:=by
  unfold zna
  rw [List.length_map]
  have:=List.length_filter_le (fun x=>zdQ .i64 x (w:Int) == (w:Int)) (xs.take k)
  rw [List.length_take] at this
  omega
 refine xg1 Ha ?_
 refine ⟨fun h=>⟨h,h,?_⟩,fun h=>?_⟩
 ·have hxk:=ztJ hx h
  have hwx:IntKind.i64.wrap (xs.getD k 0 - (w:Int)) = xs.getD k 0 - (w:Int):=zai om om
  refine ⟨fun hy=>?_,fun hy=>?_⟩
  ·have e:zna (xs.take (k + 1)) w = zna (xs.take k) w ++ [xs.getD k 0 - (w:Int)]:=by
    unfold zna
    rw [zas 0 h,List.filter_append,List.map_append,List.filter_cons,if_pos hy];rfl
   exact ⟨h,h,om,zab ((k + 1,v + 1)) ⟨(xc4 Ha (zac h om) hwx e),by dsimp only;omega⟩⟩
  ·have e:zna (xs.take (k + 1)) w = zna (xs.take k) w:=by
    unfold zna
    rw [zas 0 h,List.filter_append,List.map_append,List.filter_cons,if_neg (by rw [hy];decide)];simp
   exact zab ((k + 1,v)) ⟨(xc3 Ha (zac h om) e),by dsimp only;omega⟩
 ·have:k = xs.length:=om
  subst this
  rw [hlk]
  refine zaa (zc0 n _ ?_) ?_
  ·intro x hx'
   unfold zna at hx'
   obtain ⟨y,hy,rfl⟩:=List.mem_map.1 hx'
   obtain ⟨a,b⟩:=List.mem_filter.1 hy
   rw [List.take_length] at a
   have:=hx y a
   rw [beq_iff_eq] at b
   have h2:zdQ .i64 y (w:Int) = ((y.toNat &&& w:Nat):Int):=by
    rw [<- za1 om om];congr 1;omega
   have h3:y.toNat &&& w <= y.toNat:=Nat.and_le_left
   omega
  ·exact xd1 Ha
def zc4 (h:List Int) (s k:Nat):List Nat:=((List.range k).filter fun j=>h.getD j 0 != 0).map (s + ·)
theorem zpy (h:List Int) (s k:Nat):zc4 h s (k + 1) = if (h.getD k 0 != 0) = true then zc4 h s k ++ [s + k] else zc4 h s k:=by
 unfold zc4
 rw [List.range_succ,List.filter_append]
 by_cases hz:(h.getD k 0 != 0) = true
 ·have e:List.filter (fun j=>h.getD j 0 != 0) [k] = [k]:=by
   show (match h.getD k 0 != 0 with | true=>[k] | false=>[]) = [k]
   rw [hz]
  rw [if_pos hz,e,List.map_append];rfl
 ·have e:List.filter (fun j=>h.getD j 0 != 0) [k] = []:=by
   show (match h.getD k 0 != 0 with | true=>[k] | false=>[]) = []
   rw [show (h.getD k 0 != 0) = false by simpa using hz]
  rw [if_neg hz,e,List.append_nil]
def zb9 (f:Nat->Bool) (p:Int):Nat->List Nat
 | 0=>[]
 | i + 1=>zb9 f p i ++ zc4 (zdD (zbE f ((za4 f).getD i 0)) p) (zar ((za4 f).getD i 0)) (zdD (zbE f ((za4 f).getD i 0)) p).length
def ztV:List Nat->Int | []=>-1 | a :: l=>((l.foldl min a:Nat):Int)
theorem zDE (l:List Nat) (n:Nat):ztV (l ++ [n]) = if ztV l < 0 \/ (n:Int) < ztV l then (n:Int) else ztV l:=by
 cases l with
 | nil=>rfl
 | cons a l =>
   show (((l ++ [n]).foldl min a:Nat):Int) = ite (((l.foldl min a:Nat):Int) < 0 \/ (n:Int) < ((l.foldl min a:Nat):Int)) _ ((l.foldl min a:Nat):Int)
   rw [List.foldl_append]
   show ((min (l.foldl min a) n:Nat):Int) = _
   split <;> omega
theorem zm6 {h:List Int} {s k x:Nat}:x ∈ zc4 h s k ↔ ∃ j,j < k/\h.getD j 0 ≠ 0/\x = s + j:=by
 unfold zc4
 rw [List.mem_map]
 constructor
 ·rintro ⟨j,hj,rfl⟩
  obtain ⟨a,b⟩:=List.mem_filter.1 hj
  exact ⟨j,List.mem_range.1 a,by simpa using b,rfl⟩
 ·rintro ⟨j,a,b,rfl⟩
  exact ⟨j,List.mem_filter.2 ⟨List.mem_range.2 a,by simpa using b⟩,rfl⟩
theorem zm7 {f:Nat->Bool} {p:Int} {x:Nat}:∀ {i:Nat},x ∈ zb9 f p i ↔ ∃ t,t < i/\x ∈ zc4 (zdD (zbE f ((za4 f).getD t 0)) p) (zar ((za4 f).getD t 0)) (zdD (zbE f ((za4 f).getD t 0)) p).length
 | 0=>by simp [zb9]
 | i + 1=>by
   rw [zb9,List.mem_append,zm7]
   constructor
   ·rintro (⟨t,a,b⟩ | h)
    ·exact ⟨t,om,b⟩
    ·exact ⟨i,om,h⟩
   ·rintro ⟨t,a,b⟩
    by_cases e:t = i
    ·subst e;exact .inr b
    ·exact .inl ⟨t,om,b⟩
theorem zFZ {h:List Int} {s k:Nat} (hs:s < 64) (hk:k <= 7):∀ x ∈ zc4 h (zar s) k,x <= 100:=fun x hx=>by
 obtain ⟨j,a,_,rfl⟩:=zm6.1 hx
 have:=zcg hs
 omega
theorem zJl {f:Nat->Bool} {p:Int} {i:Nat} (hi:i <= (za4 f).length):∀ x ∈ zb9 f p i,x <= 100:=fun x hx=>by
 obtain ⟨t,ht,h⟩:=zm7.1 hx
 have hs:=(zaO.1 (zaj 0 (show t < (za4 f).length by omega))).1
 exact zFZ hs (by rw [za2];exact zbp _) x h
def znS (f:Nat->Bool) (p:Int):List Nat:=zb9 f p (za4 f).length
noncomputable def zm8 (n:Int) (xs:List Int) (p:Int):Int:=if zaC n xs = true/\isP p = true then ztV (znS (zah xs) p) else -1
theorem zF0 {m:Nat} {xs:List Int} {p:Int} (h:zaC (m:Int) xs = true) {s:Nat} (hs:s < 64) (hp:isP p = true):zMw (za8 m (ofN (zcK (inF (zna xs s)) true))) p = zdD (zbE (zah xs) s) p:=by
 unfold zMw
 rw [if_pos hp]
 exact congrArg (fun f=>zdD f p) (funext fun t=>zDH h hs t)
theorem zhl (n:Int) (xs:List Int) (p:Int):AC Tryz.prog 32 [.ag [int n,zaz xs],int p] (.im (int (zm8 n xs p))):=by
 refine xac [.tmp 4] Tryz.func32 fun hl=>?_
 refine xg0 ?_
 refine zaa (zb6 n xs) ?_
 have hLl:=zca (za8 n xs)
 have hno:¬ zaC n xs = true->za4 (za8 n xs) = []:=fun h=>by
  have h:zaC n xs = false:=by simpa using h
  refine List.eq_nil_iff_forall_not_mem.2 fun s hs=>?_
  have:=(zaO.1 hs).2
  unfold za8 at this
  rw [h] at this;cases this
 have hyes:zaC n xs = true->za8 n xs = zah xs:=fun h=>by funext s;unfold za8;rw [h,Bool.true_and]
 have hLm:=fun k (hk:k < (za4 (za8 n xs)).length)=>zaO.1 (zaj 0 hk)
 have hres:(isP p = true/\zm8 n xs p = ztV (zb9 (zah xs) p (za4 (za8 n xs)).length)) \/ zm8 n xs p = -1:=by
  by_cases hc:zaC n xs = true/\isP p = true
  ·refine .inl ⟨hc.2,?_⟩
   rw [zm8,if_pos hc,hyes hc.1];rfl
  ·exact .inr (if_neg hc)
 have hres2:isP p = false->zm8 n xs p = -1:=fun h=>if_neg fun hc=>by rw [hc.2] at h;cases h
 have hres3:¬ zaC n xs = true->zm8 n xs p = -1:=fun h=>if_neg fun hc=>h hc.1
 have hin:∀ k,k < (za4 (za8 n xs)).length->zaC n xs = true:=fun k hk=>Classical.byContradiction fun h=>by rw [hno h] at hk;simp at hk
 have hcl:zaC n xs = true->∀ i,zb9 (zah xs) p (i + 1) = zb9 (zah xs) p i ++ zc4 (zdD (zbE (zah xs) ((za4 (za8 n xs)).getD i 0)) p) (zar ((za4 (za8 n xs)).getD i 0)) (zdD (zbE (zah xs) ((za4 (za8 n xs)).getD i 0)) p).length:=fun h i=>by
  have:za4 (zah xs) = za4 (za8 n xs):=by rw [hyes h]
  rw [<- this];rfl
 have hbd:zaC n xs = true->∀ i,i <= (za4 (za8 n xs)).length->∀ x ∈ zb9 (zah xs) p i,x <= 100:=fun h i hi=>by
  have:za4 (zah xs) = za4 (za8 n xs):=by rw [hyes h]
  exact zJl (by rw [this];exact hi)
 generalize hL:za4 (za8 n xs) = L at *
 have hoL:=zad L
 have hm1:int (-1) = int (ztV (zb9 (zah xs) p 0)):=rfl
 refine xg1 @zad ?_
 refine zag (fun (i:Nat) s=>(s.sl 1 = int p/\s.sl 2 = .ref 2 1 0/\s.rw 2 = ⟨1,.box 27 [int n,zaz xs]⟩/\s.sl 5 = int (ztV (zb9 (zah xs) p i))/\s.sl 6 = .own 12 1/\s.rw 12 = ⟨1,.sli 3 1 false (iL (ofN L))⟩/\s.sl 7 = int i)/\(i <= L.length/\(i = 0 \/ isP p = true))) (fun i=>L.length - i) (0) ⟨(xc1 hm1),⟨Nat.zero_le _,.inl rfl⟩⟩ ?_
 intro i sa ⟨Ha,hIa⟩
 obtain ⟨hi,hpi⟩:=hIa
 refine xg2 Ha @zad ?_
 refine ⟨fun hlt=>zaa (zcM p) ?_,fun hlt=>?_⟩
 ·refine xg2 Ha @zad ?_
  have hlt:i < L.length:=om
  have hcx:=hin i hlt
  obtain ⟨h1,h6,_⟩:=zaK.1 hcx
  obtain ⟨m,rfl⟩:∃ m:Nat,n = m:=⟨n.toNat,om⟩
  refine ⟨fun hp=>?_,fun hp=>?_⟩
  ·have hs64:=(hLm i hlt).1
   have hg:=zay hlt
   have hhol:=zF0 (p:=p) hcx hs64 hp
   have hcs:=hcl hcx i
   have hb0:=hbd hcx i om
   have hdl:=zbp (zbE (zah xs) (L.getD i 0))
   have hhl:=za2 (zbE (zah xs) (L.getD i 0)) p
   generalize hs0:L.getD i 0 = s0 at *
   have hpl:=zcg hs64
   refine xg3 Ha @zad hg ?_
   refine ⟨kr,hlt,hlt,zaa (zdN _ xs s0 hs64 (zcb hcx) (by have:=zeo hcx;omega)) ?_⟩
   refine xg3 Ha @zad hg ?_
   refine zaa (zgp _ _ p) ?_
   rw [hhol]
   generalize zdD (zbE (zah xs) s0) p = hs at *
   refine xg3 Ha @zad hg ?_
   have hz0:zb9 (zah xs) p i = zb9 (zah xs) p i ++ zc4 hs (zar s0) 0:=(List.append_nil _).symm
   refine ⟨kr,?_⟩
   refine zag (fun (k:Nat) s=>(s.sl 1 = int p/\s.sl 2 = .ref 2 1 0/\s.rw 2 = ⟨1,.box 27 [int (m:Nat),zaz xs]⟩/\s.sl 5 = int (ztV (zb9 (zah xs) p i ++ zc4 hs (zar s0) k))/\s.sl 6 = .own 12 1/\s.rw 12 = ⟨1,.sli 3 1 false (iL (ofN L))⟩/\s.sl 7 = int i/\s.sl 8 = .own 30 ((sa.rw 30).ver + 1)/\s.rw 30 = ⟨(sa.rw 30).ver + 1,.sli 3 1 false (iL hs)⟩/\s.sl 9 = int k)/\(k <= hs.length)) (fun k=>hs.length - k) (0) ⟨(xc2 Ha hz0.symm),Nat.zero_le _⟩ ?_
   intro k sb ⟨⟨h1b,h2b,r2b,h5b,h6b,r12b,h7b,h8b,r30b,h9b⟩,hIb⟩
   simp -dsimp only [↓gp,gq,simprocAttr,gT,h1b,h2b,r2b,h5b,h6b,r12b,h7b,h8b,r30b,h9b,zad,hg]
   refine ⟨fun hk=>⟨hlt,hlt,zaa (zaM s0 om) ?_⟩,fun hk=>?_⟩
   ·have hw:IntKind.i64.wrap ((zar s0:Int) + (k:Int)) = ((zar s0 + k:Nat):Int):=by rw [zai om om];omega
    have hks:=zpy hs (zar s0) k
    have hsn:ztV (zb9 (zah xs) p i ++ zc4 hs (zar s0) (k + 1)) = if (hs.getD k 0 != 0) = true then (if ztV (zb9 (zah xs) p i ++ zc4 hs (zar s0) k) < 0 \/ ((zar s0 + k:Nat):Int) < ztV (zb9 (zah xs) p i ++ zc4 hs (zar s0) k) then ((zar s0 + k:Nat):Int) else ztV (zb9 (zah xs) p i ++ zc4 hs (zar s0) k)) else ztV (zb9 (zah xs) p i ++ zc4 hs (zar s0) k):=by
     rw [hks]
     split
     ·rw [<- List.append_assoc,zDE]
     ·rfl
    simp -dsimp only [↓gp,gq,simprocAttr,gT,h1b,h2b,r2b,h5b,h6b,r12b,h7b,h8b,r30b,h9b,zad,hg,hw]
    generalize ztV (zb9 (zah xs) p i ++ zc4 hs (zar s0) k) = A at *
    refine ⟨hk,hk,fun hz=>⟨fun ha=>⟨fun hb=>?_,fun hb=>?_⟩,fun ha=>?_⟩,fun hz=>?_⟩
    ·rw [if_pos hz,if_pos (.inr hb)] at hsn
     exact zab (k + 1) ⟨(by and_intros <;> (first | (simp -dsimp only [gr,simprocAttr,h1b,h2b,r2b,h5b,h6b,r12b,h7b,h8b,r30b,h9b,hsn,zac (show k < 8 by omega) om];first | done | rfl | (simp;done)) | assumption | rfl)),om⟩
    ·rw [if_pos hz,if_neg (fun h=>h.elim ha hb)] at hsn
     exact zab (k + 1) ⟨(by and_intros <;> (first | (simp -dsimp only [gr,simprocAttr,h1b,h2b,r2b,h5b,h6b,r12b,h7b,h8b,r30b,h9b,hsn,zac (show k < 8 by omega) om];first | done | rfl | (simp;done)) | assumption | rfl)),om⟩
    ·rw [if_pos hz,if_pos (.inl ha)] at hsn
     exact zab (k + 1) ⟨(by and_intros <;> (first | (simp -dsimp only [gr,simprocAttr,h1b,h2b,r2b,h5b,h6b,r12b,h7b,h8b,r30b,h9b,hsn,zac (show k < 8 by omega) om];first | done | rfl | (simp;done)) | assumption | rfl)),om⟩
    ·rw [if_neg (by rw [hz];decide)] at hsn
     exact zab (k + 1) ⟨(by and_intros <;> (first | (simp -dsimp only [gr,simprocAttr,h1b,h2b,r2b,h5b,h6b,r12b,h7b,h8b,r30b,h9b,hsn,zac (show k < 8 by omega) om];first | done | rfl | (simp;done)) | assumption | rfl)),om⟩
   ·have hke:k = hs.length:=om
    subst hke
    rw [<- hcs] at h5b
    exact zab (i + 1) ⟨(by and_intros <;> (first | (simp -dsimp only [gr,simprocAttr,Ha,h1b,h2b,r2b,h5b,h6b,r12b,h7b,h8b,r30b,h9b,zac hlt om];first | done | rfl | (simp;done)) | assumption | rfl)),⟨om,.inr hp⟩⟩
  ·rw [hres2 hp]
   rcases hpi with rfl | h
   ·rfl
   ·rw [h] at hp;cases hp
 ·have hil:i = L.length:=om
  rcases hres with ⟨_,h⟩ | h
  ·rw [h,hil]
  ·rw [h]
   by_cases hc:zaC n xs = true
   ·rcases hpi with rfl | hp
    ·rfl
    ·have hd:zm8 n xs p = ztV (znS (zah xs) p):=if_pos ⟨hc,hp⟩
     rw [hd] at h
     have:znS (zah xs) p = zb9 (zah xs) p i:=by
      unfold znS
      have:za4 (zah xs) = L:=by rw [<- hL,hyes hc]
      rw [this,hil]
     rw [<- this,h]
   ·have:L = []:=hno hc
    rw [hil,this];rfl
def zk6 (b:Int) (l:List Nat):Int:=l.foldl (fun (b:Int) (x:Nat)=>min b (x:Int)) b
theorem zDC (b:Int) (l:List Nat) (n:Nat):zk6 b (l ++ [n]) = min (zk6 b l) (n:Int):=by unfold zk6;rw [List.foldl_append];rfl
theorem zJi {b:Int} (hb:-1 <= b/\b <= 100):∀ l:List Nat,-1 <= zk6 b l/\zk6 b l <= 100:=fun l=>by
 induction l generalizing b with
 | nil=>exact hb
 | cons x l ih=>exact ih (b:=min b (x:Int)) ⟨om,om⟩
theorem zJj {b:Int}:∀ l:List Nat,zk6 b l <= b/\∀ x ∈ l,zk6 b l <= (x:Int):=fun l=>by
 induction l generalizing b with
 | nil=>exact ⟨Int.le_refl _,fun x hx=>by simp at hx⟩
 | cons y l ih =>
   obtain ⟨h1,h2⟩:=ih (b:=min b (y:Int))
   have e:zk6 b (y :: l) = zk6 (min b (y:Int)) l:=rfl
   rw [e]
   refine ⟨om,fun x hx=>?_⟩
   rcases List.mem_cons.1 hx with rfl | hx
   ·omega
   ·exact h2 x hx
theorem zFY {b:Int}:∀ l:List Nat,zk6 b l = b \/ ∃ x ∈ l,zk6 b l = (x:Int):=fun l=>by
 induction l generalizing b with
 | nil=>exact .inl rfl
 | cons y l ih =>
   have e:zk6 b (y :: l) = zk6 (min b (y:Int)) l:=rfl
   rw [e]
   rcases ih (b:=min b (y:Int)) with h | ⟨x,hx,h⟩
   ·by_cases hy:b <= (y:Int)
    ·exact .inl om
    ·exact .inr ⟨y,sp,om⟩
   ·exact .inr ⟨x,by simp [hx],h⟩
def zHU (f:Nat->Bool) (p:Int):Int:=zk6 ((zbd f:Int) - 1) (znS f p)
theorem zhk (f:Nat->Bool) (p:Int) (hp:isP p = true):AC Tryz.prog 99 [u64 (zax f 64:Nat),int p] (.im (int (zHU f p))):=by
 refine xac [.tmp 4] Tryz.func99 fun hl=>?_
 refine xg0 ?_
 refine zaa (zdl f) ?_
 refine xg0 ?_
 have hmd:=zbn f 64
 have eord:za4 (zax f 64).testBit = za4 f:=zeS fun s hs=>zba _ hs
 have hSI:=zdL (zax f 64) om
 rw [eord] at hSI
 refine zaa hSI ?_
 have hLl:=zca f
 have hLm:=fun k (hk:k < (za4 f).length)=>zaO.1 (zaj 0 hk)
 have hres:zHU f p = zk6 ((zbd f:Int) - 1) (zb9 f p (za4 f).length):=rfl
 have hcl:∀ i,zb9 f p (i + 1) = zb9 f p i ++ zc4 (zdD (zbE f ((za4 f).getD i 0)) p) (zar ((za4 f).getD i 0)) (zdD (zbE f ((za4 f).getD i 0)) p).length:=fun i=>rfl
 generalize hL:za4 f = L at *
 have hoL:=zad L
 have hdm:=zbp f
 have hm0:int ((zbd f:Int) - 1) = int (zk6 ((zbd f:Int) - 1) (zb9 f p 0)):=rfl
 refine xg1 @zad ?_
 refine zag (fun (i:Nat) s=>(s.sl 0 = u64 (zax f 64:Nat)/\s.sl 1 = int p/\s.sl 5 = int (zk6 ((zbd f:Int) - 1) (zb9 f p i))/\s.sl 13 = .own 13 1/\s.rw 13 = ⟨1,.sli 3 1 false (iL (ofN L))⟩/\s.sl 14 = int L.length/\s.sl 15 = int i)/\(i <= L.length)) (fun i=>L.length - i) (0) ⟨(xc1 hm0),Nat.zero_le _⟩ ?_
 intro i sa ⟨Ha,hIa⟩
 refine xg2 Ha @zad ?_
 refine ⟨fun hlt=>?_,fun hlt=>?_⟩
 ·have hlt:i < L.length:=om
  have hs64:=(hLm i hlt).1
  have hg:=zay hlt
  have hcs:=hcl i
  have hdl:=zbp (zbE f (L.getD i 0))
  have hhl:=za2 (zbE f (L.getD i 0)) p
  generalize hs0:L.getD i 0 = s0 at *
  have hpl:=zcg hs64
  have hzz:=zdk hs64
  refine xg3 Ha @zad hg ?_
  refine ⟨hlt,hlt,zaa (zdM _ s0 hs64) ?_⟩
  refine xg3 Ha @zad hg ?_
  refine zaa (zhg _ p hp) ?_
  generalize zdD (zbE f s0) p = hs at *
  refine xg3 Ha @zad hg ?_
  have hz0:zb9 f p i = zb9 f p i ++ zc4 hs (zar s0) 0:=(List.append_nil _).symm
  refine zag (fun (k:Nat) s=>(s.sl 0 = u64 (zax f 64:Nat)/\s.sl 1 = int p/\s.sl 5 = int (zk6 ((zbd f:Int) - 1) (zb9 f p i ++ zc4 hs (zar s0) k))/\s.sl 7 = int s0/\s.sl 13 = .own 13 1/\s.rw 13 = ⟨1,.sli 3 1 false (iL (ofN L))⟩/\s.sl 14 = int L.length/\s.sl 15 = int i/\s.sl 23 = .own 23 ((sa.rw 23).ver + 1)/\s.rw 23 = ⟨(sa.rw 23).ver + 1,.sli 3 1 false (iL hs)⟩/\s.sl 24 = int hs.length/\s.sl 25 = int k)/\(k <= hs.length)) (fun k=>hs.length - k) (0) ⟨(xc2 Ha hz0.symm),Nat.zero_le _⟩ ?_
  intro k sb ⟨⟨h0b,h1b,h5b,h7b,h13b,r13b,h14b,h15b,h23b,r23b,h24b,h25b⟩,hIb⟩
  simp -dsimp only [↓gp,gq,simprocAttr,gT,h0b,h1b,h5b,h7b,h13b,r13b,h14b,h15b,h23b,r23b,h24b,h25b,zad,hg]
  have hks:=zpy hs (zar s0) k
  have hbd:=zJi (b:=(zbd f:Int) - 1) om (zb9 f p i ++ zc4 hs (zar s0) k)
  have hsn:zk6 ((zbd f:Int) - 1) (zb9 f p i ++ zc4 hs (zar s0) (k + 1)) = if (hs.getD k 0 != 0) = true then min (zk6 ((zbd f:Int) - 1) (zb9 f p i ++ zc4 hs (zar s0) k)) ((zar s0 + k:Nat):Int) else zk6 ((zbd f:Int) - 1) (zb9 f p i ++ zc4 hs (zar s0) k):=by
   rw [hks]
   split
   ·rw [<- List.append_assoc,zDC]
   ·rfl
  refine ⟨fun hk=>⟨hk,hk,fun hz=>zaa (zaE _) ?_,fun hz=>?_⟩,fun hk=>?_⟩
  ·have hw:IntKind.i64.wrap ((zar s0:Int) + (k:Int)) = ((zar s0 + k:Nat):Int):=by rw [zai om om];omega
   rw [if_pos hz] at hsn
   simp -dsimp only [↓gp,gq,simprocAttr,gT,h0b,h1b,h5b,h7b,h13b,r13b,h14b,h15b,h23b,r23b,h24b,h25b,zad,hg,hzz,hw]
   have em:(if ((zar s0 + k:Nat):Int) < zk6 ((zbd f:Int) - 1) (zb9 f p i ++ zc4 hs (zar s0) k) then ((zar s0 + k:Nat):Int) else zk6 ((zbd f:Int) - 1) (zb9 f p i ++ zc4 hs (zar s0) k)) = min (zk6 ((zbd f:Int) - 1) (zb9 f p i ++ zc4 hs (zar s0) k)) ((zar s0 + k:Nat):Int):=by split <;> omega
   rw [<- em] at hsn
   exact zab (k + 1) ⟨(by and_intros <;> (first | (simp -dsimp only [gr,simprocAttr,h0b,h1b,h5b,h7b,h13b,r13b,h14b,h15b,h23b,r23b,h24b,h25b,hsn,zac (show k < 8 by omega) om];first | done | rfl | (simp;done)) | assumption | rfl)),om⟩
  ·rw [if_neg (by rw [hz];decide)] at hsn
   exact zab (k + 1) ⟨(by and_intros <;> (first | (simp -dsimp only [gr,simprocAttr,h0b,h1b,h5b,h7b,h13b,r13b,h14b,h15b,h23b,r23b,h24b,h25b,hsn,zac (show k < 8 by omega) om];first | done | rfl | (simp;done)) | assumption | rfl)),om⟩
  ·have hke:k = hs.length:=om
   subst hke
   rw [<- hcs] at h5b
   exact zab (i + 1) ⟨(by and_intros <;> (first | (simp -dsimp only [gr,simprocAttr,Ha,h0b,h1b,h5b,h7b,h13b,r13b,h14b,h15b,h23b,r23b,h24b,h25b,zac hlt om];first | done | rfl | (simp;done)) | assumption | rfl)),om⟩
 ·have hil:i = L.length:=om
  rw [hres,hil]
theorem zDD (a:Nat) (l:List Nat):(∀ x ∈ a :: l,l.foldl min a <= x)/\l.foldl min a ∈ a :: l:=by
 induction l generalizing a with
 | nil=>exact ⟨fun x hx=>by rw [List.mem_singleton.1 hx];exact Nat.le_refl _,sp⟩
 | cons y l ih =>
   obtain ⟨h1,h2⟩:=ih (min a y)
   have e:(y :: l).foldl min a = l.foldl min (min a y):=rfl
   rw [e]
   refine ⟨fun x hx=>?_,?_⟩
   ·have h0:=h1 (min a y) sp
    rcases List.mem_cons.1 hx with rfl | hx
    ·omega
    ·rcases List.mem_cons.1 hx with rfl | hx
     ·omega
     ·exact h1 x (by simp [hx])
   ·rcases List.mem_cons.1 h2 with h | h
    ·rw [h]
     rcases Nat.le_total a y with q | q
     ·rw [Nat.min_eq_left q];simp
     ·rw [Nat.min_eq_right q];simp
    ·simp [h]
section
variable {f:Nat->Bool} {m q:Nat} [NeZero q]
theorem zyf (hp:isP (q:Int) = true) (hf:zvl f) (hm:m <= 6) (hs:∀ t,t < 64->f t = true->t < 2 ^ m) {x:Nat}:x ∈ znS f q ↔ ∃ F k,F < 2 ^ m/\f F = true/\¬ Ac q (zbE f F) k/\zar F + k = x:=by
 have h64:=zbq hm
 have hz:∀ F k,(zdD (zbE f F) q).getD k 0 ≠ 0 ↔ ¬ Ac q (zbE f F) k:=fun F k=>by
  rw [zJp,Ne,(zvj (p:=q) hp (zpA hf F) k).2]
 unfold znS
 rw [zm7]
 constructor
 ·rintro ⟨t,ht,h⟩
  obtain ⟨j,a,b,rfl⟩:=zm6.1 h
  obtain ⟨h1,h2⟩:=zaO.1 (zaj 0 ht)
  exact ⟨_,j,hs _ h1 h2,h2,(hz _ _).1 b,rfl⟩
 ·rintro ⟨F,k,a,b,c,rfl⟩
  obtain ⟨t,ht,e⟩:=zaV 0 (zaO.2 ⟨Nat.lt_of_lt_of_le a h64,b⟩)
  refine ⟨t,ht,?_⟩
  rw [e]
  refine zm6.2 ⟨k,Nat.lt_of_not_le fun hle=>c (zMK (by rw [za2] at hle;exact hle)),(hz _ _).2 c,rfl⟩
theorem zJk (hp:isP (q:Int) = true) (hf:zvl f) (h0:f 0 = true) (hm:m <= 6) (hs:∀ t,t < 64->f t = true->t < 2 ^ m):∃ d:Nat,zMC q f m d/\ztV (znS f q) = d/\zHU f q = d/\(d:Int) <= (zbd f:Int) - 1:=by
 have h64:=zbq hm
 have hdp:0 < zbd f:=by
  have:=zfj 64 0 (by decide) h0
  unfold zbd;omega
 obtain ⟨T,hT64,hfT,hTd⟩:=zmZ (f:=f) 64 hdp
 have hTd:zar T + 1 = zbd f:=hTd
 have htop:∀ s,s < 64->f s = true->zar s <= zar T:=fun s h1 h2=>by
  have:=zfj 64 s h1 h2
  have hd:zbd f = zj5 f 64:=rfl
  omega
 have hTm:zar T ∈ znS f q:=(zyf hp hf hm hs).2 ⟨T,0,hs T hT64 hfT,hfT,zDJ hp hf hT64 hfT (zJn hT64 htop),rfl⟩
 cases hc:znS f q with
 | nil=>rw [hc] at hTm;simp at hTm
 | cons a l =>
   obtain ⟨h1,h2⟩:=zDD a l
   have hci:=fun x=>zyf (x:=x) hp hf hm hs
   rw [hc] at hTm hci
   refine ⟨l.foldl min a,⟨?_,zvh hf fun F hF hfF k hk=>?_⟩,rfl,?_,?_⟩
   ·exact (hci _).1 h2
   ·refine Classical.byContradiction fun hac=>?_
    have:=h1 _ ((hci _).2 ⟨F,k,hF,hfF,hac,rfl⟩)
    omega
   ·unfold zHU
    rw [hc]
    have e:(zbd f:Int) - 1 = ((zar T:Nat):Int):=om
    rw [e]
    obtain ⟨g1,g2⟩:=zJj (b:=((zar T:Nat):Int)) (a :: l)
    have g3:=g2 _ h2
    rcases zFY (b:=((zar T:Nat):Int)) (a :: l) with g | ⟨x,hx,g⟩
    ·have:=h1 _ hTm;omega
    ·have:=h1 x hx;omega
   ·have:=h1 _ hTm;omega
end
theorem zfF (n k:Nat) (hn:n <= 57) (hk:k <= n):AC Tryz.prog 187 [int n,int k] (.im (int (bin n k:Nat))):=by
 refine xac [.tmp 4] Tryz.func187 fun hl=>?_
 have h1:decide ((k:Int) < 0) = false:=decide_eq_false om
 refine xg1 h1 ?_
 refine ⟨fun h=>om,fun _=>?_⟩
 refine zag (fun (i:Nat) s=>(s.sl 0 = int n/\s.sl 1 = int k/\s.sl 5 = int (bin n i:Nat)/\s.sl 6 = int i)/\(i <= k)) (fun i=>k - i) (0) ⟨(xc1 @zdK),om⟩ ?_
 intro i sa ⟨Ha,hIa⟩
 refine xg1 Ha ?_
 refine ⟨fun h=>?_,fun h=>?_⟩
 ·rw [zac h om]
  refine ⟨om,?_⟩
  exact zab (i + 1) ⟨(xc5 Ha (zac h om) (zHP (i:=i) hn om) (zHQ (i:=i) hn om) (zHR (i:=i) hn)),om⟩
 ·have:i = k:=om
  subst this;rfl
def zc1 (n k:Int):Int:=if 0 <= n/\0 <= k/\k <= n then (bin n.toNat k.toNat:Nat) else 0
theorem zqQ (n k:Int) (hn:n <= 57):AC Tryz.prog 84 [int n,int k] (.im (int (zc1 n k))):=by
 refine xac [.tmp 4] Tryz.func84 fun hl=>?_
 refine xg0 ?_
 refine zaa (zbC _ _ _) ?_
 refine xg0 ?_
 refine ⟨fun h=>zaa (zbC _ _ _) ?_,fun h=>?_⟩
 ·refine xg0 ?_
  refine ⟨fun h2=>?_,fun h2=>?_⟩
  ·unfold zc1
   rw [if_neg (by simp at h2;omega)]
  ·have h1:0 <= n:=by simp at h;omega
   have h3:0 <= k/\k <= n:=by simp at h2;omega
   obtain ⟨n,rfl⟩:=Int.eq_ofNat_of_zero_le h1
   obtain ⟨k,rfl⟩:=Int.eq_ofNat_of_zero_le h3.1
   have hn:n <= 57:=om
   have hk:k <= n:=om
   refine zag (fun (i:Nat) s=>(s.sl 0 = int n/\s.sl 1 = int k/\s.sl 5 = int (bin n i:Nat)/\s.sl 6 = int i)/\(i <= k)) (fun i=>k - i) (0) ⟨(xc1 @zdK),om⟩ ?_
   intro i sa ⟨Ha,hIa⟩
   refine xg1 Ha ?_
   refine ⟨fun h=>?_,fun h=>?_⟩
   ·rw [zac h om]
    refine ⟨om,?_⟩
    exact zab (i + 1) ⟨(xc5 Ha (zac h om) (zHP (i:=i) hn om) (zHQ (i:=i) hn om) (zHR (i:=i) hn)),om⟩
   ·have:i = k:=om
    subst this
    unfold zc1
    rw [if_pos ⟨om,om,om⟩]
    simp
 ·unfold zc1
  rw [if_neg (by simp at h;omega)]
theorem zqR (n k:Int) (hn:n <= 57):AC Tryz.prog 151 [int n,int k] (.im (int (zc1 n k))):=by
 refine xac [.tmp 4] Tryz.func151 fun hl=>?_
 refine xg0 ?_
 refine ⟨fun h1=>⟨fun _=>⟨fun h2=>⟨fun h3=>by unfold zc1;rw [if_neg om],fun h3=>?_⟩,fun h2=>by unfold zc1;rw [if_neg om]⟩,fun h=>om⟩,fun h1=>by unfold zc1;rw [if_neg om]⟩
 obtain ⟨n,rfl⟩:=Int.eq_ofNat_of_zero_le (show 0 <= n by omega)
 obtain ⟨k,rfl⟩:=Int.eq_ofNat_of_zero_le (show 0 <= k by omega)
 have hw:IntKind.i64.wrap ((n:Int) - (k:Int)) = ((n - k:Nat):Int):=by rw [zai om om];omega
 have e:zc1 n k = (bin n k:Nat):=by unfold zc1;rw [if_pos ⟨om,om,om⟩];simp
 rw [hw,e]
 refine ⟨fun _=>zaa (zfF n (n - k) om om) ?_,fun _=>zaa (zfF n k om om) ?_⟩
 ·refine xg0 ?_
  rw [zI5 n k om]
 ·exact xd0
noncomputable def lnC (xs:List Int) (q:Nat):Int:=((zaR (zah xs) q 64).length:Int)
theorem zzA (xs:List Int) (q:Nat):0 <= lnC xs q/\lnC xs q <= 64:=by
 have:=zbG (zah xs) q (Nat.le_refl 64)
 unfold lnC;omega
theorem zj8 (b:Bool):AC Tryz.prog 182 [bool b] (.im (int (if b = true then 1 else 0))):=by
 refine xac [.tmp 2] Tryz.func182 fun hl=>?_
 refine xg0 ?_
 exact ⟨fun h=>by rw [if_pos h],fun h=>by rw [if_neg (by rw [h];decide)]⟩
theorem zJF {p:Int} (h:isP p = true):∃ q:Nat,p = q/\q ≠ 0:=by
 unfold isP at h
 simp only [Bool.or_eq_true,beq_iff_eq] at h
 rcases h with (rfl | rfl) | rfl
 ·exact ⟨2,rfl,by decide⟩
 ·exact ⟨3,rfl,by decide⟩
 ·exact ⟨5,rfl,by decide⟩
theorem zk9 {n:Int} {xs:List Int} (h:zj4 n xs = true):∃ m:Nat,n = m/\1 <= m/\m <= 6/\zvl (zah xs)/\zah xs 0 = true/\∀ s,s < 64->zah xs s = true->s < 2 ^ m:=by
 obtain ⟨hcx,hpos⟩:=zbF.1 h
 obtain ⟨h1,h6,h3⟩:=zaK.1 hcx
 obtain ⟨m,rfl⟩:∃ m:Nat,n = m:=⟨n.toNat,om⟩
 refine ⟨m,rfl,om,om,fun s t hs ht=>zjs hs ht,?_,fun s hs hf=>?_⟩
 ·cases xs with
  | nil=>simp at hpos
  | cons x l=>exact zcy.2 ⟨x,sp,sp⟩
 ·obtain ⟨x,hx,e⟩:=zcy.1 hf
  obtain ⟨i,hi,rfl⟩:=zaV 0 hx
  obtain ⟨m2,t,e1,e2,h2,h3⟩:=zDs (h3 i hi).1
  have:m = m2:=om
  subst this
  rw [e2,Int.toNat_natCast] at e
  have:=Nat.and_le_left (n:=t) (m:=s)
  omega
def zNh (f:Nat->Bool) (p:Int):Bool:=decide (zax f 64 ≠ 0) && decide (zHU f p = (zbd f:Int) - 1)
theorem ziM (f:Nat->Bool) (p:Int) (hp:isP p = true):AC Tryz.prog 130 [u64 (zax f 64:Nat),int p] (.im (bool (zNh f p))):=by
 refine xac [.tmp 4] Tryz.func130 fun hl=>?_
 refine xg0 ?_
 unfold zNh
 refine ⟨fun h=>zaa (zhk f p hp) ?_,fun h=>?_⟩
 ·refine xg0 ?_
  refine zaa (zdl f) ?_
  refine xg0 ?_
  have h:zax f 64 ≠ 0:=fun e=>by rw [e] at h;cases h
  rw [decide_eq_true h]
  rfl
 ·have h:zax f 64 = 0:=by
   have:((zax f 64:Nat):Int) = 0:=by simpa using h
   omega
  rw [h];rfl
theorem znR (n:Int) (xs:List Int) (p:Int):AC Tryz.prog 42 [.ag [int n,zaz xs],int p] (.im (int (if zj4 n xs = true/\isP p = true then zHU (zah xs) p else -1))):=by
 refine xac [.tmp 4] Tryz.func42 fun hl=>?_
 refine xg0 ?_
 refine zaa (zao n xs) ?_
 refine xg0 ?_
 refine ⟨fun hc=>⟨fun h0=>zaa (zb2 p) ?_,fun h0=>?_⟩,fun hc=>?_⟩
 ·have hcx:zaC n xs = true:=by simpa using hc
  have hh:zj4 n xs = true:=zbF.2 ⟨hcx,by simp at h0;exact List.length_pos_iff.2 h0⟩
  refine xg0 ?_
  refine ⟨fun hp=>?_,fun hp=>?_⟩
  ·rw [if_neg (fun h=>by rw [h.2] at hp;cases hp)]
  ·have hp:isP p = true:=by simpa using hp
   refine zaa (zaT n xs (zcb hcx)) ?_
   refine xg0 ?_
   refine zaa (zhk _ p hp) ?_
   rw [if_pos ⟨hh,hp⟩]
   exact xd0
 ·rw [if_neg (fun h=>by have:=(zbF.1 h.1).2;simp at h0;simp [h0] at this)]
 ·rw [if_neg (fun h=>by have:=(zbF.1 h.1).1;rw [this] at hc;cases hc)]
noncomputable def cmO (n:Int) (xs:List Int) (p:Int):Bool:=zaC n xs && (isP p && zNh (zah xs) p)
theorem zfP (n:Int) (xs:List Int) (p:Int):AC Tryz.prog 67 [.ag [int n,zaz xs],int p] (.im (bool (cmO n xs p))):=by
 refine xac [.tmp 4] Tryz.func67 fun hl=>?_
 refine xg0 ?_
 refine zaa (zao n xs) ?_
 refine xg0 ?_
 unfold cmO
 refine ⟨fun hc=>zaa (zb2 p) ?_,fun hc=>?_⟩
 ·refine xg0 ?_
  rw [hc]
  refine ⟨fun hp=>?_,fun hp=>?_⟩
  ·refine zaa (zaT n xs (zcb hc)) ?_
   refine xg0 ?_
   refine zaa (ziM _ p hp) ?_
   rw [hp]
   exact xd0
  ·rw [hp];rfl
 ·rw [hc];rfl
theorem zJh (n:Int) (xs:List Int):-2 <= zdC n xs/\zdC n xs <= 100000000:=by
 unfold zdC
 split
 ·rename_i h
  obtain ⟨hcx,hpos⟩:=zbF.1 h
  have:=zcb hcx _ (zaj 0 (show xs.length - 1 < xs.length by omega))
  have:=zcg (s:=(xs.getD (xs.length - 1) 0).toNat) om
  omega
 ·omega
theorem zFW {n:Int} {xs:List Int} (h:zaC n xs = true):∀ x ∈ xs,zar x.toNat <= zar (xs.getD (xs.length - 1) 0).toNat:=fun x hx=>by
 obtain ⟨_,_,h3⟩:=zaK.1 h
 have hok:=zcb h
 have hle:∀ j,j < xs.length->∀ i,i <= j->zar (xs.getD i 0).toNat <= zar (xs.getD j 0).toNat:=by
  intro j
  induction j with
  | zero=>intro _ i hi;rw [show i = 0 by omega];exact Nat.le_refl _
  | succ j ih =>
    intro hj i hi
    have h1:=(h3 (j + 1) hj).2.1 om
    rw [Nat.add_sub_cancel] at h1
    have q1:=hok _ (zaj 0 hj)
    have q2:=hok _ (zaj 0 (show j < xs.length by omega))
    unfold znC at h1
    rw [zdm q1,zdm q2] at h1
    simp only [Bool.and_eq_true,decide_eq_true_eq] at h1
    have hs:zar (xs.getD j 0).toNat <= zar (xs.getD (j + 1) 0).toNat:=by
     have h2:=h1.2.2
     split at h2
     ·omega
     ·have:=of_decide_eq_true h2;omega
    by_cases e:i = j + 1
    ·rw [e];exact Nat.le_refl _
    ·exact Nat.le_trans (ih om i om) hs
 obtain ⟨i,hi,rfl⟩:=zaV 0 hx
 exact hle (xs.length - 1) om i om
theorem zm4 {n:Int} {xs:List Int} (h:zj4 n xs = true):zdC n xs + 1 = (zbd (zah xs):Int) - 1:=by
 obtain ⟨hcx,hpos⟩:=zbF.1 h
 have hok:=zcb hcx
 have e:zdC n xs = (zar (xs.getD (xs.length - 1) 0).toNat:Int) - 1:=if_pos h
 have hl:=zaj 0 (show xs.length - 1 < xs.length by omega)
 have hlast:=hok _ hl
 have hf:zah xs (xs.getD (xs.length - 1) 0).toNat = true:=zcy.2 ⟨_,hl,Nat.and_self _⟩
 have h1:=zfj 64 _ om hf
 have hdn:zbd (zah xs) = zj5 (zah xs) 64:=rfl
 obtain ⟨T,a,b,c⟩:=zmZ (f:=zah xs) 64 om
 obtain ⟨x,hx,hxT⟩:=zcy.1 b
 have h2:=zFW hcx x hx
 have h3:=zF2 (s:=x.toNat) (t:=T) (by have:=hok x hx;omega) hxT
 omega
theorem zm5 {n:Int} {xs:List Int} (h:zaC n xs = true) (h2:¬ zj4 n xs = true):xs = []:=by
 cases xs with
 | nil=>rfl
 | cons a l=>exact absurd (zbF.2 ⟨h,sp⟩) h2
theorem zvf {n:Int} {xs:List Int} {p:Int} (h:zj4 n xs = true) (hp:isP p = true):∃ (m q d:Nat) (_:NeZero q),n = m/\p = q/\1 <= m/\m <= 6/\zMC q (zah xs) m d/\zm8 n xs p = d/\zHU (zah xs) p = d/\(d:Int) <= (zbd (zah xs):Int) - 1:=by
 obtain ⟨m,rfl,h1,h6,hd,h0,hs⟩:=zk9 h
 obtain ⟨q,rfl,hq⟩:=zJF hp
 haveI:NeZero q:=⟨hq⟩
 obtain ⟨d,a,b,c,e⟩:=zJk (m:=m) hp hd h0 h6 hs
 exact ⟨m,q,d,inferInstance,rfl,rfl,h1,h6,a,by rw [zm8,if_pos ⟨(zbF.1 h).1,hp⟩];exact b,c,e⟩
theorem zFX {xs:List Int} (h:zah xs 0 = true):zax (zah xs) 64 ≠ 0:=fun e=>by
 have:=zba (zah xs) (s:=0) (by decide)
 rw [e,h,Nat.zero_testBit] at this;cases this
theorem zNK (n:Int) (xs:List Int) (p:Int):(decide (0 <= zm8 n xs p) && decide (zm8 n xs p = zdC n xs + 1)) = cmO n xs p:=by
 unfold cmO
 by_cases hp:isP p = true
 ·by_cases h:zj4 n xs = true
  ·obtain ⟨m,q,d,_,rfl,rfl,h1,h6,hd,e1,e2,e3⟩:=zvf h hp
   have h0:=(zk9 h).choose_spec.2.2.2.2.1
   unfold zNh
   rw [(zbF.1 h).1,hp,e1,e2,zm4 h,decide_eq_true (zFX h0),decide_eq_true om]
   rfl
  ·cases hc:zaC n xs with
   | false =>
     have:zm8 n xs p = -1:=if_neg fun h=>by rw [h.1] at hc;cases hc
     rw [this];rfl
   | true =>
     have hx:=zm5 hc h
     subst hx
     have e1:zm8 n [] p = -1:=by rw [zm8,if_pos ⟨hc,hp⟩];rfl
     rw [e1,hp];rfl
 ·have:zm8 n xs p = -1:=if_neg fun h=>hp h.2
  rw [this,show isP p = false by simpa using hp];simp
theorem zfQ (n:Int) (xs:List Int) (p:Int):AC Tryz.prog 75 [.ag [int n,zaz xs],int p] (.im (bool (cmO n xs p))):=by
 refine xac [.tmp 4] Tryz.func75 fun hl=>?_
 refine xg0 ?_
 refine zaa (zhl n xs p) ?_
 refine xg0 ?_
 rw [<- zNK]
 have hb:=zJh n xs
 have hw:IntKind.i64.wrap (zdC n xs + 1) = zdC n xs + 1:=zai om om
 refine ⟨fun h=>zaa (zbQ n xs) ?_,fun h=>?_⟩
 ·refine xg1 hw ?_
  rw [decide_eq_true h]
  rfl
 ·rw [decide_eq_false h];rfl
theorem zDB (a b:Int):IntKind.i64.wrap (IntKind.i64.wrap a + b) = IntKind.i64.wrap (a + b):=by
 simp [IntKind.wrap,IntKind.bits,IntKind.signed]
 omega
theorem zMA (m:Nat):zdQ .i64 (m:Int) 1 = ((m % 2:Nat):Int):=by
 have e:zdQ .i64 (m:Int) 1 = IntKind.i64.wrap (((BitVec.ofInt 64 (m:Int) &&& BitVec.ofInt 64 1).toNat:Nat):Int):=rfl
 have h1:BitVec.ofInt 64 (m:Int) = BitVec.ofNat 64 m:=sp
 have h2:BitVec.ofInt 64 (1:Int) = BitVec.ofNat 64 1:=by decide
 have h3:(BitVec.ofNat 64 m &&& BitVec.ofNat 64 1).toNat = m % 2:=by
  rw [BitVec.toNat_and,BitVec.toNat_ofNat,BitVec.toNat_ofNat,show 1 % 2 ^ 64 = 1 by decide,Nat.and_one_is_mod]
  omega
 rw [e,h1,h2,h3,zai om om]
def pzI (s:Int):Int:=IntKind.i64.wrap ((zar s.toNat:Nat):Int)
theorem zjr {s:Int} (h:0 <= s/\s < 64):pzI s = (zar s.toNat:Nat):=by
 have:=zcg (s:=s.toNat) om
 exact zai om om
theorem zhj (u:Int):AC Tryz.prog 82 [int u] (.im (int (pzI u))):=by
 refine xac [.tmp 2] Tryz.func82 fun hl=>?_
 refine xg0 ?_
 by_cases hs:0 <= u
 ·obtain ⟨n,rfl⟩:=Int.eq_ofNat_of_zero_le hs
  have hz:int 0 = int (IntKind.i64.wrap ((0:Nat):Int)):=rfl
  refine zag (fun (za:Nat × Nat) s=>match za with | (m,a)=>(s.sl 0 = int m/\s.sl 3 = int (IntKind.i64.wrap (a:Int)))/\(a + zar m = zar n)) (fun (m,a)=>m) ((n,0)) ⟨(xc1 hz),sp⟩ ?_
  intro (m,a) sa ⟨Ha,hIa⟩
  refine xg4 Ha @zMA @zx6 @zDB ?_
  refine ⟨fun h1=>?_,fun h1=>?_⟩
  ·have hm0:m ≠ 0:=om
   have hp:=hIa
   rw [zkW hm0] at hp
   have hw:IntKind.i64.wrap ((a:Int) + ((m % 2:Nat):Int)) = IntKind.i64.wrap ((a + m % 2:Nat):Int):=by congr 1
   exact zab ((m / 2,a + m % 2)) ⟨(xc2 Ha hw),by dsimp only;omega⟩
  ·have:m = 0:=om
   subst this
   rw [zcx,Nat.add_zero] at hIa
   unfold pzI
   rw [Int.toNat_natCast,<- hIa]
 ·refine zag (fun (t:Unit) s=>(s.sl 0 = int u/\s.sl 3 = int 0)/\(True)) (fun t=>0) (()) ⟨xc0,trivial⟩ ?_
  intro t sa ⟨Ha,hIa⟩
  refine xg1 Ha ?_
  refine ⟨fun h1=>absurd h1 om,fun h1=>?_⟩
  have:u.toNat = 0:=om
  unfold pzI
  rw [this,zcx];rfl
noncomputable def puB (n:Int) (xs:List Int):Bool:=zaC n xs && xs.all fun x=>decide (zar x.toNat = zar (xs.getD 0 0).toNat)
theorem zMB {n:Int} {xs:List Int} {k:Nat} (hk:k < xs.length) (h:pzI (xs.getD k 0) ≠ pzI (xs.getD 0 0)):puB n xs = false:=by
 unfold puB
 cases hc:zaC n xs with
 | false=>rfl
 | true =>
   have hok:=zcb hc
   rw [Bool.true_and,List.all_eq_false]
   refine ⟨_,zaj 0 hk,?_⟩
   rw [zjr (hok _ (zaj 0 hk)),zjr (hok _ (zaj 0 (show 0 < xs.length by omega)))] at h
   intro e
   exact h (by have:=of_decide_eq_true e;omega)
theorem zHT {n:Int} {xs:List Int} (hc:zaC n xs = true) (h:∀ k,k < xs.length->pzI (xs.getD k 0) = pzI (xs.getD 0 0)):puB n xs = true:=by
 unfold puB
 have hok:=zcb hc
 rw [hc,Bool.true_and,List.all_eq_true]
 intro x hx
 obtain ⟨k,hk,rfl⟩:=zaV 0 hx
 have:=h k hk
 rw [zjr (hok _ (zaj 0 hk)),zjr (hok _ (zaj 0 (show 0 < xs.length by omega)))] at this
 exact decide_eq_true om
theorem zfl (n:Int) (xs:List Int):AC Tryz.prog 72 [.ag [int n,zaz xs]] (.im (bool (puB n xs))):=by
 refine xac [.tmp 2] Tryz.func72 fun hl=>?_
 simp only [zaS,zbe,and_true,zcv,zev,zdh,true_and] at hl
 refine xg0 ?_
 refine zag (fun (k:Nat) s=>(s.sl 1 = .ref 1 1 0/\s.rw 1 = ⟨1,.box 27 [int n,zaz xs]⟩/\s.sl 3 = int (k + 1:Nat))/\((k + 1 <= xs.length \/ k = 0)/\∀ j,j < k + 1->pzI (xs.getD j 0) = pzI (xs.getD 0 0))) (fun k=>xs.length - k) (0) ⟨xc0,⟨.inr rfl,fun j hj=>by rw [show j = 0 by omega]⟩⟩ ?_
 intro k sa ⟨Ha,hIa⟩
 obtain ⟨hk,hall⟩:=hIa
 refine xg1 Ha ?_
 refine ⟨fun h=>⟨kr,h,h,zaa (zhj _) ?_⟩,fun h=>zaa (zat n xs) ?_⟩
 ·refine xg1 Ha ?_
  refine ⟨om,om,zaa (zhj _) ?_⟩
  refine xg1 Ha ?_
  refine ⟨fun he=>?_,fun he=>?_⟩
  ·rw [zMB h (by simpa using he)]
  ·have he:pzI (xs.getD (k + 1) 0) = pzI (xs.getD 0 0):=by simpa using he
   exact zab (k + 1) ⟨(xc2 Ha (zac h hl)),⟨.inl om,fun j hj=>by
    by_cases e:j = k + 1
    ·rw [e];exact he
    ·exact hall j om⟩⟩
 ·refine xg1 Ha ?_
  cases hc:zaC n xs with
  | false=>unfold puB;rw [hc];rfl
  | true=>rw [zHT hc fun j hj=>hall j om]
theorem zfm (n:Int) (xs:List Int):AC Tryz.prog 64 [.ag [int n,zaz xs]] (.im (bool (puB n xs))):=by
 refine xac [.tmp 2] Tryz.func64 fun hl=>?_
 simp only [zaS,zbe,and_true,zcv,zev,zdh,true_and] at hl
 refine xg0 ?_
 refine zaa (zao n xs) ?_
 refine xg0 ?_
 refine ⟨fun hc=>?_,fun hc=>?_⟩
 ·have hc:zaC n xs = false:=by simpa using hc
  unfold puB;rw [hc];rfl
 ·have hc:zaC n xs = true:=by simpa using hc
  have hok:=zcb hc
  refine zag (fun (k:Nat) s=>(s.sl 1 = .ref 1 1 0/\s.rw 1 = ⟨1,.box 27 [int n,zaz xs]⟩/\s.sl 9 = zaz xs/\s.sl 10 = int xs.length/\s.sl 11 = int k)/\(k <= xs.length/\∀ j,j < k->pzI (xs.getD j 0) = pzI (xs.getD 0 0))) (fun k=>xs.length - k) (0) ⟨xc0,⟨Nat.zero_le _,fun j hj=>om⟩⟩ ?_
  intro k sa ⟨Ha,hIa⟩
  obtain ⟨hk,hall⟩:=hIa
  refine xg1 Ha ?_
  refine ⟨fun h=>⟨h,h,kr,zaa (zaE _) ?_⟩,fun h=>?_⟩
  ·have q1:=hok _ (zaj 0 h)
   have q0:=hok _ (zaj 0 (show 0 < xs.length by omega))
   refine xg1 Ha ?_
   refine ⟨om,om,zaa (zaE _) ?_⟩
   rw [zdm q1,zdm q0,<- zjr q1,<- zjr q0]
   refine xg1 Ha ?_
   refine ⟨fun he=>?_,fun he=>?_⟩
   ·rw [zMB h (by simpa using he)]
   ·have he:pzI (xs.getD k 0) = pzI (xs.getD 0 0):=by simpa using he
    exact zab (k + 1) ⟨(xc2 Ha (zac h hl)),⟨om,fun j hj=>by
     by_cases e:j = k
     ·rw [e];exact he
     ·exact hall j om⟩⟩
  ·rw [zHT hc fun j hj=>hall j om]
theorem zfp {α β:Type} (f:α->Option β) {l:List α} {k:Nat} (d:α) (h:k < l.length):(l.take (k + 1)).findSome? f = ((l.take k).findSome? f).or (f (l.getD k d)):=by
 rw [zas d h,List.findSome?_append]
 simp
theorem zj9 {α β:Type} (f:α->Option β) {l:List α} {k:Nat} (d:α) (h:k < l.length) (h0:(l.take k).findSome? f = none) {x:β} (h1:f (l.getD k d) = some x):l.findSome? f = some x:=by
 rw [<- List.take_append_drop (k + 1) l,List.findSome?_append,zfp f d h,h0,h1];rfl
noncomputable def zNi (xs:List Int):List Nat:=(List.range 64).filter (inF xs)
noncomputable def zt7 (xs:List Int):List Int:=ofN (zNi xs)
theorem zM3 (xs:List Int):okL (zt7 xs):=fun b hb=>by
 unfold zt7 ofN at hb
 obtain ⟨s,hs,rfl⟩:=List.mem_map.1 hb
 have:=List.mem_range.1 (List.mem_filter.1 hs).1
 omega
theorem zEf (xs:List Int):(zt7 xs).length <= 64:=by
 unfold zt7 zNi
 rw [zad]
 have:=List.length_filter_le (inF xs) (List.range 64)
 rw [List.length_range] at this
 exact this
theorem zGd {xs:List Int} (hn:xs.Nodup) (hx:okL xs):zju xs = zt7 xs:=by
 symm
 have hmem:∀ x:Int,x ∈ zt7 xs ↔ x ∈ xs:=fun x=>by
  unfold zt7 zNi ofN
  rw [List.mem_map]
  refine ⟨fun ⟨s,hs,e⟩=>?_,fun h=>⟨x.toNat,List.mem_filter.2 ⟨List.mem_range.2 (by have:=hx x h;omega),?_⟩,by have:=hx x h;omega⟩⟩
  ·have h2:=(List.mem_filter.1 hs).2
   unfold inF at h2
   rw [<- e];exact of_decide_eq_true h2
  ·unfold inF
   have:=hx x h
   exact decide_eq_true (by rw [show ((x.toNat:Nat):Int) = x by omega];exact h)
 have hpw:(zt7 xs).Pairwise (· < ·):=by
  unfold zt7 zNi ofN
  refine List.Pairwise.map _ (fun a b h=>?_) (List.Pairwise.filter _ List.pairwise_lt_range)
  ·exact Int.ofNat_lt.2 h
 refine zyn ?_ (hpw.imp fun h=>Int.le_of_lt h)
 exact (List.perm_ext_iff_of_nodup (hpw.imp fun h=>Int.ne_of_lt h) hn).2 hmem
theorem zzK (x y:Int):AC Tryz.prog 221 [int x,int y] (.im (bool (decide (x < y)))):=by
 refine xac [.tmp 4] Tryz.func221 fun hl=>?_
 refine xg0 ?_
 refine zaa (zur x) ?_
 exact xd0
theorem zt8 (n:Nat) (hn:n < 9):∃ k:Int,AC Tryz.prog 225 [u64 n] (.im (int k)):=by
 refine ⟨if n = 0 then 0 else if n < 2 then 1 else if n < 4 then 2 else if n < 8 then 3 else 4,?_⟩
 refine xac [.tmp 2] Tryz.func225 fun hl=>?_
 refine xg0 ?_
 refine ⟨fun h=>absurd h om,fun _=>⟨fun h=>absurd h om,fun _=>⟨fun h=>absurd h om,fun _=>?_⟩⟩⟩
 have h9:n = 0 \/ n = 1 \/ n = 2 \/ n = 3 \/ n = 4 \/ n = 5 \/ n = 6 \/ n = 7 \/ n = 8:=om
 rcases h9 with rfl | rfl | rfl | rfl | rfl | rfl | rfl | rfl | rfl <;> exact ⟨by decide +kernel,by decide +kernel,by decide +kernel⟩
theorem zzL (n:Nat) (hn:n < 9):∃ k:Int,AC Tryz.prog 196 [.v (.int .u64 n)] (.im (int k)):=by
 obtain ⟨k,hk⟩:=zt8 n hn
 refine ⟨k,?_⟩
 refine xac [.tmp 2] Tryz.func196 fun hl=>?_
 refine xg0 ?_
 refine zaa hk ?_
 exact xd0
theorem znn (xs:List Int) (hx:xs.length <= 1000):AM Tryz.prog 215 [.own 1000000 1,int 0,int xs.length] [⟨3,1,iL xs⟩] [iL (zju xs)] (.tuple #[]):=by
 refine AM.go (rs:=[]) zzS mixed Tryz.func215 rfl rfl rfl kr (zcF (zaU _) zeI) (zcE (zaU _) zeH) rfl fun hl=>?_
 refine xg0 ?_
 refine zag (fun ((i,l):Nat × List Int) s=>s.sl 0 = .own 1000000 1/\s.rw 1000000 = ⟨1,.sli 3 1 false (iL l)⟩/\s.sl 1 = int 0/\s.sl 2 = int xs.length/\s.sl 6 = int i/\1 <= i/\l.Perm xs/\zF9 l i/\(i <= xs.length \/ xs.length = 0)) (fun (i,_)=>xs.length - i) (1,xs) ⟨by simp -dsimp only [gr,simprocAttr],by simp -dsimp only [gr,simprocAttr],by simp -dsimp only [gr,simprocAttr],by simp -dsimp only [gr,simprocAttr],by simp -dsimp only [gr,simprocAttr];rfl,om,List.Perm.refl _,fun a b h1 h2=>om,om⟩ ?_
 intro (i,l) s1 ⟨h0,r0,h1,h2,h6,hi,hp,hs,hb⟩
 have hlen:=hp.length_eq
 refine xg5 h0 r0 h1 h2 h6 ?_
 refine ⟨fun hin=>?_,fun hin=>?_⟩
 rotate_left
 ·have e:l = zju xs:=by
   refine zEb hp fun a b q1 q2=>?_
   rcases hb with hb | hb
   ·exact hs a b q1 om
   ·omega
  rw [<- e]
 ·refine zag (fun ((j,m):Nat × List Int) s=>s.sl 0 = .own 1000000 1/\s.rw 1000000 = ⟨1,.sli 3 1 false (iL m)⟩/\s.sl 1 = int 0/\s.sl 2 = int xs.length/\s.sl 6 = int i/\s.sl 7 = int j/\j <= i/\m.Perm xs/\zt4 m i j) (fun (j,_)=>j) (i,l) ⟨by simp -dsimp only [gr,simprocAttr,h0],by simp -dsimp only [gr,simprocAttr,r0],by simp -dsimp only [gr,simprocAttr,h1],by simp -dsimp only [gr,simprocAttr,h2],by simp -dsimp only [gr,simprocAttr,h6],by simp -dsimp only [gr,simprocAttr],Nat.le_refl _,hp,zzC hs⟩ ?_
  intro (j,m) s2 ⟨g0,k0,g1,g2,g6,g7,hj,hpm,hsm⟩
  have hlm:=hpm.length_eq
  have hjl:j < m.length:=om
  by_cases hj0:0 < j
  ·have hw:IntKind.i64.wrap ((j:Int) - 1) = ((j - 1:Nat):Int):=by rw [zai om om];omega
   refine xg7 g0 k0 g1 g2 g6 g7 hw ?_
   refine ⟨kr,fun _=>⟨hjl,hjl,om,om,zaa (zzK _ _) ?_⟩,fun h=>?_⟩
   ·refine xg7 g0 k0 g1 g2 g6 g7 hw ?_
    refine ⟨fun hlt=>⟨kr,om,om,om,om,om,om,om,om,kr,?_⟩,fun hge=>?_⟩
    ·exact zab (j - 1,swj m j) ⟨by simp -dsimp only [gr,simprocAttr,g0],by simp -dsimp only [gr,simprocAttr,k0];rfl,by simp -dsimp only [gr,simprocAttr,g1],by simp -dsimp only [gr,simprocAttr,g2],by simp -dsimp only [gr,simprocAttr,g6],by simp -dsimp only [gr,simprocAttr,hw],om,(zF8 hj0 hjl).trans hpm,zvv hsm hj0 hj om hlt⟩ (by show j - 1 < j;omega)
    ·exact zab (i + 1,m) ⟨by simp -dsimp only [gr,simprocAttr,g0],by simp -dsimp only [gr,simprocAttr,k0],by simp -dsimp only [gr,simprocAttr,g1],by simp -dsimp only [gr,simprocAttr,g2],by simp -dsimp only [gr,simprocAttr];rw [zai om om];rfl,om,hpm,znh hsm hj (.inr (Int.not_lt.1 hge)),om⟩ (by show xs.length - (i + 1) < xs.length - i;omega)
   ·exact absurd (show (0:Int) < (j:Int) by omega) h
  ·refine xg6 g0 k0 g1 g2 g6 g7 ?_
   refine ⟨kr,fun h=>absurd (show (0:Int) < (j:Int) from h) om,fun h=>?_⟩
   exact zab (i + 1,m) ⟨by simp -dsimp only [gr,simprocAttr,g0],by simp -dsimp only [gr,simprocAttr,k0],by simp -dsimp only [gr,simprocAttr,g1],by simp -dsimp only [gr,simprocAttr,g2],by simp -dsimp only [gr,simprocAttr];rw [zai om om];rfl,om,hpm,znh hsm hj (.inl om),om⟩ (by show xs.length - (i + 1) < xs.length - i;omega)
theorem zEg (xs:List Int) (hx:xs.length <= 12) (k:Int):AM Tryz.prog 195 [.own 1000000 1,int 0,int xs.length,int k] [⟨3,1,iL xs⟩] [iL (zju xs)] (.tuple #[]):=by
 refine AM.go (rs:=[]) zzS mixed Tryz.func195 rfl rfl rfl kr (zcF (zaU _) zeI) (zcE (zaU _) zeH) rfl fun hl=>?_
 refine xg0 ?_
 refine zag (fun (_:Unit) s=>s.sl 0 = .own 1000000 1/\s.rw 1000000 = ⟨1,.sli 3 1 false (iL xs)⟩/\s.sl 1 = int 0/\s.sl 2 = int xs.length) (fun _=>0) () ⟨by simp -dsimp only [gr,simprocAttr],by simp -dsimp only [gr,simprocAttr],by simp -dsimp only [gr,simprocAttr],by simp -dsimp only [gr,simprocAttr]⟩ ?_
 intro _ s1 ⟨h0,r0,h1,h2⟩
 have hw:IntKind.i64.wrap ((xs.length:Int) - 0) = (xs.length:Int):=by rw [zai om om];omega
 refine xg5 h0 r0 h1 h2 hw ?_
 refine ⟨fun h=>?_,fun h=>absurd (show (xs.length:Int) <= 12 by omega) h⟩
 refine zlw (znn xs om) [(1000000,1)] (by repeat (first | exact GiveL.nil | refine GiveL.v ?_ | refine GiveL.clo ?_ | refine GiveL.own 0 rfl ?_ | refine GiveL.own 1 rfl ?_ | refine GiveL.ag ?_ ?_)) ⟨by simp -dsimp only [gr,simprocAttr,r0],trivial⟩ (by decide) ?_
 exact xd1 r0
theorem zqY (xs:List Int) (hx:xs.length <= 8):AM Tryz.prog 172 [.own 1000000 1] [⟨3,1,iL xs⟩] [iL (zju xs)] (.tuple #[]):=by
 refine AM.go (rs:=[]) zzS mixed Tryz.func172 rfl rfl rfl kr (zcF (zaU _) zeI) (zcE (zaU _) zeH) rfl fun hl=>?_
 obtain ⟨k,hk⟩:=zzL xs.length om
 have hu:IntKind.u64.wrap (xs.length:Int) = (xs.length:Int):=zaI om
 refine xg1 hu ?_
 refine zaa hk ?_
 refine xg1 hu ?_
 refine zlw (zEg xs om k) [(1000000,1)] (by repeat (first | exact GiveL.nil | refine GiveL.v ?_ | refine GiveL.clo ?_ | refine GiveL.own 0 rfl ?_ | refine GiveL.own 1 rfl ?_ | refine GiveL.ag ?_ ?_)) ⟨by simp -dsimp only [gr,simprocAttr],trivial⟩ (by decide) ?_
 exact xd0
open Nat (reduceEqDiff reduceMod reduceAdd reduceLT reduceLeDiff reduceSub reduceMul)
def oC (items:List Int) (f:FuncId) (fl:List Bool) (p:PV):List PV:=.sl false 1 (iL items) :: .clo f [] :: (bL fl ++ [p])
section
variable {items:List Int} {f:FuncId} {fl:List Bool} {p:PV} {Kp:PV->Prop}
theorem zt6 (h:fl.length = 256):(oC items f fl p).length = 259:=by simp [oC,bL,h]
theorem znk {t:TypeId} (h0:(T t).k.agg = false) (h1:0 < (T t).size):ldK T t .asis (oC items f fl p) 0 Kp = Kp (.sl false 1 (iL items)):=by simp [ldK,h0,h1,oC,Md.fix]
theorem znl {t:TypeId} (h0:(T t).k.agg = false) (h1:0 < (T t).size):ldK T t .asis (oC items f fl p) 1 Kp = Kp (.clo f []):=by simp [ldK,h0,h1,oC,Md.fix]
theorem zM0 {t:TypeId} (n:Nat) (h:fl.length = 256) (hn:n < 256) (h0:(T t).k.agg = false) (h1:0 < (T t).size):ldK T t .asis (oC items f fl p) (2 + n) Kp = Kp (.v (.bool (fl.getD n false))):=by
 have e:(oC items f fl p).getD (2 + n) .junk = .v (.bool (fl.getD n false)):=by
  have h2:n < (bL fl).length:=by simp [bL,h,hn]
  simp only [oC,List.getD,show 2 + n = n + 1 + 1 by omega,List.getElem?_cons_succ]
  rw [List.getElem?_append_left h2]
  simp [bL,h,hn]
 have hl:=zt6 (items:=items) (f:=f) (p:=p) h
 simp only [ldK,h0,h1,hl,true_and]
 rw [e]
 simp [Md.fix];omega
theorem znm {t:TypeId} (h:fl.length = 256) (h0:(T t).k.agg = false) (h1:0 < (T t).size):ldK T t .asis (oC items f fl p) 258 Kp = Kp p:=by
 have e:(oC items f fl p).getD 258 .junk = p:=by
  have h2:(bL fl).length = 256:=by simp [bL,h]
  simp only [oC,List.getD,show 258 = 256 + 1 + 1 by omega,List.getElem?_cons_succ]
  rw [List.getElem?_append_right om,h2]
  simp
 have hl:=zt6 (items:=items) (f:=f) (p:=p) h
 simp only [ldK,h0,h1,hl,true_and]
 rw [e]
 simp [Md.fix]
theorem zvw (h:fl.length = 256) (q:PV):spl (oC items f fl p) 258 [q] = oC items f fl q:=by
 have h2:(bL fl).length = 256:=by simp [bL,h]
 show (oC items f fl p).set 258 q = _
 simp only [oC,show 258 = 256 + 1 + 1 by omega,List.set_cons_succ]
 rw [List.set_append_right _ _ om,h2]
 simp
theorem zJO (n:Nat) (h:fl.length = 256) (hn:n < 256) (b:Bool):spl (oC items f fl p) (2 + n) [.v (.bool b)] = oC items f (fl.set n b) p:=by
 have h2:n < (bL fl).length:=by simp [bL,h,hn]
 show (oC items f fl p).set (2 + n) (.v (.bool b)) = _
 simp only [oC,show 2 + n = n + 1 + 1 by omega,List.set_cons_succ]
 rw [List.set_append_left _ _ h2]
 simp [bL,List.map_set]
end
def oR (b:Bool) (items:List Int) (f:FuncId) (fl:List Bool) (list:List Int) (k:Nat):Row :=
 if k = 1000000 then ⟨1,.box 127 (oC items f fl (if b = true then .v (.slice none 0 0) else .own 1000001 1))⟩ else if k = 1000001/\b = false then ⟨1,.sli 3 1 false (iL list)⟩ else ⟨0,.dead⟩
def zzI (ft:List Int->Int->Bool) (items:List Int) (f:FuncId) (n:Nat) (list:List Int) (R1:Nat->Row) (p:PV):Prop :=
 ∃ fl v,fl.length = 256/\zKu ft items (fun u=>fl.getD u false)/\p = bool (zcq ft items n list).isSome/\R1 1000000 = ⟨1,.box 127 (oC items f fl (.own 1000001 v))⟩/\R1 1000001 = ⟨v,.sli 3 1 false (iL ((zcq ft items n list).getD list))⟩
theorem zjv:(T 101).size = 1:=by decide +kernel
theorem zjw:(T 101).k = .other:=by first | rfl | decide +kernel
theorem zM1:∀ u,u < 256->∀ k,k < 8->(zdQ .i64 (zpk .i64 (u:Nat) (k:Nat)) 1 == 1) = Nat.testBit u k:=by decide +kernel
theorem zM2:∀ u,u < 256->∀ k,k < 8->ior .i64 (u:Nat) (zg1 .i64 1 (k:Nat)) = ((u ||| 2 ^ k:Nat):Int):=by decide +kernel
theorem zhm {items:List Int} {f:FuncId} {fl:List Bool} {list:List Int} (b:Bool) (hf:fl.length = 256) (hb:b = true->list = []) {s:St} (hr:∀ k,s.rw k = oR b items f fl list k) :
 ∃ s',Wk s s'/\s'.sl = s.sl/\s'.rw 1000000 = ⟨1,.box 127 (oC items f fl (.own 1000001 1))⟩/\s'.rw 1000001 = ⟨1,.sli 3 1 false (iL list)⟩/\∀ k,k < 1000000->s'.rw k = ⟨0,.dead⟩:=by
 cases b with
 | false=>exact ⟨s,Wk.refl s,rfl,by rw [hr];rfl,by rw [hr];rfl,fun k hk=>by rw [hr];unfold oR;rw [if_neg om,if_neg om]⟩
 | true =>
   have hl:=hb rfl
   subst hl
   have h0:s.rw 1000000 = ⟨1,.box 127 (oC items f fl (.v (.slice none 0 0)))⟩:=by rw [hr];rfl
   have h1:s.rw 1000001 = ⟨0,.dead⟩:=by rw [hr];rfl
   have ho:(oC items f fl (.v (.slice none 0 0)))[258]? = some (.v (.slice none 0 0)):=by
    have h2:(bL fl).length = 256:=by simp [bL,hf]
    simp only [oC,show 258 = 256 + 1 + 1 by omega,List.getElem?_cons_succ]
    rw [List.getElem?_append_right om,h2];rfl
   have hw:=Wk.nilBox 1000001 3 h0 ho (by decide)
   rw [h1] at hw
   have e:(oC items f fl (.v (.slice none 0 0))).set 258 (.own 1000001 (0 + 1)) = oC items f fl (.own 1000001 1):=zvw hf _
   rw [e] at hw
   refine ⟨_,hw,rfl,by rw [zaA],by rw [zap _ _ _ _ (by decide),zaA];rfl,fun k hk=>?_⟩
   rw [zap _ _ _ _ om,zap _ _ _ _ om,hr];unfold oR;rw [if_neg om,if_neg om]
theorem zH4 {rho:Nat->Option Nat} {Ln:Nat->Prop} {R0 R:Nat->Row} {l l':List PV} (h:GvL rho Ln R0 R l l'):∀ fl:List Bool,GvL rho Ln R0 R (bL fl ++ l) (bL fl ++ l'):=by
 intro fl
 induction fl with
 | nil=>exact h
 | cons b fl ih=>exact .one (.v _) ih
theorem zH5 {rho:Nat->Option Nat} {R1:Nat->Row} {nv:Nat->Nat} {items:List Int} {f:FuncId} {fl:List Bool} {j v:Nat} {nl:Bool} (h1:rho 1000001 = some j) (h2:(R1 1000001).ver = v) :
 (oC items f fl (.own 1000001 v)).map (ren1 rho R1 nv nl) = (match nl with | true=>oC items f fl (.own j (nv 1000001)) | false=>.junk :: (oC items f fl (.own j (nv 1000001))).tail):=by
 have hb:(bL fl).map (ren1 rho R1 nv nl) = bL fl:=by
  unfold bL;rw [List.map_map];exact List.map_congr_left fun x _=>rfl
 have hp:ren1 rho R1 nv nl (.own 1000001 v) = .own j (nv 1000001):=by
  show ztz rho R1 nv nl (.own 1000001 v) = _
  rw [zek,h1,h2,beq_self_eq_true]
 unfold oC
 rw [List.map_cons,List.map_cons,List.map_append,hb,List.map_singleton,hp]
 cases nl <;> rfl
def zJP (k:Nat):Option Nat:=if k = 1000000 \/ k = 1000001 then some k else none
theorem zd6 {k j:Nat} (h:zJP k = some j):k = j/\(k = 1000000 \/ k = 1000001):=by
 unfold zJP at h
 by_cases hk:k = 1000000 \/ k = 1000001
 ·rw [if_pos hk] at h;exact ⟨Option.some.inj h,hk⟩
 ·rw [if_neg hk] at h;cases h
theorem zNS {items:List Int} {f:FuncId} {fl:List Bool} {list:List Int} {k:Nat} (h:(oR false items f fl list k).kind.nd = true):k = 1000000 \/ k = 1000001:=by
 unfold oR at h
 by_cases h0:k = 1000000
 ·exact .inl h0
 ·rw [if_neg h0] at h
  by_cases h1:k = 1000001/\false = false
  ·exact .inr h1.1
  ·rw [if_neg h1] at h;cases h
theorem zJQ {s:St} {K:St->Prop} {g f:FuncId} {ft:List Int->Int->Bool} {items list:List Int} {fl:List Bool} {n d v:Nat} {u:Int} {lent:List PV} {Ka:RV->Prop} {us:Dm s} {uu:Dm K}
 (h:AG Tryz.prog g [.ref 1000000 1 0,int u] (oR false items f fl list) (zzI ft items f n list)) (hb:s.rw 1000000 = ⟨1,.box 127 (oC items f fl (.own 1000001 v))⟩) (hl:s.rw 1000001 = ⟨v,.sli 3 1 false (iL list)⟩)
 (hk:∀ (S:St) (fl':List Bool) (v':Nat),fl'.length = 256->zKu ft items (fun u=>fl'.getD u false)->S.sl d = bool (zcq ft items n list).isSome->(∀ t,t ≠ d->S.sl t = s.sl t) ->
  S.rw 1000000 = ⟨1,.box 127 (oC items f fl' (.own 1000001 v'))⟩->S.rw 1000001 = ⟨v',.sli 3 1 false (iL ((zcq ft items n list).getD list))⟩->(∀ i,i ≠ 1000000->i ≠ 1000001->S.rw i = s.rw i)->K S) :
 zf0 Tryz.prog g lent Ka (znD Tryz.prog g lent [.ref 1000000 1 0,int u] (some d) (kk s us) (kk K uu)):=by
 have r0:zJP 1000000 = some 1000000:=rfl
 have r1:zJP 1000001 = some 1000001:=rfl
 have R00:oR false items f fl list 1000000 = ⟨1,.box 127 (oC items f fl (.own 1000001 1))⟩:=rfl
 have R01:oR false items f fl list 1000001 = ⟨1,.sli 3 1 false (iL list)⟩:=rfl
 refine zut h zJP (fun _=>False) (.one (.ref r0 (by rw [R00]) (by rw [hb]) (by rw [R00];rfl)) (.one (.v _) .nil)) ⟨fun k hk=>?_,fun k k' j _ _ h1 h2=>?_,fun k j _ _ h=>h⟩ fun R1 p hp=>?_
 ·rcases zNS hk with rfl | rfl
  ·refine ⟨Nat.le_refl _,by rw [R00];exact Nat.one_pos,1000000,r0,?_⟩
   rw [R00,hb]
   exact ⟨rfl,.one (.sl _ _ _) (.clo .nil (zH4 (.one (.own r1 (by rw [R01]) (by rw [hl]) (by rw [R01];rfl)) .nil) fl))⟩
  ·refine ⟨by decide,by rw [R01];exact Nat.one_pos,1000001,r1,?_⟩
   rw [R01,hl]
   exact ⟨rfl,rfl,rfl,zaU _⟩
 ·rw [(zd6 h1).1,(zd6 h2).1]
 ·obtain ⟨fl',v',hfl,hI,rfl,hb1,hl1⟩:=hp
  refine ⟨zJP,fun k=>if k = 1000001 then (if v' = 1 then v else v + 1) else 1,true,⟨fun _ _=>rfl,fun a b i h1 h2=>?_,fun a i h1 h2 h3=>?_,fun a i h1 h2=>?_,fun _ _ h=>h⟩,fun S hS=>?_⟩
  ·rw [(zd6 h1).1,(zd6 h2).1]
  ·obtain ⟨rfl,rfl | rfl⟩:=zd6 h1
   ·rw [hb];rfl
   ·rw [hl1,R01] at h3
    have h3:v' = 1:=h3
    rw [hl]
    simp [h3]
  ·obtain ⟨rfl,rfl | rfl⟩:=zd6 h1
   ·have:=h2 (by rw [R00];rfl)
    rw [hb1,R00] at this
    exact absurd rfl this
   ·have:=h2 (by rw [R01];rfl)
    rw [hl1,R01] at this
    have h3:¬ v' = 1:=this
    rw [hl]
    simp [h3]
  ·have e0:=hS.row 1000000 1000000 r0
   have e1:=hS.row 1000001 1000001 r1
   rw [hb1] at e0
   rw [hl1] at e1
   have e0:S.rw 1000000 = ⟨1,.box 127 ((oC items f fl' (.own 1000001 v')).map (ren1 zJP R1 _ true))⟩:=e0
   rw [zH5 r1 (by rw [hl1])] at e0
   refine hk S fl' _ hfl hI ?_ (fun t ht=>?_) e0 e1 fun i h1 h2=>hS.off i fun k hk=>?_
   ·rw [hS.sl,zau];rfl
   ·rw [hS.sl,zaG _ _ _ _ ht]
   ·obtain ⟨rfl,h | h⟩:=zd6 hk
    ·exact h1 h
    ·exact h2 h
theorem zzJ (f:FuncId) (ft:List Int->Int->Bool) (hF:∀ l x,okL l->(0 <= x/\x < 64)->AC Tryz.prog f [zaz l,int x] (.im (bool (ft l x)))) (hP:∀ l l' x,l.Perm l'->ft l x = ft l' x) (items:List Int) (hn:items.Nodup) (hok:okL items) (h8:items.length <= 8) :
 ∀ (n:Nat) (b:Bool) (fl:List Bool) (u:Nat) (list:List Int),(b = true->list = [])->fl.length = 256->zKu ft items (fun u=>fl.getD u false)->znj items u list->list.length + n = items.length->okL list->u < 256 ->
  AG Tryz.prog 173 [.ref 1000000 1 0,int u] (oR b items f fl list) (zzI ft items f n list):=by
 intro n
 induction n with
 | zero =>
   intro b fl u list hb hfl hI hc hll hol hu
   refine AG.goW (rs:=[.tmp 4]) zzS mixed Tryz.func173 rfl rfl rfl kr fun hl hrl z hz hr=>?_
   obtain ⟨s,hw,hsl,y0,y1,hlow⟩:=zhm b hfl hb hr
   refine ⟨s,hw,?_⟩
   have z0:s.sl 0 = .ref 1000000 1 0:=by rw [hsl,hz];rfl
   have z1:s.sl 1 = int u:=by rw [hsl,hz];rfl
   clear hz hr hw hsl z
   simp -dsimp only [↓gp,gq,simprocAttr,gT,z0,z1,y0,y1,znm hfl,znk,znl]
   have e:((list.length:Int) == (items.length:Int)) = true:=by rw [beq_iff_eq];omega
   exact ⟨kr,fun _=>⟨fl,1,hfl,hI,rfl,y0,y1⟩,fun h=>absurd (e.symm.trans h) (by decide)⟩
 | succ n ih =>
   intro b fl u list hb hfl hI hc hll hol hu
   refine AG.goW (rs:=[.tmp 4]) zzS mixed Tryz.func173 rfl rfl rfl kr fun hl hrl z hz hr=>?_
   obtain ⟨s,hw,hsl,y0,y1,hlow⟩:=zhm b hfl hb hr
   refine ⟨s,hw,?_⟩
   have z0:s.sl 0 = .ref 1000000 1 0:=by rw [hsl,hz];rfl
   have z1:s.sl 1 = int u:=by rw [hsl,hz];rfl
   clear hz hr hw hsl z
   simp (maxSteps:=9^7) -dsimp only [↓gp,gq,reduceCtorEq,reduceEqDiff,reduceLT,reduceLeDiff,reduceAdd,reduceMul,reduceSub,Nat.reduceBEq,Int.reduceToNat,Int.reduceLE,Int.reduceLT,Int.reduceNeg,reduceMod,gT,z0,z1,y0,y1,znm hfl,znk,znl]
   have e:((list.length:Int) == (items.length:Int)) = false:=by rw [beq_eq_false_iff_ne];omega
   refine ⟨kr,fun h=>absurd (e.symm.trans h) (by decide),fun _=>⟨hu,?_⟩⟩
   simp -dsimp only [↓gp,gq,simprocAttr,gT,zM0 u hfl hu,znk,znl,znm hfl,z0,z1,y0,y1]
   refine ⟨fun h=>?_,fun h=>?_⟩
   ·unfold zzI
    rw [show zcq ft items (n + 1) list = none from hI u h (n + 1) list hc hll]
    exact ⟨fl,1,hfl,hI,rfl,y0,y1⟩
   ·have hdef:zcq ft items (n + 1) list = items.findSome? (fun g=>if decide (g ∈ list) || !ft list g then none else zcq ft items n (list ++ [g])):=rfl
    generalize hff:(fun g=>if decide (g ∈ list) || !ft list g then none else zcq ft items n (list ++ [g])) = F at *
    refine zag (fun (za:Nat × Nat × List Bool) s=>match za with | (k,v,g)=>s.sl 0 = .ref 1000000 1 0/\s.sl 1 = int u/\s.sl 27 = zaz items/\s.sl 28 = int items.length/\s.sl 29 = int k/\s.rw 1000000 = ⟨1,.box 127 (oC items f g (.own 1000001 v))⟩/\s.rw 1000001 = ⟨v,.sli 3 1 false (iL list)⟩/\(k <= items.length/\g.length = 256/\zKu ft items (fun u=>g.getD u false)/\(items.take k).findSome? F = none)) (fun (k,v,g)=>items.length - k) ((0,1,fl)) (by refine ⟨?_,?_,?_,?_,?_,?_,?_,⟨Nat.zero_le _,hfl,hI,rfl⟩⟩ <;> (first | (simp -dsimp only [gr,simprocAttr,z0,z1,y0,y1];first | done | rfl | (simp;done)) | assumption | rfl)) ?_
    intro (k,v,g) sa ⟨h0a,h1a,h27a,h28a,h29a,r1000000a,r1000001a,hIa⟩
    obtain ⟨hk,hgl,hgI,hnone⟩:=hIa
    by_cases h:k < items.length
    ·have hk8:k < 8:=om
     have hu8:IntKind.u64.wrap (k:Int) = (k:Int):=zaI om
     have hb1:=zM1 u hu k hk8
     have hb2:=zM2 u hu k hk8
     simp -dsimp only [↓gp,gq,simprocAttr,gT,h0a,h1a,h27a,h28a,h29a,r1000000a,r1000001a,znk,znl,znm hgl,zjv,zjw,hu8,hb1]
     have hgk:=hok _ (zaj 0 h)
     have hgo:F (items.getD k 0) = if decide (items.getD k 0 ∈ list) || !ft list (items.getD k 0) then none else zcq ft items n (list ++ [items.getD k 0]):=by rw [<- hff]
     have hmem:=zEc hn hc h
     have hskip:F (items.getD k 0) = none->(items.take (k + 1)).findSome? F = none:=fun e=>by rw [zfp F 0 h,hnone,e];rfl
     refine ⟨fun _=>⟨h,h,kr,fun hbit=>zaa (hF list _ hol hgk) ?_,fun hbit=>?_⟩,fun h'=>absurd h h'⟩
     ·simp -dsimp only [↓gp,gq,simprocAttr,gT,h0a,h1a,h27a,h28a,h29a,r1000000a,r1000001a,znk,znl,znm hgl,zvw hgl,zjv,zjw,hu8,hb1]
      refine ⟨fun hb=>?_,fun hb=>?_⟩
      ·have e0:F (items.getD k 0) = none:=by rw [hgo,if_pos (by rw [show ft list (items.getD k 0) = false by simpa using hb];simp)]
       exact zab ((k + 1,v,g)) (by refine ⟨?_,?_,?_,?_,?_,?_,?_,⟨om,hgl,hgI,hskip e0⟩⟩ <;> (first | (simp -dsimp only [gr,simprocAttr,h0a,h1a,h27a,h28a,h29a,r1000000a,r1000001a,zac h om];first | done | rfl | (simp;done)) | assumption | rfl)) (by first | omega | (simp only;omega) | (dsimp only;omega) | (show _ < _;simp;omega))
      ·have hft:ft list (items.getD k 0) = true:=by simpa using hb
       have e0:F (items.getD k 0) = zcq ft items n (list ++ [items.getD k 0]):=by rw [hgo,if_neg (by rw [hmem,hbit,hft];decide)]
       have hu2:u ||| 2 ^ k < 256:=by
        have:u ||| 2 ^ k < 2 ^ 8:=Nat.or_lt_two_pow hu (Nat.pow_lt_pow_right om hk8)
        exact this
       have hIH:=ih false g (u ||| 2 ^ k) (list ++ [items.getD k 0]) (fun h=>by cases h) hgl hgI (zzF hc h hbit) (by simp;omega) (fun b hb'=>by
        rcases List.mem_append.1 hb' with h' | h'
        ·exact hol b h'
        ·rw [List.mem_singleton.1 h'];exact hgk) hu2
       rw [<- hb2] at hIH
       refine ⟨om,by rw [zt6 hgl];exact Nat.le_refl _,zJQ (v:=v + 1) hIH (by simp -dsimp only [gr,simprocAttr,h0a,h1a,h27a,h28a,h29a,r1000000a,r1000001a]) (by simp -dsimp only [gr,simprocAttr,h0a,h1a,h27a,h28a,h29a,r1000000a,r1000001a]) fun S g' v' hgl' hgI' hSd hSs w0 w1 hoff=>?_⟩
       rw [<- e0] at hSd w1
       have u0:S.sl 0 = .ref 1000000 1 0:=by rw [hSs 0 (by decide)];simp -dsimp only [gr,simprocAttr,h0a,h1a,h27a,h28a,h29a,r1000000a,r1000001a]
       have u1:S.sl 1 = int u:=by rw [hSs 1 (by decide)];simp -dsimp only [gr,simprocAttr,h0a,h1a,h27a,h28a,h29a,r1000000a,r1000001a]
       have u27:S.sl 27 = zaz items:=by rw [hSs 27 (by decide)];simp -dsimp only [gr,simprocAttr,h0a,h1a,h27a,h28a,h29a,r1000000a,r1000001a]
       have u28:S.sl 28 = int items.length:=by rw [hSs 28 (by decide)];simp -dsimp only [gr,simprocAttr,h0a,h1a,h27a,h28a,h29a,r1000000a,r1000001a]
       have u29:S.sl 29 = int k:=by rw [hSs 29 (by decide)];simp -dsimp only [gr,simprocAttr,h0a,h1a,h27a,h28a,h29a,r1000000a,r1000001a]
       clear hSs hoff
       simp -dsimp only [↓gp,gq,simprocAttr,gT,hSd,u0,u1,u27,u28,u29,w0,w1,znk,znl,znm hgl',zvw hgl']
       refine ⟨fun hs=>?_,fun hs=>?_⟩
       ·obtain ⟨x,hx⟩:=Option.isSome_iff_exists.1 hs
        unfold zzI
        rw [hdef,zj9 F 0 h hnone hx]
        rw [hx] at w1
        exact ⟨g',v',hgl',hgI',rfl,w0,w1⟩
       ·have e1:F (items.getD k 0) = none:=by
         cases hx:F (items.getD k 0) with
         | none=>rfl
         | some x=>rw [hx] at hs;cases hs
        have el:((F (items.getD k 0)).getD (list ++ [items.getD k 0])).length = list.length + 1:=by rw [e1];simp
        have ew:IntKind.i64.wrap (((F (items.getD k 0)).getD (list ++ [items.getD k 0])).length - 1:Int) = (list.length:Int):=by rw [el,zai om om];omega
        have et:((F (items.getD k 0)).getD (list ++ [items.getD k 0])).take ((list.length:Nat):Int).toNat = list:=by rw [e1];simp
        rw [ew,el]
        refine ⟨kr,⟨by decide +kernel,kr,by decide +kernel,kr⟩,om,om,by rw [zt6 hgl'];exact Nat.le_refl _,kr,?_⟩
        exact zab ((k + 1,v' + 1,g')) (by refine ⟨?_,?_,?_,?_,?_,?_,?_,⟨om,hgl',hgI',hskip e1⟩⟩ <;> (first | (simp -dsimp only [gr,simprocAttr,h0a,h1a,h27a,h28a,h29a,r1000000a,r1000001a,u0,u1,u27,u28,u29,et,zac h (show items.length <= 9223372036854775807 by omega)];first | done | rfl | (simp;done)) | assumption | rfl)) (by first | omega | (simp only;omega) | (dsimp only;omega) | (show _ < _;simp;omega))
     ·have e0:F (items.getD k 0) = none:=by rw [hgo,if_pos (by rw [hmem,hbit];rfl)]
      exact zab ((k + 1,v,g)) (by refine ⟨?_,?_,?_,?_,?_,?_,?_,⟨om,hgl,hgI,hskip e0⟩⟩ <;> (first | (simp -dsimp only [gr,simprocAttr,h0a,h1a,h27a,h28a,h29a,r1000000a,r1000001a,zac h om];first | done | rfl | (simp;done)) | assumption | rfl)) (by first | omega | (simp only;omega) | (dsimp only;omega) | (show _ < _;simp;omega))
    ·have hke:k = items.length:=om
     simp (maxSteps:=9^7) -dsimp only [↓gp,gq,reduceCtorEq,reduceEqDiff,reduceLT,reduceLeDiff,reduceAdd,reduceMul,reduceSub,Nat.reduceBEq,Int.reduceToNat,Int.reduceLE,Int.reduceLT,Int.reduceNeg,reduceMod,gT,h0a,h1a,h27a,h28a,h29a,r1000000a,r1000001a,znk,znl,znm hgl,zJO u hgl hu]
     refine ⟨fun h'=>absurd h' h,fun _=>⟨hu,by rw [zt6 hgl];omega,?_⟩⟩
     rw [hke,List.take_length] at hnone
     unfold zzI
     rw [hdef,hnone]
     refine ⟨g.set u true,v,by rw [List.length_set];exact hgl,?_,rfl,by simp -dsimp only [gr,simprocAttr],by simp -dsimp only [gr,simprocAttr,h0a,h1a,h27a,h28a,h29a,r1000000a,r1000001a];rfl⟩
     have:=zGb hP hgI hc hll (by rw [hdef,hnone])
     intro w hw
     refine this w ?_
     show (if w = u then true else g.getD w false) = true
     by_cases e:w = u
     ·rw [if_pos e]
     ·rw [if_neg e]
      have hw:(g.set u true).getD w false = true:=hw
      simpa [List.getD,List.getElem?_set_ne (Ne.symm e)] using hw
end Go.Proofs.YtkledeboboplmaaGreatDoor

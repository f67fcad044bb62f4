/- DERIVED by an AI agent. -/
import Derived.Test.YtkledeboboplmaaGreatDoorQ5
import Derived.Test.YtkledeboboplmaaGreatDoorQ3
import Derived.Test.YtkledeboboplmaaGreatDoorQ4
import Derived.Test.YtkledeboboplmaaGreatDoorQ1
import Derived.Test.YtkledeboboplmaaGreatDoorA13
namespace Go.Proofs.YtkledeboboplmaaGreatDoor
open Go.Abs
set_option linter.unusedSimpArgs false
set_option linter.unusedVariables false
noncomputable def spF (W:List Int→Mf→Bool × Mf) (xs:List Int) (p:Nat) (g:Mf):Bool × Mf :=
 if zr9 xs p = true then (if (W (lkX xs p) g).1 = true then W (dlX xs p) (W (lkX xs p) g).2 else (false,(W (lkX xs p) g).2)) else (false,g)
noncomputable def lpF (S:Nat→Mf→Bool × Mf) (k:Int):Nat→Nat→Mf→Bool × Mf
 | 0,_,g=>(false,g)
 | n + 1,p,g=>if (S p g).1 = true then (true,zrX (S p g).2 k 1) else lpF S k n (p + 1) (S p g).2
noncomputable def wkF:Nat→List Int→Mf→Bool × Mf
 | 0,_,g=>(true,g)
 | r + 1,xs,g=>if xs.length ≤ 1 then (true,g) else if g (kyX xs) ≠ 0 then (g (kyX xs) == 1,g) else lpF (spF (wkF r) xs) (kyX xs) 6 0 (zrX g (kyX xs) 2)
theorem mpT:zFj T 103:=⟨by rw [zFV];decide,by rw [zKP];decide,zKO,by rw [T3s];decide,T3k,T3z⟩
theorem plu (a:Nat):zbM [u64 a]:=fun q h=>by rw [List.mem_singleton.1 h];rfl
theorem zM9 (a p:Nat):zbM [u64 a,int p]:=fun q h=>by
 rcases List.mem_cons.1 h with rfl | h
 ·rfl
 ·rw [List.mem_singleton.1 h];rfl
theorem zpf (m r:Nat) (ih:∀ xs g,zaL (m:Int) xs = true→usX xs < r→AG Tryz.prog 129 [.ag [.own 1000000 1],u64 (kyX xs)] (mpR g) (zoc (wkF r xs g))) (xs:List Int) (p:Nat) (g:Mf) (h:zaL (m:Int) xs = true) (hu:usX xs < r + 1) (hp:p < 6) :
 AG Tryz.prog 177 [.ag [.own 1000000 1],u64 (kyX xs),int p] (mpR g) (zoc (spF (wkF r) xs p g)):=by
 refine AG.go (rs:=[.tmp 6]) zaD mixed Tryz.func177 rfl rfl rfl (by kernel_rfl) fun hl hrl z hz hr=>?_
 have z0:z.sl 0 = .ag [.own 1000000 1]:=by rw [hz];rfl
 have z1:z.sl 1 = u64 (kyX xs):=by rw [hz];rfl
 have z2:z.sl 2 = int p:=by rw [hz];rfl
 have y0:z.rw 1000000 = ⟨1,.mp g⟩:=by rw [hr,zjd]
 have yl:∀ j,j < 1000000→z.rw j = ⟨0,.dead⟩:=fun j hj=>by rw [hr,zBd _ (by omega)]
 clear hz hr
 have hb:=p64 hp
 have hun:IntKind.u64.wrap (p:Int) = (p:Int):=zaV (by omega)
 have hsh:zip .i64 1 (p:Int) = ((2 ^ p:Nat):Int):=zbf (by omega)
 simp -dsimp only [↓gp,gq,simprocAttr,gT,z0,z1,z2,y0,yl,hun,hsh]
 refine ⟨by kernel_rfl,zab (zsa m xs p h hp) ?_⟩
 simp -dsimp only [↓gp,gq,simprocAttr,gT,z0,z1,z2,y0,yl]
 unfold spF
 refine ⟨fun hs=>?_,fun hs=>?_⟩
 ·rw [if_pos hs]
  have hf:=zhJ hs
  refine zab (zdr (zag xs) _ hb) ?_
  rw [zGC h hp]
  simp -dsimp only [↓gp,gq,simprocAttr,gT,z0,z1,z2,y0,yl]
  have u1:=zBj h hp hf
  have u2:=zBk h hp hf
  have hA:=ih (lkX xs p) g (zlM h hp) (by omega)
  refine zlK hA (plu _) (by simp -dsimp only [gr,simprocAttr,y0]) (by decide) ?_
  generalize wkF r (lkX xs p) g = a at *
  simp -dsimp only [↓gp,gq,simprocAttr,gT,z0,z1,z2,y0,yl]
  refine ⟨fun ha=>?_,fun ha=>?_⟩
  ·rw [if_pos ha]
   refine zab (zen (zag xs) _ hb) ?_
   rw [zJV h]
   simp -dsimp only [↓gp,gq,simprocAttr,gT,z0,z1,z2,y0,yl]
   have hB:=ih (dlX xs p) a.2 (ztv h p) (by omega)
   refine zlK hB (plu _) (by simp -dsimp only [gr,simprocAttr,y0]) (by decide) ?_
   generalize wkF r (dlX xs p) a.2 = b at *
   simp -dsimp only [↓gp,gq,simprocAttr,gT,z0,z1,z2,y0,yl]
   exact ⟨by kernel_rfl,rfl,by simp -dsimp only [gr,simprocAttr,y0]⟩
  ·rw [if_neg (by rw [ha];decide)]
   exact ⟨rfl,by simp -dsimp only [gr,simprocAttr,y0]⟩
 ·rw [if_neg (by rw [hs];decide)]
  exact ⟨rfl,by simp -dsimp only [gr,simprocAttr,y0]⟩
theorem zr8 (m:Nat):∀ (r:Nat) (xs:List Int) (g:Mf),zaL (m:Int) xs = true→usX xs < r→AG Tryz.prog 129 [.ag [.own 1000000 1],u64 (kyX xs)] (mpR g) (zoc (wkF r xs g)):=by
 intro r
 induction r with
 | zero=>intro xs g _ h;omega
 | succ r ih =>
   intro xs g h hu
   refine AG.go (rs:=[.tmp 4]) zaD mixed Tryz.func129 rfl rfl rfl (by kernel_rfl) fun hl hrl z hz hr=>?_
   have z0:z.sl 0 = .ag [.own 1000000 1]:=by rw [hz];rfl
   have z1:z.sl 1 = u64 (kyX xs):=by rw [hz];rfl
   have y0:z.rw 1000000 = ⟨1,.mp g⟩:=by rw [hr,zjd]
   have yl:∀ j,j < 1000000→z.rw j = ⟨0,.dead⟩:=fun j hj=>by rw [hr,zBd _ (by omega)]
   clear hz hr
   have hmx:=zck (kyX xs) (zBm xs)
   rw [zwq h] at hmx
   simp -dsimp only [↓gp,gq,simprocAttr,gT,z0,z1,y0,yl]
   refine zab hmx ?_
   simp -dsimp only [↓gp,gq,simprocAttr,gT,z0,z1,y0,yl]
   refine ⟨fun h0=>?_,fun h0=>?_⟩
   ·rw [show wkF (r + 1) xs g = (true,g) from if_pos (by omega)]
    exact ⟨rfl,by simp -dsimp only [gr,simprocAttr,y0]⟩
   have hw:=(show wkF (r + 1) xs g = _ from if_neg (show ¬ xs.length ≤ 1 by omega))
   refine ⟨mpT,fun h1=>?_,fun h1=>?_⟩
   ·rw [hw,if_pos (by simpa using h1)]
    exact ⟨mpT,rfl,by simp -dsimp only [gr,simprocAttr,y0]⟩
   rw [if_neg (by simpa using h1)] at hw
   rw [hw]
   refine ⟨mpT,?_⟩
   refine zah (fun (za:Nat × Mf) s=>match za with | (j,e)=>s.sl 1 = u64 (kyX xs)∧s.sl 2 = .ref 2 1 0∧s.rw 2 = ⟨1,.box 105 [.own 1000000 1]⟩∧s.rw 1000000 = ⟨1,.mp e⟩∧s.sl 4 = bool false∧s.sl 5 = int j∧(j ≤ 6∧lpF (spF (wkF r) xs) (kyX xs) (6 - j) j e = lpF (spF (wkF r) xs) (kyX xs) 6 0 (zrX g (kyX xs) 2))) (fun (j,e)=>6 - j) ((0,zrX g (kyX xs) 2)) (by refine ⟨?_,?_,?_,?_,?_,?_,⟨Nat.zero_le _,rfl⟩⟩ <;> (first | (simp -dsimp only [gr,simprocAttr,z0,z1,y0,yl];first | done | rfl | (simp;done)) | assumption | rfl)) ?_
   intro (j,e) sa ⟨h1a,h2a,r2a,r1000000a,h4a,h5a,hIa⟩
   obtain ⟨hj,hlp⟩:=hIa
   simp -dsimp only [↓gp,gq,simprocAttr,gT,h1a,h2a,r2a,r1000000a,h4a,h5a]
   refine ⟨fun h2=>?_,fun h2=>?_⟩
   ·rw [show 6 - j = (6 - (j + 1)) + 1 by omega,lpF] at hlp
    have hA:=zpf m r ih xs j e h hu (by omega)
    refine zDs hA (zM9 _ _) (by simp -dsimp only [gr,simprocAttr,h1a,h2a,r2a,r1000000a,h4a,h5a]) ?_
    generalize spF (wkF r) xs j e = a at *
    simp -dsimp only [↓gp,gq,simprocAttr,gT,h1a,h2a,r2a,r1000000a,h4a,h5a]
    refine ⟨fun ha=>?_,fun ha=>?_⟩
    ·rw [if_pos ha] at hlp
     rw [← hlp]
     exact ⟨mpT,rfl,by simp -dsimp only [gr,simprocAttr,h1a,h2a,r2a,r1000000a,h4a,h5a]⟩
    ·rw [if_neg (by rw [ha];decide)] at hlp
     exact zac ((j + 1,a.2)) (by refine ⟨?_,?_,?_,?_,?_,?_,⟨by dsimp only;omega,hlp⟩⟩ <;> (first | (simp -dsimp only [gr,simprocAttr,h1a,h2a,r2a,r1000000a,h4a,h5a,h1a,h2a,r2a,r1000000a,h4a,h5a,zaa (show j < 6 by omega) (by omega)];first | done | rfl | (simp;done)) | assumption | rfl)) (by first | omega | (simp only;omega) | (dsimp only;omega) | (show _ < _;simp;omega))
   ·rw [show 6 - j = 0 by omega,lpF] at hlp
    rw [← hlp]
    exact ⟨rfl,by simp -dsimp only [gr,simprocAttr,h1a,h2a,r2a,r1000000a,h4a,h5a]⟩
theorem zJR {n:Int} {xs ys:List Int} (hx:zaL n xs = true) (hy:zaL n ys = true) (h:kyX xs = kyX ys):xs = ys:=by
 rw [zCh hx,zCh hy]
 refine congrArg ofN (ziF (fun s hs=>?_) true)
 rw [← za6 (zag xs) hs,← za6 (zag ys) hs]
 exact congrArg (fun k=>Nat.testBit k s) h
def zCC (m b:Nat) (g:Mf):Prop:=∀ ys,zaL (m:Int) ys = true→(g (kyX ys) = 1→zwp ys = true)∧(g (kyX ys) ≠ 0→g (kyX ys) ≠ 1→usX ys < b→zwp ys = false)
def OkM (m b:Nat) (g:Mf) (xs:List Int) (R:Bool × Mf):Prop:=R.1 = zwp xs∧zCC m b R.2∧∀ ys,zaL (m:Int) ys = true→usX xs < usX ys→R.2 (kyX ys) = g (kyX ys)
theorem zwn (f:Mf) (a y:Int):zrX f a y a = y:=if_pos rfl
theorem zwo (f:Mf) {a b:Int} (y:Int) (h:b ≠ a):zrX f a y b = f b:=if_neg h
theorem zDr {m:Nat} {xs ys:List Int} (hx:zaL (m:Int) xs = true) (hy:zaL (m:Int) ys = true) (h:ys ≠ xs):((kyX ys:Nat):Int) ≠ ((kyX xs:Nat):Int):=fun e=>h (zJR hy hx (by omega))
theorem zJS {m r:Nat} (ih:∀ xs g b,zaL (m:Int) xs = true→usX xs < r→usX xs < b→zCC m b g→OkM m b g xs (wkF r xs g)) {xs:List Int} (hx:zaL (m:Int) xs = true) (hu:usX xs < r + 1) {p:Nat} (hp:p < 6) {e:Mf} (hI:zCC m (usX xs) e) :
 (spF (wkF r) xs p e).1 = zCD xs p∧zCC m (usX xs) (spF (wkF r) xs p e).2∧∀ ys,zaL (m:Int) ys = true→usX xs ≤ usX ys→(spF (wkF r) xs p e).2 (kyX ys) = e (kyX ys):=by
 unfold spF zCD
 cases hs:zr9 xs p
 ·rw [if_neg (by decide)]
  exact ⟨rfl,hI,fun _ _ _=>rfl⟩
 ·rw [if_pos rfl]
  have hf:=zhJ hs
  have u1:=zBj hx hp hf
  have u2:=zBk hx hp hf
  obtain ⟨a1,a2,a3⟩:=ih (lkX xs p) e (usX xs) (zlM hx hp) (by omega) u1 hI
  generalize wkF r (lkX xs p) e = a at *
  rw [Bool.true_and,← a1]
  cases ha:a.1
  ·rw [if_neg (by decide)]
   exact ⟨rfl,a2,fun ys hy hl=>a3 ys hy (by omega)⟩
  ·rw [if_pos rfl]
   obtain ⟨b1,b2,b3⟩:=ih (dlX xs p) a.2 (usX xs) (ztv hx p) (by omega) u2 a2
   exact ⟨by rw [b1];rfl,b2,fun ys hy hl=>(b3 ys hy (by omega)).trans (a3 ys hy (by omega))⟩
theorem zK5 {m r b:Nat} (ih:∀ xs g b,zaL (m:Int) xs = true→usX xs < r→usX xs < b→zCC m b g→OkM m b g xs (wkF r xs g)) {xs:List Int} (hx:zaL (m:Int) xs = true) (hu:usX xs < r + 1) (h1:¬ xs.length ≤ 1) {g:Mf} (hg:zCC m b g) :
 ∀ (n p:Nat) (e:Mf),p + n = 6→zCC m (usX xs) e→(∀ q,q < p→zCD xs q = false)→e (kyX xs) = 2→(∀ ys,zaL (m:Int) ys = true→ys ≠ xs→usX xs ≤ usX ys→e (kyX ys) = g (kyX ys))→OkM m b g xs (lpF (spF (wkF r) xs) (kyX xs) n p e):=by
 have hde:=zBl hx
 rw [decide_eq_false h1,Bool.false_or] at hde
 have hmix:∀ (e:Mf) (v:Int),(∀ ys,zaL (m:Int) ys = true→ys ≠ xs→usX xs ≤ usX ys→e (kyX ys) = g (kyX ys))→zCC m (usX xs) e→e (kyX xs) = v→(v = 1→zwp xs = true)→(v ≠ 1→zwp xs = false)→zCC m b e:=fun e v hfr hI hv h1 h2 ys hy=>by
  by_cases hyx:ys = xs
  ·subst hyx
   rw [hv]
   exact ⟨h1,fun _ h _=>h2 h⟩
  ·by_cases hlt:usX ys < usX xs
   ·exact ⟨(hI ys hy).1,fun a b _=>(hI ys hy).2 a b hlt⟩
   ·rw [hfr ys hy hyx (by omega)];exact hg ys hy
 have hfar:∀ ys,usX xs < usX ys→ys ≠ xs:=fun ys h e=>by rw [e] at h;omega
 intro n
 induction n with
 | zero =>
   intro p e hp hI hall he hfr
   have hd:zwp xs = false:=by
    rw [hde,List.any_eq_false]
    intro q hq
    rw [hall q (by have:=List.mem_range.1 hq;omega)];decide
   exact ⟨hd.symm,hmix e 2 hfr hI he (fun h=>absurd h (by decide)) (fun _=>hd),fun ys hy hl=>hfr ys hy (hfar ys hl) (by omega)⟩
 | succ n ihn =>
   intro p e hp hI hall he hfr
   obtain ⟨a1,a2,a3⟩:=zJS ih hx hu (p:=p) (by omega) hI
   rw [lpF]
   generalize spF (wkF r) xs p e = a at *
   have hfr2:∀ ys,zaL (m:Int) ys = true→ys ≠ xs→usX xs ≤ usX ys→a.2 (kyX ys) = g (kyX ys):=fun ys hy hne hl=>(a3 ys hy hl).trans (hfr ys hy hne hl)
   cases ha:a.1
   ·rw [if_neg (by decide)]
    exact ihn (p + 1) a.2 (by omega) a2 (fun q hq=>by
     rcases Nat.lt_succ_iff_lt_or_eq.1 hq with hq | rfl
     ·exact hall q hq
     ·rw [← a1,ha]) ((a3 xs hx (Nat.le_refl _)).trans he) hfr2
   ·rw [if_pos rfl]
    have hd:zwp xs = true:=by
     rw [hde,List.any_eq_true]
     exact ⟨p,List.mem_range.2 (by omega),by rw [← a1,ha]⟩
    have hfr3:∀ ys,zaL (m:Int) ys = true→ys ≠ xs→usX xs ≤ usX ys→zrX a.2 (kyX xs) 1 (kyX ys) = g (kyX ys):=fun ys hy hne hl=>by
     rw [zwo _ _ (zDr hx hy hne)];exact hfr2 ys hy hne hl
    refine ⟨hd.symm,hmix _ 1 hfr3 (fun ys hy=>?_) (zwn _ _ _) (fun _=>hd) (fun h=>absurd rfl h),fun ys hy hl=>hfr3 ys hy (hfar ys hl) (by omega)⟩
    by_cases hyx:ys = xs
    ·subst hyx
     show (zrX a.2 _ 1 _ = 1→_)∧(zrX a.2 _ 1 _ ≠ 0→zrX a.2 _ 1 _ ≠ 1→_)
     rw [zwn]
     exact ⟨fun _=>hd,fun _ h=>absurd rfl h⟩
    ·show (zrX a.2 _ 1 _ = 1→_)∧(zrX a.2 _ 1 _ ≠ 0→zrX a.2 _ 1 _ ≠ 1→_)
     rw [zwo _ _ (zDr hx hy hyx)];exact a2 ys hy
theorem zK6 (m:Nat):∀ (r:Nat) (xs:List Int) (g:Mf) (b:Nat),zaL (m:Int) xs = true→usX xs < r→usX xs < b→zCC m b g→OkM m b g xs (wkF r xs g):=by
 intro r
 induction r with
 | zero=>intro xs g b _ h;omega
 | succ r ih =>
   intro xs g b hx hu hb hg
   rw [wkF]
   by_cases h1:xs.length ≤ 1
   ·rw [if_pos h1]
    exact ⟨by rw [zBl hx,decide_eq_true h1];rfl,hg,fun _ _ _=>rfl⟩
   rw [if_neg h1]
   by_cases h2:g (kyX xs) ≠ 0
   ·rw [if_pos h2]
    refine ⟨?_,hg,fun _ _ _=>rfl⟩
    obtain ⟨q1,q2⟩:=hg xs hx
    show (g (kyX xs) == 1) = _
    by_cases h3:g (kyX xs) = 1
    ·rw [q1 h3,h3];rfl
    ·rw [q2 h2 h3 hb];exact beq_eq_false_iff_ne.2 h3
   ·rw [if_neg h2]
    refine zK5 ih hx hu h1 hg 6 0 _ rfl (fun ys hy=>?_) (fun q h=>absurd h (Nat.not_lt_zero q)) (zwn _ _ _) (fun ys hy hne _=>zwo _ _ (zDr hx hy hne))
    by_cases hyx:ys = xs
    ·subst hyx
     rw [zwn]
     exact ⟨fun h=>absurd h (by decide),fun _ _ h=>absurd h (Nat.lt_irrefl _)⟩
    ·rw [zwo _ _ (zDr hx hy hyx)]
     exact ⟨(hg ys hy).1,fun a c h=>(hg ys hy).2 a c (by omega)⟩
theorem zJT {m:Nat} {xs:List Int} (h:zaL (m:Int) xs = true):(wkF 7 xs fun _=>0).1 = zwp xs:=by
 have:=zDt xs
 exact (zK6 m 7 xs (fun _=>0) 7 h (by omega) (by omega) fun ys _=>⟨fun h=>absurd (show (0:Int) = 1 from h) (by decide),fun h=>absurd rfl h⟩).1
theorem zBc (ver:Nat) (f:Mf) (K:Prop):zhn ⟨ver,.mp f⟩ ver (kk K) = K:=by simp [zhn,RK.slice,kk]
theorem zge:AG Tryz.prog 128 [] (fun _=>⟨0,.dead⟩) zBg:=by
 refine AG.go (rs:=[.cell 0 105]) zaD mixed Tryz.func128 rfl rfl rfl (by kernel_rfl) fun hl hrl z hz hr=>?_
 have yl:∀ j,z.rw j = ⟨0,.dead⟩:=hr
 clear hz hr
 simp -dsimp only [↓gp,gq,simprocAttr,gT,yl,zBc]
 exact ⟨1,1,rfl,by simp -dsimp only [gr,simprocAttr,yl]⟩
theorem zfI (n:Int) (xs:List Int):AC Tryz.prog 66 [.ag [int n,zax xs]] (.im (bool (zDv n xs))):=by
 refine AC.go (rs:=[.tmp 2]) zaD mixed Tryz.func66 rfl rfl rfl (by kernel_rfl) fun hl=>?_
 simp -dsimp only [↓gp,gq,simprocAttr,gT]
 refine ⟨by kernel_rfl,zab (zaq n xs) ?_⟩
 simp -dsimp only [↓gp,gq,simprocAttr,gT]
 unfold zDv
 refine ⟨fun h=>?_,fun h=>?_⟩
 ·obtain ⟨h1,h6,_⟩:=zaP.1 h
  obtain ⟨m,rfl⟩:∃ m:Nat,n = m:=⟨n.toNat,by omega⟩
  have hu:=zDt xs
  refine zBh 999 zge (by decide) ?_
  simp -dsimp only [↓gp,gq,simprocAttr,gT]
  refine zab (zaW m xs (zb4 h)) ?_
  simp -dsimp only [↓gp,gq,simprocAttr,gT]
  have hA:=zr8 m 7 xs (fun _=>0) h (by omega)
  refine zlK hA (plu _) (by simp -dsimp only [gr,simprocAttr]) (by decide) ?_
  rw [h,Bool.true_and,← zJT h]
  simp -dsimp only [↓gp,gq,simprocAttr,gT]
  kernel_rfl
 ·rw [h];rfl
def rcB (d:Int) (s:Nat) (x:Int):Bool:=(x.toNat &&& s == s) && decide ((zat x.toNat:Int) = d + 1)
def rcN (xs:List Int) (d:Int) (s j:Nat):Nat:=((xs.take j).filter (rcB d s)).length
theorem zpC (xs:List Int) (d:Int) (s:Nat):rcN xs d s 0 = 0:=by unfold rcN;rw [List.take_zero];rfl
theorem zwJ {xs:List Int} (d:Int) (s:Nat) {j:Nat} (h:j < xs.length):rcN xs d s (j + 1) = rcN xs d s j + if rcB d s (xs.getD j 0) = true then 1 else 0:=by
 unfold rcN
 rw [zau 0 h,List.filter_append,List.length_append]
 congr 1
 rw [List.filter_cons]
 split <;> rfl
theorem zFS (xs:List Int) (d:Int) (s j:Nat):rcN xs d s j ≤ xs.length:=by
 unfold rcN
 have h1:=List.length_filter_le (rcB d s) (xs.take j)
 have h2:=List.length_take_le j xs
 have h3:=List.length_take_le' j xs
 omega
noncomputable def rgL (n:Int) (xs:List Int):List Nat:=if zdi n xs < 0 then [] else zaQ (zbh n xs) (zdi n xs).toNat 64
noncomputable def rcL (n:Int) (xs:List Int):List Int:=(rgL n xs).map fun s=>(rcN xs (zdi n xs) s xs.length:Int)
def csL (xs:List Int) (d:Int) (L:List Nat) (i j:Nat):List Int:=(List.range L.length).map fun t=>(rcN xs d (L.getD t 0) (if t < i then xs.length else if t = i then j else 0):Int)
theorem zCk (xs:List Int) (d:Int) (L:List Nat) (i j:Nat):(csL xs d L i j).length = L.length:=by simp [csL]
theorem zKw {xs:List Int} {d:Int} {L:List Nat} {i:Nat} (j:Nat) (h:i < L.length):(csL xs d L i j).getD i 0 = (rcN xs d (L.getD i 0) j:Int):=by
 rw [zcp 0 (by rw [zCk];exact h)]
 simp [csL]
theorem zHp {xs:List Int} {d:Int} {L:List Nat} {i j:Nat} (h:i < L.length):(csL xs d L i j).set i (rcN xs d (L.getD i 0) (j + 1):Int) = csL xs d L i (j + 1):=by
 refine List.ext_getElem (by simp [csL]) fun t h1 h2=>?_
 rw [List.getElem_set]
 by_cases e:i = t
 ·subst e;rw [if_pos rfl];simp [csL]
 ·rw [if_neg e]
  simp only [csL,List.getElem_map,List.getElem_range]
  rw [if_neg (show ¬ t = i from fun h=>e h.symm)]
  rw [if_neg (show ¬ t = i from fun h=>e h.symm)]
theorem zwK {xs:List Int} {d:Int} {L:List Nat} {i j:Nat} (h:rcN xs d (L.getD i 0) (j + 1) = rcN xs d (L.getD i 0) j):csL xs d L i (j + 1) = csL xs d L i j:=by
 refine List.ext_getElem (by simp [csL]) fun t h1 h2=>?_
 simp only [csL,List.getElem_map,List.getElem_range]
 by_cases ht:t < i
 ·rw [if_pos ht,if_pos ht]
 ·rw [if_neg ht,if_neg ht]
  by_cases e:t = i
  ·rw [if_pos e,if_pos e,e,h]
  ·rw [if_neg e,if_neg e]
theorem zD7 (xs:List Int) (d:Int) (L:List Nat):List.replicate L.length (0:Int) = csL xs d L 0 0:=by
 refine List.ext_getElem (by simp [csL]) fun t h1 h2=>?_
 simp [csL,zpC]
theorem zD8 (xs:List Int) (d:Int) (L:List Nat) (i:Nat):csL xs d L i xs.length = csL xs d L (i + 1) 0:=by
 refine List.ext_getElem (by simp [csL]) fun t h1 h2=>?_
 simp only [csL,List.getElem_map,List.getElem_range]
 by_cases h:t < i
 ·rw [if_pos h,if_pos (by omega)]
 ·rw [if_neg h]
  by_cases e:t = i
  ·rw [if_pos e,if_pos (by omega)]
  ·rw [if_neg e,if_neg (by omega)]
   split <;> rfl
theorem zHq (xs:List Int) (d:Int) (L:List Nat):csL xs d L L.length 0 = L.map fun s=>(rcN xs d s xs.length:Int):=by
 refine List.ext_getElem (by simp [csL]) fun t h1 h2=>?_
 have ht:t < L.length:=by simpa [csL] using h1
 simp only [csL,List.getElem_map,List.getElem_range]
 rw [if_pos ht]
 simp [List.getD,ht]
theorem zkf {n:Int} {xs:List Int} (h:¬ zdi n xs < 0):zaL n xs = true∧∃ d:Nat,zdi n xs = d∧d ≤ 5:=by
 have hF:zjf n xs = true:=Classical.byContradiction fun hc=>h (by rw [show zdi n xs = -2 from if_neg hc];decide)
 have h1:=zlZ hF
 have h2:=zbj (zag xs)
 exact ⟨(zbz.1 hF).1,(zdi n xs).toNat,by omega,by omega⟩
theorem zmi (n:Int) (xs:List Int) (hx:xs.length ≤ 1048576):AC Tryz.prog 178 [.ag [int n,zax xs]] (.tup [.fr 3 1 (iL (ofN (rgL n xs))),.fr 3 1 (iL (rcL n xs))]):=by
 refine AC.go (rs:=[.tmp 2,.tmp 3]) zaD mixed Tryz.func178 rfl rfl rfl (by kernel_rfl) fun hl=>?_
 simp -dsimp only [↓gp,gq,simprocAttr,gT]
 refine zab (zdc n xs) ?_
 simp -dsimp only [↓gp,gq,simprocAttr,gT]
 refine ⟨fun hd=>?_,fun hd=>?_⟩
 ·have e:rgL n xs = []:=if_pos hd
  unfold rcL
  rw [e]
  exact ⟨rfl,rfl⟩
 ·obtain ⟨hcx,d,hdd,hd6⟩:=zkf hd
  have hok:=zb4 hcx
  have e:rgL n xs = zaQ (zbh n xs) d 64:=by unfold rgL;rw [if_neg hd,hdd,Int.toNat_natCast]
  have hLm:∀ s ∈ rgL n xs,s < 64:=fun s hs=>by rw [e] at hs;exact (zca.1 hs).1
  have hLl:(rgL n xs).length ≤ 64:=by rw [e];exact zbA _ _ (Nat.le_refl 64)
  unfold rcL
  rw [hdd]
  refine zab (zdW n xs d (by omega)) ?_
  rw [← e]
  generalize rgL n xs = L at *
  simp -dsimp only [↓gp,gq,simprocAttr,gT,zad]
  refine ⟨by omega,by omega,?_⟩
  have hz:List.replicate L.length (0:Int) = csL xs d L 0 0:=zD7 xs d L
  refine zah (fun (i:Nat) s=>s.sl 1 = .ref 1 1 0∧s.rw 1 = ⟨1,.box 27 [int n,zax xs]⟩∧s.sl 4 = int d∧s.sl 5 = .own 17 1∧s.rw 17 = ⟨1,.sli 3 1 false (iL (ofN L))⟩∧s.sl 6 = .own 20 1∧s.rw 20 = ⟨1,.sli 3 1 false (iL (csL xs d L i 0))⟩∧s.sl 21 = .own 17 1∧s.sl 22 = int L.length∧s.sl 23 = int i∧(i ≤ L.length)) (fun i=>L.length - i) (0) (by refine ⟨?_,?_,?_,?_,?_,?_,?_,?_,?_,?_,Nat.zero_le _⟩ <;> (first | (simp -dsimp only [gr,simprocAttr,hz];first | done | rfl | (simp;done)) | assumption | rfl)) ?_
  intro i sa ⟨h1a,r1a,h4a,h5a,r17a,h6a,r20a,h21a,h22a,h23a,hIa⟩
  simp -dsimp only [↓gp,gq,simprocAttr,gT,h1a,r1a,h4a,h5a,r17a,h6a,r20a,h21a,h22a,h23a,zad]
  refine ⟨fun hi=>⟨by omega,by omega,?_⟩,fun hi=>?_⟩
  ·have hge:(ofN L).getD i 0 = ((L.getD i 0:Nat):Int):=zaG hi
   have hs:=hLm _ (zaj 0 hi)
   rw [hge]
   refine zah (fun (j:Nat) s=>s.sl 1 = .ref 1 1 0∧s.rw 1 = ⟨1,.box 27 [int n,zax xs]⟩∧s.sl 4 = int d∧s.sl 5 = .own 17 1∧s.rw 17 = ⟨1,.sli 3 1 false (iL (ofN L))⟩∧s.sl 6 = .own 20 1∧s.rw 20 = ⟨1,.sli 3 1 false (iL (csL xs d L i j))⟩∧s.sl 7 = int i∧s.sl 8 = int (L.getD i 0)∧s.sl 21 = .own 17 1∧s.sl 22 = int L.length∧s.sl 23 = int i∧s.sl 29 = zax xs∧s.sl 30 = int xs.length∧s.sl 31 = int j∧(j ≤ xs.length)) (fun j=>xs.length - j) (0) (by refine ⟨?_,?_,?_,?_,?_,?_,?_,?_,?_,?_,?_,?_,?_,?_,?_,Nat.zero_le _⟩ <;> (first | (simp -dsimp only [gr,simprocAttr,h1a,r1a,h4a,h5a,r17a,h6a,r20a,h21a,h22a,h23a];first | done | rfl | (simp;done)) | assumption | rfl)) ?_
   intro j sb ⟨h1b,r1b,h4b,h5b,r17b,h6b,r20b,h7b,h8b,h21b,h22b,h23b,h29b,h30b,h31b,hIb⟩
   simp -dsimp only [↓gp,gq,simprocAttr,gT,h1b,r1b,h4b,h5b,r17b,h6b,r20b,h7b,h8b,h21b,h22b,h23b,h29b,h30b,h31b]
   refine ⟨fun hj=>⟨by omega,by omega,zab (zaA _) ?_⟩,fun hj=>?_⟩
   ·have hxj:=hok _ (zaj 0 hj)
    have hsz:=zc1 hxj
    have hw:IntKind.i64.wrap ((d:Int) + 1) = ((d + 1:Nat):Int):=zaa (show d < 6 by omega) (by omega)
    have hsu:=zwJ (d:Int) (L.getD i 0) hj
    have hle:=zFS xs d (L.getD i 0) j
    have hat:=zKw (xs:=xs) (d:=d) j hi
    have hlen:=zCk xs d L i j
    have hset:=zHp (xs:=xs) (d:=(d:Int)) (j:=j) hi
    have hxn:xs.getD j 0 = (((xs.getD j 0).toNat:Nat):Int):=by omega
    have hand:(zco .i64 ((L.getD i 0:Nat):Int) (xs.getD j 0) == 0) = ((xs.getD j 0).toNat &&& L.getD i 0 == L.getD i 0):=by
     rw [hxn,zbi (by omega) (by omega),Int.toNat_natCast]
     refine Bool.eq_iff_iff.2 ?_
     rw [beq_iff_eq,beq_iff_eq,Nat.and_comm (xs.getD j 0).toNat,← zb2]
     omega
    simp -dsimp only [↓gp,gq,simprocAttr,gT,h1b,r1b,h4b,h5b,r17b,h6b,r20b,h7b,h8b,h21b,h22b,h23b,h29b,h30b,h31b,hsz,hw,hand]
    have hrb:rcB (d:Int) (L.getD i 0) (xs.getD j 0) = (((xs.getD j 0).toNat &&& L.getD i 0 == L.getD i 0) && decide ((zat (xs.getD j 0).toNat:Int) = (d:Int) + 1)):=rfl
    refine ⟨fun h1=>⟨fun h2=>⟨by omega,by omega,by omega,by omega,?_⟩,fun h2=>?_⟩,fun h1=>?_⟩
    ·rw [if_pos (by rw [hrb,h2,Bool.true_and,decide_eq_true_iff];have:=beq_iff_eq.1 h1;omega)] at hsu
     have hw2:IntKind.i64.wrap ((rcN xs (d:Int) (L.getD i 0) j:Int) + 1) = (rcN xs (d:Int) (L.getD i 0) (j + 1):Int):=by rw [hsu,zai (by omega) (by omega)];omega
     exact zac (j + 1) (by refine ⟨?_,?_,?_,?_,?_,?_,?_,?_,?_,?_,?_,?_,?_,?_,?_,by omega⟩ <;> (first | (simp -dsimp only [gr,simprocAttr,h1b,r1b,h4b,h5b,r17b,h6b,r20b,h7b,h8b,h21b,h22b,h23b,h29b,h30b,h31b,hat,hw2,hset,zaa hj (by omega)];first | done | rfl | (simp;done)) | assumption | rfl)) (by first | omega | (simp only;omega) | (dsimp only;omega) | (show _ < _;simp;omega))
    ·rw [if_neg (by rw [hrb,h2];simp),Nat.add_zero] at hsu
     exact zac (j + 1) (by refine ⟨?_,?_,?_,?_,?_,?_,?_,?_,?_,?_,?_,?_,?_,?_,?_,by omega⟩ <;> (first | (simp -dsimp only [gr,simprocAttr,h1b,r1b,h4b,h5b,r17b,h6b,r20b,h7b,h8b,h21b,h22b,h23b,h29b,h30b,h31b,zwK hsu,zaa hj (by omega)];first | done | rfl | (simp;done)) | assumption | rfl)) (by first | omega | (simp only;omega) | (dsimp only;omega) | (show _ < _;simp;omega))
    ·rw [if_neg (by rw [hrb,Bool.and_eq_true,decide_eq_true_iff];rintro ⟨_,h⟩;have:=beq_eq_false_iff_ne.1 h1;omega),Nat.add_zero] at hsu
     exact zac (j + 1) (by refine ⟨?_,?_,?_,?_,?_,?_,?_,?_,?_,?_,?_,?_,?_,?_,?_,by omega⟩ <;> (first | (simp -dsimp only [gr,simprocAttr,h1b,r1b,h4b,h5b,r17b,h6b,r20b,h7b,h8b,h21b,h22b,h23b,h29b,h30b,h31b,zwK hsu,zaa hj (by omega)];first | done | rfl | (simp;done)) | assumption | rfl)) (by first | omega | (simp only;omega) | (dsimp only;omega) | (show _ < _;simp;omega))
   ·have:j = xs.length:=by omega
    rw [this,zD8] at r20b
    exact zac (i + 1) (by refine ⟨?_,?_,?_,?_,?_,?_,?_,?_,?_,?_,by omega⟩ <;> (first | (simp -dsimp only [gr,simprocAttr,h1a,r1a,h4a,h5a,r17a,h6a,r20a,h21a,h22a,h23a,h1b,r1b,h4b,h5b,r17b,h6b,r20b,h7b,h8b,h21b,h22b,h23b,h29b,h30b,h31b,zaa hi (by omega)];first | done | rfl | (simp;done)) | assumption | rfl)) (by first | omega | (simp only;omega) | (dsimp only;omega) | (show _ < _;simp;omega))
  ·have:i = L.length:=by omega
   rw [this,zHq]
theorem zCl {n:Int} {xs:List Int}:(rcL n xs).length ≤ 64:=by
 unfold rcL rgL
 rw [List.length_map]
 split
 ·simp
 ·exact zbA _ _ (Nat.le_refl 64)
theorem zCm {s:St} (d e sz e2 sz2:Nat) (c c2:List PV):zao s d (.tup [.fr e sz c,.fr e2 sz2 c2]) =
 ((s.row (d + 1000) ⟨(s.rw (d + 1000)).ver + 1,.sli e2 sz2 false c2⟩).row d ⟨(s.rw d).ver + 1,.sli e sz false c⟩).put (some d) (.tup [.own d ((s.rw d).ver + 1),.own (d + 1000) ((s.rw (d + 1000)).ver + 1)]):=by
 unfold zao
 simp [zcG,zbS,zak,zaw,za0,zcv,zbF,zbV,zan,St.row,zhA]
 rfl
theorem zHr (n:Int) (xs:List Int):decide (0 < (rcL n xs).length) = decide (0 ≤ zdi n xs):=by
 have hl:(rcL n xs).length = (rgL n xs).length:=by unfold rcL;rw [List.length_map]
 rw [hl]
 by_cases hd:zdi n xs < 0
 ·rw [decide_eq_false (show ¬ 0 ≤ zdi n xs by omega),show rgL n xs = [] from if_pos hd];rfl
 ·rw [decide_eq_true (show 0 ≤ zdi n xs by omega),decide_eq_true_iff]
  obtain ⟨hcx,d,hdd,hd6⟩:=zkf hd
  have hF:zjf n xs = true:=Classical.byContradiction fun hc=>hd (by rw [show zdi n xs = -2 from if_neg hc];decide)
  obtain ⟨m,rfl,h1,h6,hdn,h0,hs⟩:=zke hF
  have hde:=zlZ hF
  have hdm:za8 (zag xs) = zjg (zag xs) 64:=rfl
  obtain ⟨T,a,b,c⟩:=zlV (f:=zag xs) 64 (by omega)
  have hT:T ≠ 0:=fun e=>by
   subst e
   have:zat 0 = 0:=by decide +kernel
   omega
  obtain ⟨v,hv⟩:∃ v,T.testBit v = true:=Classical.byContradiction fun hc=>hT (Nat.eq_of_testBit_eq fun i=>by
   rw [Nat.zero_testBit]
   cases h:T.testBit i with
   | false=>rfl
   | true=>exact absurd ⟨i,h⟩ hc)
  have hv6:v < 6:=Classical.byContradiction fun hc=>by
   have h1:=Nat.ge_two_pow_of_testBit hv
   have:(2:Nat) ^ 6 ≤ 2 ^ v:=Nat.pow_le_pow_right (by omega) (by omega)
   omega
  obtain ⟨x1,x2⟩:=zl8 hv
  have hx64:=zBT a hv6
  have hp:=zst _ hx64 v hv6 x1
  rw [x2] at hp
  have hsub:T &&& (T ^^^ 2 ^ v) = T ^^^ 2 ^ v:=by
   have:=zeT (a:=T ^^^ 2 ^ v) (v:=v)
   rwa [x2] at this
  refine List.length_pos_of_mem (a:=T ^^^ 2 ^ v) ?_
  unfold rgL
  rw [if_neg hd,hdd,Int.toNat_natCast,zca]
  refine ⟨hx64,?_,by omega⟩
  unfold zbh
  rw [hcx,Bool.true_and]
  exact hdn _ _ b hsub
theorem zh4 (n:Int) (xs:List Int) (hx:xs.length ≤ 1048576):AC Tryz.prog 132 [.ag [int n,zax xs]] (.fr 3 1 (iL (rcL n xs))):=by
 refine AC.go (rs:=[.tmp 2]) zaD mixed Tryz.func132 rfl rfl rfl (by kernel_rfl) fun hl=>?_
 simp -dsimp only [↓gp,gq,simprocAttr,gT]
 refine zab (zmi n xs hx) ?_
 simp -dsimp only [↓gp,gq,simprocAttr,gT,zCm]
noncomputable def zmj (n:Int) (xs:List Int):Bool:=puB n xs && (decide (0 ≤ zdi n xs) && (rcL n xs).all fun x=>decide (x = 2))
theorem zdL (n:Int) (xs:List Int) (hx:xs.length ≤ 1048576):AC Tryz.prog 69 [.ag [int n,zax xs]] (.im (bool (zmj n xs))):=by
 refine AC.go (rs:=[.tmp 2]) zaD mixed Tryz.func69 rfl rfl rfl (by kernel_rfl) fun hl=>?_
 simp -dsimp only [↓gp,gq,simprocAttr,gT]
 refine zab (zeS n xs) ?_
 simp -dsimp only [↓gp,gq,simprocAttr,gT]
 unfold zmj
 refine ⟨fun hp=>zab (zdc n xs) ?_,fun hp=>?_⟩
 ·have hp:puB n xs = true:=by simpa using hp
  rw [hp,Bool.true_and]
  by_cases hd0:zdi n xs < 0
  ·rw [decide_eq_false (show ¬ 0 ≤ zdi n xs by omega),Bool.false_and]
   simp -dsimp only [↓gp,gq,simprocAttr,gT]
   exact fun h=>absurd hd0 h
  ·rw [decide_eq_true (show 0 ≤ zdi n xs by omega),Bool.true_and]
   simp -dsimp only [↓gp,gq,simprocAttr,gT]
   refine ⟨fun hd=>absurd hd hd0,fun hd=>zab (zh4 n xs hx) ?_⟩
   have hlen:=zCl (n:=n) (xs:=xs)
   generalize rcL n xs = R at *
   simp -dsimp only [↓gp,gq,simprocAttr,gT]
   refine zah (fun (k:Nat) s=>s.sl 14 = .own 14 1∧s.rw 14 = ⟨1,.sli 3 1 false (iL R)⟩∧s.sl 15 = int R.length∧s.sl 16 = int k∧(k ≤ R.length∧(∀ i,i < k→R.getD i 0 = 2))) (fun k=>R.length - k) (0) (by refine ⟨?_,?_,?_,?_,by simp⟩ <;> (first | (simp -dsimp only [gr,simprocAttr];first | done | rfl | (simp;done)) | assumption | rfl)) ?_
   intro k sa ⟨h14a,r14a,h15a,h16a,hIa⟩
   obtain ⟨hk,hall⟩:=hIa
   simp -dsimp only [↓gp,gq,simprocAttr,gT,h14a,r14a,h15a,h16a]
   refine ⟨fun h=>⟨h,h,fun h2=>?_,fun h2=>?_⟩,fun h=>?_⟩
   ·exact zEf h (p:=fun x=>decide (x = 2)) (decide_eq_false (bne_iff_ne.1 h2))
   ·exact zac (k + 1) (by refine ⟨?_,?_,?_,?_,⟨by omega,fun i hi=>by
     by_cases e:i = k
     ·rw [e];simpa using h2
     ·exact hall i (by omega)⟩⟩ <;> (first | (simp -dsimp only [gr,simprocAttr,h14a,r14a,h15a,h16a,zaa h (by omega)];first | done | rfl | (simp;done)) | assumption | rfl)) (by first | omega | (simp only;omega) | (dsimp only;omega) | (show _ < _;simp;omega))
   ·exact zya (l:=R) (p:=fun x=>decide (x = 2)) fun i hi=>decide_eq_true (hall i (by omega))
 ·rw [show puB n xs = false by simpa using hp];rfl
theorem zjF (n:Int) (xs:List Int) (hd:¬ zdi n xs < 0):AC Tryz.prog 181 [.ag [int n,zax xs]] (.fr 3 1 (iL (ofN (rgL n xs)))):=by
 refine AC.go (rs:=[.tmp 2]) zaD mixed Tryz.func181 rfl rfl rfl (by kernel_rfl) fun hl=>?_
 simp -dsimp only [↓gp,gq,simprocAttr,gT]
 refine ⟨by kernel_rfl,zab (zbH n xs) ?_⟩
 obtain ⟨_,d,hdd,_⟩:=zkf hd
 have e:rgL n xs = zaQ (zbh n xs) d 64:=by unfold rgL;rw [if_neg hd,hdd,Int.toNat_natCast]
 rw [e,hdd]
 simp -dsimp only [↓gp,gq,simprocAttr,gT]
 refine zab (zcr n xs d) ?_
 simp -dsimp only [↓gp,gq,simprocAttr,gT]
theorem zh5 (n:Int) (xs:List Int) (hx:xs.length ≤ 1048576):AC Tryz.prog 136 [.ag [int n,zax xs]] (.fr 3 1 (iL (rcL n xs))):=by
 refine AC.go (rs:=[.tmp 2]) zaD mixed Tryz.func136 rfl rfl rfl (by kernel_rfl) fun hl=>?_
 simp -dsimp only [↓gp,gq,simprocAttr,gT]
 refine zab (zbH n xs) ?_
 simp -dsimp only [↓gp,gq,simprocAttr,gT]
 refine ⟨fun hd=>?_,fun hd=>zab (zjF n xs hd) ?_⟩
 ·have e:rgL n xs = []:=if_pos hd
  unfold rcL
  rw [e];rfl
 ·obtain ⟨hcx,d,hdd,hd6⟩:=zkf hd
  have hok:=zb4 hcx
  have e:rgL n xs = zaQ (zbh n xs) d 64:=by unfold rgL;rw [if_neg hd,hdd,Int.toNat_natCast]
  have hLm:∀ s ∈ rgL n xs,s < 64:=fun s hs=>by rw [e] at hs;exact (zca.1 hs).1
  have hLl:(rgL n xs).length ≤ 64:=by rw [e];exact zbA _ _ (Nat.le_refl 64)
  have hdim:=zbH n xs
  unfold rcL
  rw [hdd] at hdim ⊢
  generalize rgL n xs = L at *
  simp -dsimp only [↓gp,gq,simprocAttr,gT,zad]
  have hz:((L.take 0).map fun s=>(rcN xs (d:Int) s xs.length:Int)) = []:=rfl
  have hzi:iL ([]:List Int) = []:=rfl
  refine zah (fun (za:Nat × Nat) s=>match za with | (i,v)=>s.sl 1 = .ref 1 1 0∧s.rw 1 = ⟨1,.box 27 [int n,zax xs]⟩∧s.sl 3 = .own 8 v∧s.rw 8 = ⟨v,.sli 3 1 false (iL ((L.take i).map fun s=>(rcN xs (d:Int) s xs.length:Int)))⟩∧s.sl 4 = .own 14 1∧s.rw 14 = ⟨1,.sli 3 1 false (iL (ofN L))⟩∧s.sl 5 = int i∧(i ≤ L.length)) (fun (i,v)=>L.length - i) ((0,1)) (by refine ⟨?_,?_,?_,?_,?_,?_,?_,Nat.zero_le _⟩ <;> (first | (simp -dsimp only [gr,simprocAttr,hz,hzi];first | done | rfl | (simp;done)) | assumption | rfl)) ?_
  intro (i,v) sa ⟨h1a,r1a,h3a,r8a,h4a,r14a,h5a,hIa⟩
  simp -dsimp only [↓gp,gq,simprocAttr,gT,h1a,r1a,h3a,r8a,h4a,r14a,h5a,zad]
  refine ⟨fun hi=>?_,fun hi=>?_⟩
  ·have hge:(ofN L).getD i 0 = ((L.getD i 0:Nat):Int):=zaG hi
   have hs:=hLm _ (zaj 0 hi)
   have hz2:((0:Nat):Int) = (rcN xs (d:Int) (L.getD i 0) 0:Int):=by rw [zpC]
   refine zah (fun (j:Nat) s=>s.sl 1 = .ref 1 1 0∧s.rw 1 = ⟨1,.box 27 [int n,zax xs]⟩∧s.sl 3 = .own 8 v∧s.rw 8 = ⟨v,.sli 3 1 false (iL ((L.take i).map fun s=>(rcN xs (d:Int) s xs.length:Int)))⟩∧s.sl 4 = .own 14 1∧s.rw 14 = ⟨1,.sli 3 1 false (iL (ofN L))⟩∧s.sl 5 = int i∧s.sl 6 = int (rcN xs (d:Int) (L.getD i 0) j)∧s.sl 7 = int j∧(j ≤ xs.length)) (fun j=>xs.length - j) (0) (by refine ⟨?_,?_,?_,?_,?_,?_,?_,?_,?_,Nat.zero_le _⟩ <;> (first | (simp -dsimp only [gr,simprocAttr,h1a,r1a,h3a,r8a,h4a,r14a,h5a,zpC];first | done | rfl | (simp;done)) | assumption | rfl)) ?_
   intro j sb ⟨h1b,r1b,h3b,r8b,h4b,r14b,h5b,h6b,h7b,hIb⟩
   simp -dsimp only [↓gp,gq,simprocAttr,gT,h1b,r1b,h3b,r8b,h4b,r14b,h5b,h6b,h7b]
   refine ⟨fun hj=>?_,fun hj=>?_⟩
   ·have hxj:=hok _ (zaj 0 hj)
    have hw:IntKind.i64.wrap ((d:Int) + 1) = ((d + 1:Nat):Int):=zaa (show d < 6 by omega) (by omega)
    have hsu:=zwJ (d:Int) (L.getD i 0) hj
    have hle:=zFS xs d (L.getD i 0) j
    obtain ⟨t,ht,ht6⟩:∃ t:Nat,xs.getD j 0 = t∧t < 64:=⟨(xs.getD j 0).toNat,by omega,by omega⟩
    have hand:(zfE .i64 (t:Int) ((L.getD i 0:Nat):Int) == ((L.getD i 0:Nat):Int)) = (t &&& L.getD i 0 == L.getD i 0):=by
     rw [zbc (by omega) (by omega)]
     refine Bool.eq_iff_iff.2 ?_
     rw [beq_iff_eq,beq_iff_eq]
     omega
    have hrb:rcB (d:Int) (L.getD i 0) (xs.getD j 0) = ((t &&& L.getD i 0 == L.getD i 0) && decide ((zat t:Int) = (d:Int) + 1)):=by rw [ht];unfold rcB;rw [Int.toNat_natCast]
    rw [hrb] at hsu
    simp -dsimp only [↓gp,gq,simprocAttr,gT,h1b,r1b,h3b,r8b,h4b,r14b,h5b,h6b,h7b,zad,hge,hand,ht]
    refine ⟨by kernel_rfl,hj,hj,hi,hi,hi,hi,fun h1=>⟨hj,hj,zab (zaM t (by omega)) ?_⟩,fun h1=>?_⟩
    ·rw [h1,Bool.true_and] at hsu
     simp -dsimp only [↓gp,gq,simprocAttr,gT,h1b,r1b,h3b,r8b,h4b,r14b,h5b,h6b,h7b,hw]
     refine zab hdim ?_
     simp -dsimp only [↓gp,gq,simprocAttr,gT,h1b,r1b,h3b,r8b,h4b,r14b,h5b,h6b,h7b,hw]
     refine zab (zji _) ?_
     have hb:IntKind.i64.wrap ((rcN xs (d:Int) (L.getD i 0) j:Int) + (if ((zat t:Int) == ((d + 1:Nat):Int)) = true then 1 else 0)) = (rcN xs (d:Int) (L.getD i 0) (j + 1):Int):=by
      rw [hsu]
      by_cases h2:(zat t:Int) = (d:Int) + 1
      ·rw [if_pos (beq_iff_eq.2 (by omega)),if_pos (decide_eq_true h2),zai (by omega) (by omega)];omega
      ·rw [if_neg (fun h=>h2 (by have:=beq_iff_eq.1 h;omega)),if_neg (fun h=>h2 (of_decide_eq_true h)),zai (by omega) (by omega)];omega
     simp -dsimp only [↓gp,gq,simprocAttr,gT,h1b,r1b,h3b,r8b,h4b,r14b,h5b,h6b,h7b,hb]
     exact zac (j + 1) (by refine ⟨?_,?_,?_,?_,?_,?_,?_,?_,?_,by omega⟩ <;> (first | (simp -dsimp only [gr,simprocAttr,h1b,r1b,h3b,r8b,h4b,r14b,h5b,h6b,h7b,hb,zaa hj (by omega)];first | done | rfl | (simp;done)) | assumption | rfl)) (by first | omega | (simp only;omega) | (dsimp only;omega) | (show _ < _;simp;omega))
    ·rw [h1,Bool.false_and,if_neg (by decide),Nat.add_zero] at hsu
     refine zab (zji _) ?_
     have hb:IntKind.i64.wrap ((rcN xs (d:Int) (L.getD i 0) j:Int) + 0) = (rcN xs (d:Int) (L.getD i 0) (j + 1):Int):=by rw [hsu,zai (by omega) (by omega)];omega
     simp -dsimp only [↓gp,gq,simprocAttr,gT,h1b,r1b,h3b,r8b,h4b,r14b,h5b,h6b,h7b,hb]
     exact zac (j + 1) (by refine ⟨?_,?_,?_,?_,?_,?_,?_,?_,?_,by omega⟩ <;> (first | (simp -dsimp only [gr,simprocAttr,h1b,r1b,h3b,r8b,h4b,r14b,h5b,h6b,h7b,hb,zaa hj (by omega)];first | done | rfl | (simp;done)) | assumption | rfl)) (by first | omega | (simp only;omega) | (dsimp only;omega) | (show _ < _;simp;omega))
   ·have:j = xs.length:=by omega
    have hsn:(L.take (i + 1)).map (fun s=>(rcN xs (d:Int) s xs.length:Int)) = (L.take i).map (fun s=>(rcN xs (d:Int) s xs.length:Int)) ++ [(rcN xs (d:Int) (L.getD i 0) j:Int)]:=by rw [this,zau 0 hi,List.map_append];rfl
    refine ⟨by rw [List.length_map,List.length_take];omega,?_⟩
    exact zac ((i + 1,v + 1)) (by refine ⟨?_,?_,?_,?_,?_,?_,?_,by dsimp only;omega⟩ <;> (first | (simp -dsimp only [gr,simprocAttr,h1a,r1a,h3a,r8a,h4a,r14a,h5a,h1b,r1b,h3b,r8b,h4b,r14b,h5b,h6b,h7b,hsn,zaa hi (by omega)];first | done | rfl | (simp;done)) | assumption | rfl)) (by first | omega | (simp only;omega) | (dsimp only;omega) | (show _ < _;simp;omega))
  ·have:i = L.length:=by omega
   rw [this,List.take_length]
theorem zdM (n:Int) (xs:List Int) (hx:xs.length ≤ 1048576):AC Tryz.prog 77 [.ag [int n,zax xs]] (.im (bool (zmj n xs))):=by
 refine AC.go (rs:=[.tmp 2]) zaD mixed Tryz.func77 rfl rfl rfl (by kernel_rfl) fun hl=>?_
 simp -dsimp only [↓gp,gq,simprocAttr,gT]
 refine zab (zh5 n xs hx) ?_
 have hne:=zHr n xs
 have hlen:=zCl (n:=n) (xs:=xs)
 unfold zmj
 generalize rcL n xs = R at *
 simp -dsimp only [↓gp,gq,simprocAttr,gT]
 refine zah (fun (k:Nat) s=>s.sl 1 = .ref 1 1 0∧s.rw 1 = ⟨1,.box 27 [int n,zax xs]⟩∧s.sl 3 = .own 6 1∧s.rw 6 = ⟨1,.sli 3 1 false (iL R)⟩∧s.sl 4 = int k∧(k ≤ R.length∧(∀ i,i < k→R.getD i 0 = 2))) (fun k=>R.length - k) (0) (by refine ⟨?_,?_,?_,?_,?_,by simp⟩ <;> (first | (simp -dsimp only [gr,simprocAttr];first | done | rfl | (simp;done)) | assumption | rfl)) ?_
 intro k sa ⟨h1a,r1a,h3a,r6a,h4a,hIa⟩
 obtain ⟨hk,hall⟩:=hIa
 simp -dsimp only [↓gp,gq,simprocAttr,gT,h1a,r1a,h3a,r6a,h4a]
 refine ⟨fun h=>⟨h,h,fun h2=>?_,fun h2=>?_⟩,fun h=>?_⟩
 ·rw [zEf h (p:=fun x=>decide (x = 2)) (decide_eq_false (bne_iff_ne.1 h2)),Bool.and_false,Bool.and_false]
 ·exact zac (k + 1) (by refine ⟨?_,?_,?_,?_,?_,⟨by omega,fun i hi=>by
   by_cases e:i = k
   ·rw [e];simpa using h2
   ·exact hall i (by omega)⟩⟩ <;> (first | (simp -dsimp only [gr,simprocAttr,h1a,r1a,h3a,r6a,h4a,zaa h (by omega)];first | done | rfl | (simp;done)) | assumption | rfl)) (by first | omega | (simp only;omega) | (dsimp only;omega) | (show _ < _;simp;omega))
 ·rw [zya (l:=R) (p:=fun x=>decide (x = 2)) fun i hi=>decide_eq_true (hall i (by omega)),Bool.and_true,← hne]
  refine zab (zeR n xs) ?_
  simp -dsimp only [↓gp,gq,simprocAttr,gT,h1a,r1a,h3a,r6a,h4a]
  refine ⟨fun h=>?_,fun h=>?_⟩
  ·rw [h,Bool.true_and]
   exact decide_eq_decide.2 (by omega)
  ·rw [h];rfl
theorem zCq:∀ (l:List UInt8) (a:ByteArray),((l.map fun x=>(x.toNat:Int)).foldl (fun r n=>r.push (UInt8.ofNat n.toNat)) a) = ⟨(a.data.toList ++ l).toArray⟩:=by
 intro l
 induction l with
 | nil=>intro a;simp
 | cons x l ih =>
   intro a
   rw [List.map_cons,List.foldl_cons,ih]
   have:UInt8.ofNat ((x.toNat:Int)).toNat = x:=by simp
   rw [this]
   congr 1
   simp [ByteArray.push]
theorem ziM (ver e:Nat) (fz:Bool) (b:ByteArray) {Kp:PV→Prop}:zwQ ⟨ver,.sli e 1 fz (zfg b)⟩ ver Kp = Kp (.v (.string b)):=by
 unfold zwQ
 simp only [true_and]
 have hb:zfg b = (b.data.toList.map fun x=>(x.toNat:Int)).map (fun n=>PV.v (.int .u8 n)):=by simp [zfg]
 have hf:=zCq b.data.toList ByteArray.empty
 have hf:((b.data.toList.map fun x=>(x.toNat:Int)).foldl (fun r n=>r.push (UInt8.ofNat n.toNat)) ByteArray.empty) = b:=by
  rw [hf];show (⟨(([]:List UInt8) ++ b.data.toList).toArray⟩:ByteArray) = b;simp
 refine propext ⟨fun ⟨bs,h1,h2⟩=>?_,fun h=>⟨_,hb,by rw [hf];exact h⟩⟩
 rw [hb] at h1
 have:b.data.toList.map (fun x=>(x.toNat:Int)) = bs:=(List.map_inj_right (fun x y h=>by simpa using h)).1 h1
 rw [← this,hf] at h2
 exact h2
theorem zgS (a b:ByteArray):zfg a ++ zfg b = zfg (a ++ b):=by
 unfold zfg
 rw [← List.map_append,ByteArray.data_append,Array.toList_append]
theorem zwO:zfg ⟨#[]⟩ = []:=rfl
def zci (l:List ByteArray) (sep:ByteArray):Nat→ByteArray | 0=>⟨#[]⟩ | i + 1=>(if i = 0 then zci l sep i else zci l sep i ++ sep) ++ l.getD i ⟨#[]⟩
theorem zgT (l:List ByteArray) (sep:ByteArray) (hN:l.length ≤ 1000000000000) (hb:∀ i,i ≤ l.length→(zci l sep i).size + sep.size ≤ 70000000000000):AC Tryz.prog 51 [.sl false 1 (sL l),str sep] (.im (str (zci l sep l.length))):=by
 refine AC.go (rs:=[.tmp 4]) zaD mixed Tryz.func51 rfl rfl rfl (by kernel_rfl) fun hl=>?_
 simp only [zaN,za4,and_true,zbZ,zdx,zcE,zbI,zcD,true_and] at hl
 simp -dsimp only [↓gp,gq,simprocAttr,gT]
 refine zah (fun (za:Nat × Nat) s=>match za with | (i,v)=>s.sl 0 = .sl false 1 (sL l)∧s.sl 1 = str sep∧s.sl 5 = .own 7 v∧s.rw 7 = ⟨v,.sli 5 1 false (zfg (zci l sep i))⟩∧s.sl 6 = int i∧(i ≤ l.length)) (fun (i,v)=>l.length - i) ((0,1)) (by refine ⟨?_,?_,?_,?_,?_,by omega⟩ <;> (first | (simp -dsimp only [gr,simprocAttr,zci,zwO];first | done | rfl | (simp;done)) | assumption | rfl)) ?_
 intro (i,v) sa ⟨h0a,h1a,h5a,r7a,h6a,hIa⟩
 have hsl:(sL l).length = l.length:=by simp [sL]
 have hbi:=hb i hIa
 simp -dsimp only [↓gp,gq,simprocAttr,gT,h0a,h1a,h5a,r7a,h6a,hsl,zjG,ziM]
 refine ⟨fun h=>?_,fun h=>?_⟩
 ·have hb1:=hb (i + 1) h
  have hw:=zaa h (show l.length ≤ 9223372036854775807 by omega)
  have hse:=zeF sep
  have hsj:=zeF (zci l sep i)
  refine ⟨fun h0=>?_,fun h0=>?_⟩
  ·have e:zci l sep (i + 1) = (zci l sep i ++ sep) ++ l.getD i ⟨#[]⟩:=by rw [zci,if_neg (by omega)]
   rw [e,ByteArray.size_append,ByteArray.size_append] at hb1
   have e2:zfg (zci l sep i) ++ zfg sep ++ zfg (l.getD i ⟨#[]⟩) = zfg (zci l sep (i + 1)):=by rw [zgS,zgS,e]
   exact ⟨by omega,h,h,by rw [List.length_append];omega,zac ((i + 1,v + 1 + 1)) (by refine ⟨?_,?_,?_,?_,?_,by dsimp only;omega⟩ <;> (first | (simp -dsimp only [gr,simprocAttr,h0a,h1a,h5a,r7a,h6a,hw,e2];first | done | rfl | (simp;done)) | assumption | rfl)) (by first | omega | (simp only;omega) | (dsimp only;omega) | (show _ < _;simp;omega))⟩
  ·have e:zci l sep (i + 1) = zci l sep i ++ l.getD i ⟨#[]⟩:=by rw [zci,if_pos (by omega)]
   rw [e,ByteArray.size_append] at hb1
   have e2:zfg (zci l sep i) ++ zfg (l.getD i ⟨#[]⟩) = zfg (zci l sep (i + 1)):=by rw [zgS,e]
   exact ⟨h,h,by omega,zac ((i + 1,v + 1)) (by refine ⟨?_,?_,?_,?_,?_,by dsimp only;omega⟩ <;> (first | (simp -dsimp only [gr,simprocAttr,h0a,h1a,h5a,r7a,h6a,hw,e2];first | done | rfl | (simp;done)) | assumption | rfl)) (by first | omega | (simp only;omega) | (dsimp only;omega) | (show _ < _;simp;omega))⟩
 ·have:i = l.length:=by omega
  rw [this]
open Nat (reduceEqDiff reduceMod reduceAdd reduceLT reduceLeDiff reduceSub reduceMul)
theorem zCn:∀ s,s < 64→∀ i,i < 6→(zfE .i64 (zte .i64 (s:Nat) (i:Nat)) 1 == 1) = s.testBit i:=by
 have h:((List.range 64).all fun s=>(List.range 6).all fun i=>(zfE .i64 (zte .i64 (s:Nat) (i:Nat)) 1 == 1) == s.testBit i) = true:=by decide +kernel
 intro s hs i hi
 have:=List.all_eq_true.1 (List.all_eq_true.1 h s (List.mem_range.2 hs)) i (List.mem_range.2 hi)
 simpa using this
def zmM (s i:Nat):List Nat:=(List.range i).filter s.testBit
def txP (s i:Nat):ByteArray:=⟨((zmM s i).map fun j=>UInt8.ofNat (97 + j)).toArray⟩
def zEa (s:Nat):ByteArray:=if s = 0 then ⟨#[45]⟩ else txP s 6
def zct (s:Int):ByteArray:=if 0 ≤ s∧s < 64 then zEa s.toNat else ⟨#[]⟩
theorem zwM {s i:Nat} (h:s.testBit i = true):zmM s (i + 1) = zmM s i ++ [i]:=by unfold zmM;rw [List.range_succ,List.filter_append];simp [h]
theorem zCo {s i:Nat} (h:s.testBit i = false):zmM s (i + 1) = zmM s i:=by unfold zmM;rw [List.range_succ,List.filter_append];simp [h]
theorem zHt {s i:Nat} (h:s.testBit i = true):txP s (i + 1) = txP s i ++ ⟨#[UInt8.ofNat (97 + i)]⟩:=by
 unfold txP;rw [zwM h]
 refine ByteArray.ext ?_
 simp
theorem zKx {s i:Nat} (h:s.testBit i = false):txP s (i + 1) = txP s i:=by unfold txP;rw [zCo h]
theorem zkg (s i:Nat):(zmM s i).length ≤ i:=by
 have:=List.length_filter_le s.testBit (List.range i)
 rwa [List.length_range] at this
theorem zwN (s i:Nat):(txP s i).size ≤ i:=by
 have:=zkg s i
 show ((zmM s i).map _).toArray.size ≤ i
 simpa using this
theorem zHu:∀ i,i < 6→(⟨#[97,98,99,100,101,102]⟩:ByteArray).extract i (i + 1) = ⟨#[UInt8.ofNat (97 + i)]⟩:=by decide +kernel
theorem zmN (s:Int):AC Tryz.prog 118 [int s] (.im (str (zct s))):=by
 refine AC.go (rs:=[.tmp 2]) zaD mixed Tryz.func118 rfl rfl rfl (by kernel_rfl) fun hl=>?_
 simp -dsimp only [↓gp,gq,simprocAttr,gT]
 refine zab (zbY _ _ _) ?_
 simp -dsimp only [↓gp,gq,simprocAttr,gT]
 unfold zct
 refine ⟨fun h=>?_,fun h=>?_⟩
 ·rw [if_neg (fun hc=>by simp at h;omega)]
 ·have h:0 ≤ s∧s ≤ 63:=by simpa using h
  rw [if_pos ⟨h.1,by omega⟩]
  obtain ⟨u,rfl⟩:∃ u:Nat,s = u:=⟨s.toNat,by omega⟩
  rw [Int.toNat_natCast]
  have hu:u < 64:=by omega
  refine ⟨fun h0=>?_,fun h0=>?_⟩
  ·have:u = 0:=by
    have:(u:Int) = 0:=by simpa using h0
    omega
   rw [this];rfl
  ·have hne:u ≠ 0:=fun e=>by rw [e] at h0;simp at h0
   have hse:zEa u = txP u 6:=if_neg hne
   rw [hse]
   refine zah (fun (i:Nat) s=>s.sl 0 = int u∧s.sl 3 = str (txP u i)∧s.sl 4 = int i∧(i ≤ 6)) (fun i=>6 - i) (0) (by refine ⟨?_,?_,?_,by omega⟩ <;> (first | (simp -dsimp only [gr,simprocAttr];first | done | rfl | (simp;done)) | assumption | rfl)) ?_
   intro i sa ⟨h0a,h3a,h4a,hIa⟩
   have hun:IntKind.u64.wrap (i:Int) = (i:Int):=zaV (by omega)
   by_cases hi:i < 6
   ·have hbit:=zCn u hu i hi
    have hcut:=zHu i hi
    have hw:=zaa hi (by omega)
    simp -dsimp only [↓gp,gq,simprocAttr,gT,h0a,h3a,h4a,hun,hbit,hw,Int.toNat_natCast,hcut]
    have hsz:=zwN u i
    refine ⟨fun _=>⟨fun hb=>⟨by omega,by show i + 1 ≤ 6;omega,by show (txP u i).size + 1 ≤ 9223372036854775807;omega,?_⟩,fun hb=>?_⟩,fun h=>absurd (by omega) h⟩
    ·have e:=zHt hb
     exact zac (i + 1) (by refine ⟨?_,?_,?_,by omega⟩ <;> (first | (simp -dsimp only [gr,simprocAttr,h0a,h3a,h4a,hw,e];first | done | rfl | (simp;done)) | assumption | rfl)) (by first | omega | (simp only;omega) | (dsimp only;omega) | (show _ < _;simp;omega))
    ·have e:=zKx hb
     exact zac (i + 1) (by refine ⟨?_,?_,?_,by omega⟩ <;> (first | (simp -dsimp only [gr,simprocAttr,h0a,h3a,h4a,hw,e];first | done | rfl | (simp;done)) | assumption | rfl)) (by first | omega | (simp only;omega) | (dsimp only;omega) | (show _ < _;simp;omega))
   ·simp -dsimp only [↓gp,gq,simprocAttr,gT,h0a,h3a,h4a,hun]
    refine ⟨fun h=>absurd h (by omega),fun _=>?_⟩
    have:i = 6:=by omega
    rw [this]
theorem zfc (u:Nat) (hs:u < 64):AC Tryz.prog 157 [int u] (.fr 3 1 (iL (ofN (zmM u 6)))):=by
 refine AC.go (rs:=[.tmp 2]) zaD mixed Tryz.func157 rfl rfl rfl (by kernel_rfl) fun hl=>?_
 simp -dsimp only [↓gp,gq,simprocAttr,gT]
 refine zab (zbX 6 u) ?_
 have hin:zcA 6 (u:Int) = true:=by unfold zcA;exact decide_eq_true ⟨by omega,by omega,by omega,by simpa using (by omega:(u:Int) < 64)⟩
 rw [hin]
 simp -dsimp only [↓gp,gq,simprocAttr,gT]
 refine zah (fun (za:Nat × Nat) s=>match za with | (i,v)=>s.sl 0 = int u∧s.sl 3 = .own 3 v∧s.rw 3 = ⟨v,.sli 3 1 false (iL (ofN (zmM u i)))⟩∧s.sl 4 = int i∧(i ≤ 6)) (fun (i,v)=>6 - i) ((0,1)) (by refine ⟨?_,?_,?_,?_,by omega⟩ <;> (first | (simp -dsimp only [gr,simprocAttr];first | done | rfl | (simp;done)) | assumption | rfl)) ?_
 intro (i,v) sa ⟨h0a,h3a,r3a,h4a,hIa⟩
 have hpl:=zkg u i
 have hun:IntKind.u64.wrap (i:Int) = (i:Int):=zaV (by omega)
 by_cases hi:i < 6
 ·have hbit:=zCn u hs i hi
  simp -dsimp only [↓gp,gq,simprocAttr,gT,h0a,h3a,r3a,h4a,hun,hbit]
  refine ⟨fun _=>⟨fun hb=>⟨by rw [zad];omega,?_⟩,fun hb=>?_⟩,fun h=>absurd h (by omega)⟩
  ·have e:ofN (zmM u i) ++ [(i:Int)] = ofN (zmM u (i + 1)):=by rw [zwM hb,zaS,zdE]
   exact zac ((i + 1,v + 1)) (by refine ⟨?_,?_,?_,?_,by dsimp only;omega⟩ <;> (first | (simp -dsimp only [gr,simprocAttr,h0a,h3a,r3a,h4a,zaa hi (by omega),e];first | done | rfl | (simp;done)) | assumption | rfl)) (by first | omega | (simp only;omega) | (dsimp only;omega) | (show _ < _;simp;omega))
  ·have e:=zCo hb
   exact zac ((i + 1,v)) (by refine ⟨?_,?_,?_,?_,by dsimp only;omega⟩ <;> (first | (simp -dsimp only [gr,simprocAttr,h0a,h3a,r3a,h4a,zaa hi (by omega),e];first | done | rfl | (simp;done)) | assumption | rfl)) (by first | omega | (simp only;omega) | (dsimp only;omega) | (show _ < _;simp;omega))
 ·simp -dsimp only [↓gp,gq,simprocAttr,gT,h0a,h3a,r3a,h4a,hun]
  refine ⟨fun h=>absurd h (by omega),fun _=>?_⟩
  have:i = 6:=by omega
  rw [this]
def zEb (l:List Nat):ByteArray:=⟨(l.map fun j=>UInt8.ofNat (97 + j)).toArray⟩
theorem zCp (l:List Nat) (i:Nat) (h:i < 6):zfg (zEb l) ++ [PV.v (.int .u8 (97 + i:Nat))] = zfg (zEb (l ++ [i])):=by
 unfold zfg zEb
 have:(UInt8.ofNat (97 + i)).toNat = 97 + i:=by simp;omega
 simp only [List.map_append,List.map_cons,List.map_nil,List.toList_toArray,this]
theorem zmO (s:Int):AC Tryz.prog 120 [int s] (.im (str (zct s))):=by
 refine AC.go (rs:=[.tmp 2]) zaD mixed Tryz.func120 rfl rfl rfl (by kernel_rfl) fun hl=>?_
 simp (maxSteps:=9^7) -dsimp only [↓gp,gq,reduceCtorEq,reduceEqDiff,reduceLT,reduceLeDiff,reduceAdd,reduceMul,reduceSub,Nat.reduceBEq,Int.reduceToNat,Int.reduceLE,Int.reduceLT,Int.reduceNeg,reduceMod,gT]
 refine zab (zbX 6 s) ?_
 have hin:zcA 6 s = decide (0 ≤ s∧s < 64):=by
  unfold zcA
  refine decide_eq_decide.2 ⟨fun h=>⟨h.2.2.1,by simpa using h.2.2.2⟩,fun h=>⟨by omega,by omega,h.1,by simpa using h.2⟩⟩
 rw [hin]
 simp (maxSteps:=9^7) -dsimp only [↓gp,gq,reduceCtorEq,reduceEqDiff,reduceLT,reduceLeDiff,reduceAdd,reduceMul,reduceSub,Nat.reduceBEq,Int.reduceToNat,Int.reduceLE,Int.reduceLT,Int.reduceNeg,reduceMod,gT]
 unfold zct
 refine ⟨fun h=>?_,fun h=>?_⟩
 ·rw [if_neg (fun hc=>by rw [decide_eq_true hc] at h;cases h)]
 ·have h:0 ≤ s∧s < 64:=by simpa using h
  rw [if_pos h]
  obtain ⟨u,rfl⟩:∃ u:Nat,s = u:=⟨s.toNat,by omega⟩
  rw [Int.toNat_natCast]
  have hu:u < 64:=by omega
  refine ⟨fun h0=>?_,fun h0=>?_⟩
  ·have:u = 0:=by
    have:(u:Int) = 0:=by simpa using h0
    omega
   rw [this];rfl
  ·have hne:u ≠ 0:=fun e=>by rw [e] at h0;simp at h0
   have hse:zEa u = zEb (zmM u 6):=if_neg hne
   rw [hse]
   refine ⟨by decide,zab (zfc u hu) ?_⟩
   simp (maxSteps:=9^7) -dsimp only [↓gp,gq,reduceCtorEq,reduceEqDiff,reduceLT,reduceLeDiff,reduceAdd,reduceMul,reduceSub,Nat.reduceBEq,Int.reduceToNat,Int.reduceLE,Int.reduceLT,Int.reduceNeg,reduceMod,gT,zad]
   have hpl:=zkg u 6
   have hpm:∀ k,k < (zmM u 6).length→(zmM u 6).getD k 0 < 6:=fun k hk=>List.mem_range.1 (List.mem_filter.1 (zaj 0 hk)).1
   generalize zmM u 6 = l at *
   have hz0:zEb (l.take 0) = ⟨#[]⟩:=rfl
   refine zah (fun (za:Nat × Nat) s=>match za with | (k,v)=>s.sl 3 = .own 11 v∧s.rw 11 = ⟨v,.sli 5 1 false (zfg (zEb (l.take k)))⟩∧s.sl 13 = .own 13 1∧s.rw 13 = ⟨1,.sli 3 1 false (iL (ofN l))⟩∧s.sl 14 = int l.length∧s.sl 15 = int k∧(k ≤ l.length)) (fun (k,v)=>l.length - k) ((0,1)) (by refine ⟨?_,?_,?_,?_,?_,?_,by omega⟩ <;> (first | (simp (maxSteps:=9^7) -dsimp only [gr,reduceEqDiff,reduceLT,reduceAdd,reduceMod,Nat.reduceBEq,hz0,zwO,List.replicate];first | done | rfl | (simp;done)) | assumption | rfl)) ?_
   intro (k,v) sa ⟨h3a,r11a,h13a,r13a,h14a,h15a,hIa⟩
   have hlen:(zfg (zEb (l.take k))).length ≤ 6:=by rw [zeF];show ((l.take k).map _).toArray.size ≤ 6;simp;omega
   by_cases hk:k < l.length
   ·have hge:(ofN l).getD k 0 = ((l.getD k 0:Nat):Int):=zaG hk
    have hm:=hpm k hk
    have hw:=zaa hk (by omega)
    have hw1:IntKind.i64.wrap (97 + ((l.getD k 0:Nat):Int)) = ((97 + l.getD k 0:Nat):Int):=by rw [zai (by omega) (by omega)];rfl
    have hw8:IntKind.u8.wrap ((97 + l.getD k 0:Nat):Int) = ((97 + l.getD k 0:Nat):Int):=by
     generalize l.getD k 0 = x at hm
     simp [IntKind.wrap,IntKind.bits,IntKind.signed]
     omega
    have e:zfg (zEb (l.take k)) ++ [PV.v (.int .u8 (97 + l.getD k 0:Nat))] = zfg (zEb (l.take (k + 1))):=by rw [zCp _ _ hm,zau 0 hk]
    simp (maxSteps:=9^7) -dsimp only [↓gp,gq,reduceCtorEq,reduceEqDiff,reduceLT,reduceLeDiff,reduceAdd,reduceMul,reduceSub,Nat.reduceBEq,Int.reduceToNat,Int.reduceLE,Int.reduceLT,Int.reduceNeg,reduceMod,gT,h3a,r11a,h13a,r13a,h14a,h15a,zad,hge,hw1,hw8,zEe,zjG,ziM]
    refine ⟨fun _=>⟨hk,hk,?_,by omega,zac ((k + 1,v + 1)) (by refine ⟨?_,?_,?_,?_,?_,?_,by dsimp only;omega⟩ <;> (first | (simp (maxSteps:=9^7) -dsimp only [gr,reduceEqDiff,reduceLT,reduceAdd,reduceMod,Nat.reduceBEq,h3a,r11a,h13a,r13a,h14a,h15a,hw,e];first | done | rfl | (simp;done)) | assumption | rfl)) (by first | omega | (simp only;omega) | (dsimp only;omega) | (show _ < _;simp;omega))⟩,fun h=>absurd hk h⟩
    intro p hp
    rw [List.mem_singleton.1 hp];rfl
   ·simp (maxSteps:=9^7) -dsimp only [↓gp,gq,reduceCtorEq,reduceEqDiff,reduceLT,reduceLeDiff,reduceAdd,reduceMul,reduceSub,Nat.reduceBEq,Int.reduceToNat,Int.reduceLE,Int.reduceLT,Int.reduceNeg,reduceMod,gT,h3a,r11a,h13a,r13a,h14a,h15a,zad,zjG,ziM]
    refine ⟨fun h=>absurd h hk,fun _=>?_⟩
    rw [List.take_of_length_le (by omega)]
theorem ziK (s:Int):(zct s).size ≤ 6:=by
 unfold zct zEa
 split
 ·split
  ·show 1 ≤ 6;omega
  ·exact zwN _ _
 ·show 0 ≤ 6;omega
theorem ziL {l:List ByteArray} {sep:ByteArray} (h:∀ i,i < l.length→(l.getD i ⟨#[]⟩).size ≤ 6) (hs:sep.size ≤ 1):∀ i,i ≤ l.length→(zci l sep i).size ≤ 7 * i:=by
 intro i
 induction i with
 | zero=>intro _;exact Nat.le_refl _
 | succ i ih =>
   intro hi
   have h1:=ih (by omega)
   have h2:=h i (by omega)
   unfold zci
   rw [ByteArray.size_append]
   split
   ·omega
   ·rw [ByteArray.size_append];omega
theorem zpD (sep:List UInt8):∀ (xs:List (List UInt8)) (x:List UInt8),xs ≠ []→Go.Lib.join (xs ++ [x]) sep = Go.Lib.join xs sep ++ sep ++ x:=by
 intro xs x h
 cases xs with
 | nil=>exact absurd rfl h
 | cons y r =>
   rw [List.cons_append,Go.Lib.join_cons,Go.Lib.join_cons]
   simp [Go.Lib.joinTail]
theorem zdt (l:List ByteArray) (sep:ByteArray):∀ i,i ≤ l.length→zci l sep i = zgU (l.take i) sep:=by
 intro i
 induction i with
 | zero=>intro _;rfl
 | succ i ih =>
   intro hi
   have hi:i < l.length:=by omega
   rw [zci,ih (by omega),zau ⟨#[]⟩ hi]
   unfold zgU
   rw [List.map_append,List.map_cons,List.map_nil]
   by_cases h0:i = 0
   ·subst h0
    rw [if_pos rfl]
    refine ByteArray.ext ?_
    simp [Go.Lib.join_nil,Go.Lib.join_one]
   ·rw [if_neg h0,zpD _ _ _ (by intro e;have:=congrArg List.length e;rw [List.length_map,List.length_take,List.length_nil] at this;omega)]
    refine ByteArray.ext ?_
    simp
def zwL (l:List Int):ByteArray:=zgU (l.map zct) ⟨#[44]⟩
theorem zml (l:List Int) (hN:l.length ≤ 500):AC Tryz.prog 57 [zax l] (.im (str (zwL l))):=by
 refine AC.go (rs:=[.tmp 2]) zaD mixed Tryz.func57 rfl rfl rfl (by kernel_rfl) fun hl=>?_
 simp -dsimp only [↓gp,gq,simprocAttr,gT]
 refine zah (fun (za:Nat × Nat) s=>match za with | (k,v)=>s.sl 0 = zax l∧s.sl 3 = .own 5 v∧s.rw 5 = ⟨v,.sli 9 1 false (sL ((l.take k).map zct))⟩∧s.sl 4 = int k∧(k ≤ l.length)) (fun (k,v)=>l.length - k) ((0,1)) (by refine ⟨?_,?_,?_,?_,by omega⟩ <;> (first | (simp -dsimp only [gr,simprocAttr];first | done | rfl | (simp;done)) | assumption | rfl)) ?_
 intro (k,v) sa ⟨h0a,h3a,r5a,h4a,hIa⟩
 simp -dsimp only [↓gp,gq,simprocAttr,gT,h0a,h3a,r5a,h4a]
 refine ⟨fun h=>⟨h,h,zab (zmN _) ?_⟩,fun h=>?_⟩
 ·simp -dsimp only [↓gp,gq,simprocAttr,gT,h0a,h3a,r5a,h4a]
  have e:(l.take (k + 1)).map zct = (l.take k).map zct ++ [zct (l.getD k 0)]:=by rw [zau 0 h];simp
  refine ⟨by rw [List.length_map,List.length_take];omega,zac ((k + 1,v + 1)) (by refine ⟨?_,?_,?_,?_,by dsimp only;omega⟩ <;> (first | (simp -dsimp only [gr,simprocAttr,h0a,h3a,r5a,h4a,zaa h (show l.length ≤ 9223372036854775807 by omega),e];first | done | rfl | (simp;done)) | assumption | rfl)) (by first | omega | (simp only;omega) | (dsimp only;omega) | (show _ < _;simp;omega))⟩
 ·have ht:l.take k = l:=List.take_of_length_le (by omega)
  rw [ht]
  have hjs:=ziL (l:=l.map zct) (sep:=⟨#[44]⟩) (fun i hi=>by
   have hi:i < l.length:=by simpa using hi
   have:(l.map zct).getD i ⟨#[]⟩ = zct l[i]:=by simp [List.getD,hi]
   rw [this];exact ziK _) (Nat.le_refl 1)
  refine zab (zgT (l.map zct) ⟨#[44]⟩ (by rw [List.length_map];omega) (fun i hi=>?_)) ?_
  ·have:=hjs i hi
   rw [List.length_map] at hi
   have h1:(⟨#[44]⟩:ByteArray).size = 1:=rfl
   omega
  ·have e:=zdt (l.map zct) ⟨#[44]⟩ (l.map zct).length (Nat.le_refl _)
   rw [List.take_length] at e
   rw [e]
   simp -dsimp only [↓gp,gq,simprocAttr,gT,h0a,h3a,r5a,h4a]
   rfl
end Go.Proofs.YtkledeboboplmaaGreatDoor
namespace Go.Proofs.YtkledeboboplmaaGreatDoor
open Go.Abs Go.Shelf
set_option linter.unusedSimpArgs false
set_option linter.unusedVariables false
def zFT:Go.Shelf.Ren where
 f:=fun x=>match x with | 156=>44 | 165=>102 | 166=>103 | 169=>104 | 240=>160 | 241=>161 | 276=>192 | 277=>193 | n=>n
 t:=fun x=>match x with | 31=>44 | 9=>9 | 3=>3 | 4=>4 | 0=>0 | 20=>20 | 72=>77 | 76=>81 | 70=>75 | 37=>31 | 75=>80 | 127=>118 | 164=>138 | 5=>5 | 80=>83 | n=>n
 g:=fun x=>x
theorem zHs:Lays.n156 Tryz.prog zFT where
 mixed:=mixed
 f156:=(show Tryz.prog.funcs[44]? = some _ from Tryz.func44).trans (congrArg some (by kernel_rfl))
 f165:=(show Tryz.prog.funcs[102]? = some _ from Tryz.func102).trans (congrArg some (by kernel_rfl))
 f166:=(show Tryz.prog.funcs[103]? = some _ from Tryz.func103).trans (congrArg some (by kernel_rfl))
 f169:=(show Tryz.prog.funcs[104]? = some _ from Tryz.func104).trans (congrArg some (by kernel_rfl))
 f240:=(show Tryz.prog.funcs[160]? = some _ from Tryz.func160).trans (congrArg some (by kernel_rfl))
 f241:=(show Tryz.prog.funcs[161]? = some _ from Tryz.func161).trans (congrArg some (by kernel_rfl))
 f276:=(show Tryz.prog.funcs[192]? = some _ from Tryz.func192).trans (congrArg some (by kernel_rfl))
 f277:=(show Tryz.prog.funcs[193]? = some _ from Tryz.func193).trans (congrArg some (by kernel_rfl))
 t0:=Tryz.underlying0
 a0:=Tryz.isAgg0
 z0:=Tryz.sizeOf0
 v0:=Tryz.zeroValue0
 t3:=Tryz.underlying3
 a3:=Tryz.isAgg3
 z3:=Tryz.sizeOf3
 v3:=Tryz.zeroValue3
 t4:=Tryz.underlying4
 a4:=Tryz.isAgg4
 z4:=Tryz.sizeOf4
 v4:=Tryz.zeroValue4
 t9:=Tryz.underlying9
 a9:=Tryz.isAgg9
 z9:=Tryz.sizeOf9
 v9:=Tryz.zeroValue9
 t20:=Tryz.underlying20
 a20:=Tryz.isAgg20
 z20:=Tryz.sizeOf20
 v20:=Tryz.zeroValue20
 t31:=Tryz.underlying44
 a31:=Tryz.isAgg44
 z31:=Tryz.sizeOf44
 v31:=Tryz.zeroValue44
 t37:=Tryz.underlying31
 a37:=Tryz.isAgg31
 z37:=Tryz.sizeOf31
 v37:=Tryz.zeroValue31
 t70:=Tryz.underlying75
 a70:=Tryz.isAgg75
 z70:=Tryz.sizeOf75
 v70:=Tryz.zeroValue75
 t72:=Tryz.underlying77
 a72:=Tryz.isAgg77
 z72:=Tryz.sizeOf77
 v72:=Tryz.zeroValue77
 t75:=Tryz.underlying80
 a75:=Tryz.isAgg80
 z75:=Tryz.sizeOf80
 v75:=Tryz.zeroValue80
 t76:=Tryz.underlying81
 a76:=Tryz.isAgg81
 z76:=Tryz.sizeOf81
 v76:=Tryz.zeroValue81
 t127:=Tryz.underlying118
 a127:=Tryz.isAgg118
 z127:=Tryz.sizeOf118
 v127:=Tryz.zeroValue118
 t164:=Tryz.underlying138
 a164:=Tryz.isAgg138
 z164:=Tryz.sizeOf138
 v164:=Tryz.zeroValue138
theorem zD9:Builder.Extra Tryz.prog zFT where
 sizeBuilder:=by kernel_rfl
 liesBuilder:=by kernel_rfl
 t5:=Tryz.underlying5
 a5:=Tryz.isAgg5
 z5:=Tryz.sizeOf5
 v5:=Tryz.zeroValue5
 infoByte:=by kernel_rfl
 cellsByte:=by kernel_rfl
 sizeByte:=by kernel_rfl
 neB5:=by decide
theorem zc5 (l:List ByteArray) (sep:ByteArray) (hN:l.length ≤ 140737488355328) (hlen:(zgU l sep).size ≤ 140737488355328):AC Tryz.prog 44 [.sl false 1 (sL l),str sep] (.im (str (zgU l sep))) :=
 zHv zHs zD9 ⟨_,Tryz.func44,by kernel_rfl,by kernel_rfl⟩ (fun h=>h) l sep hN hlen
theorem zmk (l:List Int) (hN:l.length ≤ 500):AC Tryz.prog 59 [zax l] (.im (str (zwL l))):=by
 refine AC.go (rs:=[.tmp 2]) zaD mixed Tryz.func59 rfl rfl rfl (by kernel_rfl) fun hl=>?_
 simp -dsimp only [↓gp,gq,simprocAttr,gT]
 refine ⟨by omega,by omega,?_⟩
 have hz:sL ((l.take 0).map zct) = []:=rfl
 refine zah (fun (za:Nat × Nat) s=>match za with | (k,v)=>s.sl 3 = .own 8 v∧s.rw 8 = ⟨v,.sli 9 1 false (sL ((l.take k).map zct))⟩∧s.sl 9 = zax l∧s.sl 10 = int l.length∧s.sl 11 = int k∧(k ≤ l.length)) (fun (k,v)=>l.length - k) ((0,1)) (by refine ⟨?_,?_,?_,?_,?_,by omega⟩ <;> (first | (simp -dsimp only [gr,simprocAttr,hz,List.replicate];first | done | rfl | (simp;done)) | assumption | rfl)) ?_
 intro (k,v) sa ⟨h3a,r8a,h9a,h10a,h11a,hIa⟩
 simp -dsimp only [↓gp,gq,simprocAttr,gT,h3a,r8a,h9a,h10a,h11a]
 refine ⟨fun h=>⟨h,h,zab (zmO _) ?_⟩,fun h=>?_⟩
 ·simp -dsimp only [↓gp,gq,simprocAttr,gT,h3a,r8a,h9a,h10a,h11a]
  have e:(l.take (k + 1)).map zct = (l.take k).map zct ++ [zct (l.getD k 0)]:=by rw [zau 0 h];simp
  refine ⟨by rw [List.length_map,List.length_take];omega,zac ((k + 1,v + 1)) (by refine ⟨?_,?_,?_,?_,?_,by dsimp only;omega⟩ <;> (first | (simp -dsimp only [gr,simprocAttr,h3a,r8a,h9a,h10a,h11a,zaa h (show l.length ≤ 9223372036854775807 by omega),e];first | done | rfl | (simp;done)) | assumption | rfl)) (by first | omega | (simp only;omega) | (dsimp only;omega) | (show _ < _;simp;omega))⟩
 ·have ht:l.take k = l:=List.take_of_length_le (by omega)
  rw [ht]
  have hjs:=ziL (l:=l.map zct) (sep:=⟨#[44]⟩) (fun i hi=>by
   have hi:i < l.length:=by simpa using hi
   have:(l.map zct).getD i ⟨#[]⟩ = zct l[i]:=by simp [List.getD,hi]
   rw [this];exact ziK _) (Nat.le_refl 1) (l.map zct).length (Nat.le_refl _)
  rw [zdt _ _ _ (Nat.le_refl _),List.take_length,List.length_map] at hjs
  refine zab (zc5 (l.map zct) ⟨#[44]⟩ (by rw [List.length_map];omega) (by omega)) ?_
  simp -dsimp only [↓gp,gq,simprocAttr,gT,h3a,r8a,h9a,h10a,h11a]
  rfl
end Go.Proofs.YtkledeboboplmaaGreatDoor
namespace Go.Proofs.YtkledeboboplmaaGreatDoor
open Go.Abs
set_option linter.unusedSimpArgs false
set_option linter.unusedVariables false
def adL (ws:List ByteArray) (b:Bool) (w:ByteArray):List ByteArray:=if b = true then ws ++ [w] else ws
def adR (b:Bool) (ws:List ByteArray) (i:Nat):Row :=
 if i = 1000000 then ⟨1,.box 44 [if b = true then .v (.slice none 0 0) else .own 1000001 1]⟩ else if i = 1000001 then (if b = true then ⟨0,.dead⟩ else ⟨1,.sli 9 1 false (sL ws)⟩) else ⟨0,.dead⟩
theorem zFB (b:Bool) (ws:List ByteArray) {i:Nat} (h:i < 1000000):adR b ws i = ⟨0,.dead⟩:=by unfold adR;rw [if_neg (by omega),if_neg (by omega)]
theorem zA9 {b:Bool} {ws:List ByteArray} {i:Nat} (h:(adR b ws i).kind.nd = true):i = 1000000 ∨ (i = 1000001∧b = false):=by
 by_cases h0:i = 1000000
 ·exact .inl h0
 by_cases h1:i = 1000001
 ·cases b
  ·exact .inr ⟨h1,rfl⟩
  ·rw [h1] at h;cases h
 ·unfold adR at h;rw [if_neg h0,if_neg h1] at h;cases h
def zBa (out:List ByteArray) (R1:Nat→Row) (p:PV):Prop:=p = .tup []∧∃ v,0 < v∧R1 1000000 = ⟨1,.box 44 [.own 1000001 v]⟩∧R1 1000001 = ⟨v,.sli 9 1 false (sL out)⟩
theorem zDq {b:Bool} {ws:List ByteArray} (hb:b = true→ws = []) {s:St} (hr:∀ k,s.rw k = adR b ws k) :
 ∃ s',Wk s s'∧s'.sl = s.sl∧s'.rw 1000000 = ⟨1,.box 44 [.own 1000001 1]⟩∧s'.rw 1000001 = ⟨1,.sli 9 1 false (sL ws)⟩∧∀ k,k < 1000000→s'.rw k = ⟨0,.dead⟩:=by
 cases b with
 | false=>exact ⟨s,Wk.refl s,rfl,by rw [hr];rfl,by rw [hr];rfl,fun k hk=>by rw [hr,zFB _ _ hk]⟩
 | true =>
   have hl:=hb rfl
   subst hl
   have h0:s.rw 1000000 = ⟨1,.box 44 [.v (.slice none 0 0)]⟩:=by rw [hr];rfl
   have h1:s.rw 1000001 = ⟨0,.dead⟩:=by rw [hr];rfl
   have hw:=Wk.nilBox (o:=0) 1000001 9 h0 rfl (by decide)
   rw [h1] at hw
   refine ⟨_,hw,rfl,by rw [zaF];rfl,by rw [zas _ _ _ _ (by decide),zaF];rfl,fun k hk=>?_⟩
   rw [zas _ _ _ _ (by omega),zas _ _ _ _ (by omega),hr,zFB _ _ hk]
theorem zcS (b:Bool) (ws:List ByteArray) (hb:b = true→ws = []) (hN:ws.length ≤ 100) (ap:Bool) (w:ByteArray):AG Tryz.prog 63 [bool ap,str w,.ref 1000000 1 0] (adR b ws) (zBa (adL ws ap w)):=by
 refine AG.goW (rs:=[]) zaD mixed Tryz.func63 rfl rfl rfl (by kernel_rfl) fun hl hrl z hz hr=>?_
 obtain ⟨s,hw,hsl,y0,y1,ylow⟩:=zDq hb hr
 refine ⟨s,hw,?_⟩
 have z0:s.sl 0 = bool ap:=by rw [hsl,hz];rfl
 have z1:s.sl 1 = str w:=by rw [hsl,hz];rfl
 have z2:s.sl 2 = .ref 1000000 1 0:=by rw [hsl,hz];rfl
 clear hz hr hw hsl z
 have hsn:sL ws ++ [str w] = sL (ws ++ [w]):=by simp [sL]
 have hsl2:(sL ws).length = ws.length:=by simp [sL]
 simp -dsimp only [↓gp,gq,simprocAttr,gT,z0,z1,z2,y0,y1,ylow,hsl2]
 unfold adL
 refine ⟨fun h=>⟨by omega,?_⟩,fun h=>?_⟩
 ·rw [if_pos h];exact ⟨rfl,2,by decide,by simp -dsimp only [gr,simprocAttr,y0],by simp -dsimp only [gr,simprocAttr,y1]⟩
 ·rw [if_neg (by rw [h];decide)];exact ⟨rfl,1,by decide,y0,y1⟩
theorem zK4 [zae] {s:St} {K:St→Prop} {f:FuncId} {ap:Bool} {w:ByteArray} {ws out:List ByteArray} {b:Bool} {c:PV} {d k vk j vj:Nat} (hc:AG Tryz.prog f [bool ap,str w,.ref 1000000 1 0] (adR b ws) (zBa out)) (hk:s.rw k = ⟨vk,.box 44 [c]⟩)
 (hcs:(b = true∧c = .v (.slice none 0 0)) ∨ (b = false∧c = .own j vj∧s.rw j = ⟨vj,.sli 9 1 false (sL ws)⟩)) (hjk:j ≠ k)
 (hK:∀ v',K (((s.row j ⟨v',.sli 9 1 false (sL out)⟩).row k ⟨vk,.box 44 [.own j v']⟩).put (some d) (.tup []))):askG Tryz.prog s f [bool ap,str w,.ref k vk 0] (some d) K:=by
 let rho:Nat→Option Nat:=fun a=>if a = 1000000 then some k else if a = 1000001 then (if b = true then none else some j) else none
 let rho1:Nat→Option Nat:=fun a=>if a = 1000000 then some k else if a = 1000001 then some j else none
 have s1:∀ {a x:Nat},rho1 a = some x→(a = 1000000∧x = k) ∨ (a = 1000001∧x = j):=fun {a x} h=>by
  have h:(if a = 1000000 then some k else if a = 1000001 then some j else none) = some x:=h
  split at h
  ·cases h;exact .inl ⟨‹_›,rfl⟩
  ·split at h
   ·cases h;exact .inr ⟨‹_›,rfl⟩
   ·cases h
 have kp:∀ a,(adR b ws a).kind.nd = true→rho1 a = rho a:=fun a h=>by
  rcases zA9 h with rfl | ⟨rfl,rfl⟩ <;> rfl
 have hG0:GvA rho (fun _=>False) (adR b ws) s.rw (if b = true then .v (.slice none 0 0) else .own 1000001 1) c:=by
  rcases hcs with ⟨rfl,rfl⟩ | ⟨rfl,rfl,hj⟩
  ·exact .v _
  ·exact .own rfl rfl (by rw [hj]) rfl
 have inj1:∀ a a' x,rho1 a = some x→rho1 a' = some x→a = a':=fun a a' x h h'=>by
  rcases s1 h with ⟨rfl,rfl⟩ | ⟨rfl,rfl⟩ <;> rcases s1 h' with ⟨rfl,e⟩ | ⟨rfl,e⟩
  ·rfl
  ·exact absurd e.symm hjk
  ·exact absurd e hjk
  ·rfl
 refine ⟨_,_,_,rho,fun _=>False,hc,.one (.v _) (.one (.v _) (.one (.ref rfl rfl (by rw [hk]) rfl) .nil)),⟨fun a ha=>?_,fun a a' x ha ha' h h'=>inj1 a a' x ((kp a ha).trans h) ((kp a' ha').trans h'),fun _ _ _ _ h=>h⟩,fun R1 p ⟨e0,v,hv,e1,e2⟩=>?_⟩
 ·rcases zA9 ha with rfl | ⟨rfl,rfl⟩
  ·exact ⟨Nat.le_refl _,Nat.one_pos,k,rfl,by rw [hk];exact ⟨rfl,.one hG0 .nil⟩⟩
  ·rcases hcs with ⟨h,_⟩ | ⟨_,_,hj⟩
   ·cases h
   ·exact ⟨by decide,Nat.one_pos,j,rfl,by rw [hj];exact ⟨rfl,rfl,rfl,zvS _⟩⟩
 ·subst e0
  let nv:Nat→Nat:=fun a=>if a = 1000000 then vk else (s.rw j).ver + (if b = true then v else v - 1)
  refine ⟨rho1,nv,true,⟨kp,inj1,fun a x h hn hver=>?_,fun a x h hn=>?_,fun _ _ h=>h⟩,fun S hS=>?_⟩
  ·rcases s1 h with ⟨rfl,rfl⟩ | ⟨rfl,rfl⟩
   ·rw [hk];rfl
   ·rcases zA9 hn with h | ⟨_,rfl⟩
    ·cases h
    ·rw [e2] at hver
     have:v = 1:=hver
     subst this
     rfl
  ·rcases s1 h with ⟨rfl,rfl⟩ | ⟨rfl,rfl⟩
   ·exact absurd (by rw [e1];rfl) (hn rfl)
   ·show (s.rw x).ver < (s.rw x).ver + (if b = true then v else v - 1)
    cases b with
    | true=>rw [if_pos rfl];omega
    | false =>
      have:=hn rfl
      rw [e2] at this
      have:v ≠ 1:=this
      rw [if_neg (by decide)];omega
  ·have e:S = ((s.row j ⟨nv 1000001,.sli 9 1 false (sL out)⟩).row k ⟨vk,.box 44 [.own j (nv 1000001)]⟩).put (some d) (.tup []):=by
    refine St.ext2 (fun i=>?_) fun a=>?_
    ·rw [hS.sl]
     by_cases e:i = d
     ·subst e;rw [zay,zay];rfl
     ·rw [zaO _ _ _ _ e,zaO _ _ _ _ e];rfl
    ·rw [zeY]
     by_cases e:a = k
     ·subst e
      rw [zaF,hS.row 1000000 a rfl,e1]
      have:zxy rho1 R1 nv true (.own 1000001 v) = .own j (nv 1000001):=by
       rw [zeG,e2]
       show (match some j,v == v with | some j,true=>PV.own j (nv 1000001) | _,_=>.junk) = _
       rw [beq_self_eq_true]
      show (⟨vk,.box 44 [zwf rho1 R1 nv true (.own 1000001 v)]⟩:Row) = _
      rw [show zwf rho1 R1 nv true (.own 1000001 v) = zxy rho1 R1 nv true (.own 1000001 v) from rfl,this]
     ·rw [zas _ _ _ _ e]
      by_cases e':a = j
      ·subst e';rw [zaF,hS.row 1000001 a rfl,e2];rfl
      ·rw [zas _ _ _ _ e']
       refine hS.off a fun b hb=>?_
       rcases s1 hb with ⟨_,h⟩ | ⟨_,h⟩
       ·exact e h
       ·exact e' h
   rw [e];exact hK _
theorem zeJ [zae] {s:St} {K:St→Prop} {f:FuncId} {ap:Bool} {w:ByteArray} {ws out:List ByteArray} (b:Bool) {c:PV} {d k vk:Nat} (j vj:Nat) {lents:List PV} {Ka:RV→Prop} {us:Dm s} {u:Dm K} (hc:AG Tryz.prog f [bool ap,str w,.ref 1000000 1 0] (adR b ws) (zBa out)) (hk:s.rw k = ⟨vk,.box 44 [c]⟩)
 (hcs:(b = true∧c = .v (.slice none 0 0)) ∨ (b = false∧c = .own j vj∧s.rw j = ⟨vj,.sli 9 1 false (sL ws)⟩)) (hjk:j ≠ k)
 (hK:∀ v',K (((s.row j ⟨v',.sli 9 1 false (sL out)⟩).row k ⟨vk,.box 44 [.own j v']⟩).put (some d) (.tup []))):ziS Tryz.prog f lents Ka (zsO Tryz.prog f lents [bool ap,str w,.ref k vk 0] (some d) (kk s us) (kk K u)):=.inr (.inr (.inr (.inr (zK4 hc hk hcs hjk hK))))
def lsR (ws:List ByteArray) (i:Nat):Row:=if i = 1000000 then ⟨1,.sli 9 1 false (sL ws)⟩ else ⟨0,.dead⟩
theorem zBb {ws:List ByteArray} {i:Nat} (h:(lsR ws i).kind.nd = true):i = 1000000:=Classical.byContradiction fun e=>by unfold lsR at h;rw [if_neg e] at h;cases h
def zFC (out:List ByteArray) (R1:Nat→Row) (p:PV):Prop:=∃ v,0 < v∧p = .own 1000000 v∧R1 1000000 = ⟨v,.sli 9 1 false (sL out)⟩
theorem zbO (ws:List ByteArray) (hN:ws.length ≤ 100) (ap:Bool) (w:ByteArray):AG Tryz.prog 71 [.own 1000000 1,bool ap,str w] (lsR ws) (zFC (adL ws ap w)):=by
 refine AG.go (rs:=[.tmp 6]) zaD mixed Tryz.func71 rfl rfl rfl (by kernel_rfl) fun hl hrl z hz hr=>?_
 have z0:z.sl 0 = .own 1000000 1:=by rw [hz];rfl
 have z1:z.sl 1 = bool ap:=by rw [hz];rfl
 have z2:z.sl 2 = str w:=by rw [hz];rfl
 have y0:z.rw 1000000 = ⟨1,.sli 9 1 false (sL ws)⟩:=by rw [hr];rfl
 have yl:∀ j,j < 1000000→z.rw j = ⟨0,.dead⟩:=fun j hj=>by rw [hr];unfold lsR;rw [if_neg (by omega)]
 clear hz hr
 have hsn:sL ws ++ [str w] = sL (ws ++ [w]):=by simp [sL]
 have hsl2:(sL ws).length = ws.length:=by simp [sL]
 simp -dsimp only [↓gp,gq,simprocAttr,gT,z0,z1,z2,y0,yl,hsl2]
 unfold adL
 refine ⟨fun h=>⟨by omega,?_⟩,fun h=>?_⟩
 ·rw [if_pos h];exact ⟨2,by decide,rfl,by simp -dsimp only [gr,simprocAttr,y0]⟩
 ·rw [if_neg (by rw [h];decide)];exact ⟨1,by decide,rfl,y0⟩
theorem zeK [zae] {s:St} {K:St→Prop} {f:FuncId} {ap:Bool} {w:ByteArray} {ws out:List ByteArray} {d j vj:Nat} {lents:List PV} {Ka:RV→Prop} {us:Dm s} {u:Dm K} (hc:AG Tryz.prog f [.own 1000000 1,bool ap,str w] (lsR ws) (zFC out)) (hj:s.rw j = ⟨vj,.sli 9 1 false (sL ws)⟩)
 (hK:∀ v',K ((s.row j ⟨v',.sli 9 1 false (sL out)⟩).put (some d) (.own j v'))):ziS Tryz.prog f lents Ka (zsO Tryz.prog f lents [.own j vj,bool ap,str w] (some d) (kk s us) (kk K u)):=by
 refine .inr (.inr (.inr (.inr (show askG Tryz.prog s f [.own j vj,bool ap,str w] (some d) K from ?_))))
 let rho:Nat→Option Nat:=fun a=>if a = 1000000 then some j else none
 have s1:∀ {a x:Nat},rho a = some x→a = 1000000∧x = j:=fun {a x} h=>by
  have h:(if a = 1000000 then some j else none) = some x:=h
  split at h
  ·cases h;exact ⟨‹_›,rfl⟩
  ·cases h
 refine ⟨_,_,_,rho,fun _=>False,hc,.one (.own rfl rfl (by rw [hj]) rfl) (.one (.v _) (.one (.v _) .nil)),⟨fun a ha=>?_,fun a a' x ha ha' _ _=>(zBb ha).trans (zBb ha').symm,fun _ _ _ _ h=>h⟩,fun R1 p ⟨v,hv,e0,e1⟩=>?_⟩
 ·have:=zBb ha
  subst this
  exact ⟨Nat.le_refl _,Nat.one_pos,j,rfl,by rw [hj];exact ⟨rfl,rfl,rfl,zvS _⟩⟩
 ·subst e0
  refine ⟨rho,fun _=>vj + (v - 1),true,⟨fun _ _=>rfl,fun a a' x h h'=>(s1 h).1.trans (s1 h').1.symm,fun a x h _ hver=>?_,fun a x h hn=>?_,fun _ _ h=>h⟩,fun S hS=>?_⟩
  ·obtain ⟨rfl,rfl⟩:=s1 h
   rw [e1] at hver
   have:v = 1:=hver
   subst this
   rw [hj];rfl
  ·obtain ⟨rfl,rfl⟩:=s1 h
   have:=hn rfl
   rw [e1] at this
   have:v ≠ 1:=this
   rw [hj]
   show vj < vj + (v - 1)
   omega
  ·have e:S = (s.row j ⟨vj + (v - 1),.sli 9 1 false (sL out)⟩).put (some d) (.own j (vj + (v - 1))):=by
    refine St.ext2 (fun i=>?_) fun a=>?_
    ·rw [hS.sl]
     have hr2:zFk rho R1 (fun _=>vj + (v - 1)) true (.own 1000000 v) = .own j (vj + (v - 1)):=by
      show zxy rho R1 (fun _=>vj + (v - 1)) true (.own 1000000 v) = _
      rw [zeG,e1]
      show (match some j,v == v with | some j,true=>PV.own j (vj + (v - 1)) | _,_=>.junk) = _
      rw [beq_self_eq_true]
     rw [hr2]
     by_cases e:i = d
     ·subst e;rw [zay,zay]
     ·rw [zaO _ _ _ _ e,zaO _ _ _ _ e];rfl
    ·rw [zeY]
     by_cases e:a = j
     ·subst e;rw [zaF,hS.row 1000000 a rfl,e1];rfl
     ·rw [zas _ _ _ _ e]
      exact hS.off a fun b hb=>e (s1 hb).2
   rw [e];exact hK _
noncomputable def zCB (n:Int) (xs:List Int):List ByteArray :=
 adL (adL (adL (adL (adL (adL (adL [] (puB n xs) ⟨#[112,117,114,101]⟩) (zwH n xs).isSome ⟨#[115,104,101,108,108,97,98,108,101]⟩) (zDv n xs) ⟨#[100,101,99,111,109,112,111,115,97,98,108,101]⟩) (cmO n xs 2) ⟨#[102,117,108,108]⟩) (zDz n xs) ⟨#[102,108,97,103]⟩) (zmj n xs) ⟨#[99,108,111,115,101,100]⟩) (zDw n xs) ⟨#[98,97,108,97,110,99,101,100]⟩
noncomputable def zDp (n:Int) (xs:List Int):ByteArray:=if zaL n xs = true then (if (zCB n xs).length = 0 then ⟨#[45]⟩ else zgU (zCB n xs) ⟨#[32]⟩) else ⟨#[]⟩
def adK (k:Nat) (ws:List ByteArray):Prop:=ws.length ≤ k∧∀ w ∈ ws,w.size ≤ 12
theorem zts:adK 0 []:=⟨Nat.le_refl _,fun _ h=>by cases h⟩
theorem zbv {k:Nat} {ws:List ByteArray} (h:adK k ws) (b:Bool) {w:ByteArray} (hw:w.size ≤ 12):adK (k + 1) (adL ws b w):=by
 unfold adL
 cases b
 ·exact ⟨Nat.le_succ_of_le h.1,h.2⟩
 ·refine ⟨by rw [if_pos rfl,List.length_append,List.length_singleton];have:=h.1;omega,fun x hx=>?_⟩
  rw [if_pos rfl] at hx
  rcases List.mem_append.1 hx with hx | hx
  ·exact h.2 x hx
  ·rw [List.mem_singleton.1 hx];exact hw
theorem ztt {m:Nat} {l:List ByteArray} {sep:ByteArray} (h:∀ i,i < l.length→(l.getD i ⟨#[]⟩).size ≤ m) (hs:sep.size ≤ 1):∀ i,i ≤ l.length→(zci l sep i).size ≤ (m + 1) * i:=by
 intro i
 induction i with
 | zero=>intro _;exact Nat.le_refl _
 | succ i ih =>
   intro hi
   have h1:=ih (by omega)
   have h2:=h i (by omega)
   have e:(m + 1) * (i + 1) = (m + 1) * i + (m + 1):=Nat.mul_succ _ _
   unfold zci
   rw [ByteArray.size_append]
   split
   ·omega
   ·rw [ByteArray.size_append];omega
theorem zFA (n:Int) (xs:List Int):adK 7 (zCB n xs):=zbv (zbv (zbv (zbv (zbv (zbv (zbv zts _ (by decide)) _ (by decide)) _ (by decide)) _ (by decide)) _ (by decide)) _ (by decide)) _ (by decide)
theorem zpe (n:Int) (xs:List Int):(∀ i,i ≤ (zCB n xs).length→(zci (zCB n xs) ⟨#[32]⟩ i).size ≤ 13 * i)∧zci (zCB n xs) ⟨#[32]⟩ (zCB n xs).length = zgU (zCB n xs) ⟨#[32]⟩ :=
 ⟨ztt (fun i hi=>(zFA n xs).2 _ (zaj ⟨#[]⟩ hi)) (Nat.le_refl 1),by rw [zdt _ _ _ (Nat.le_refl _),List.take_length]⟩
theorem zjt (n:Int) (xs:List Int):AC Tryz.prog 22 [.ag [int n,zax xs]] (.im (str (zDp n xs))):=by
 refine AC.go (rs:=[.tmp 2]) zaD mixed Tryz.func22 rfl rfl rfl (by kernel_rfl) fun hl=>?_
 simp -dsimp only [↓gp,gq,simprocAttr,gT]
 refine zab (zaq n xs) ?_
 simp -dsimp only [↓gp,gq,simprocAttr,gT]
 unfold zDp
 refine ⟨fun hc=>?_,fun hc=>?_⟩
 ·rw [if_neg (by intro h;rw [h] at hc;cases hc)]
 have hc:zaL n xs = true:=by simpa using hc
 rw [if_pos hc]
 have hxl:=zdZ hc
 refine zab (zeS n xs) ?_
 simp -dsimp only [↓gp,gq,simprocAttr,gT]
 refine zeJ true 90 0 (zcS true [] (fun _=>rfl) (by decide) (puB n xs) ⟨#[112,117,114,101]⟩) (by simp -dsimp only [gr,simprocAttr]) (.inl ⟨rfl,rfl⟩) (by decide) fun v1=>?_
 obtain ⟨W1,hW1⟩:∃ W,W = adL [] (puB n xs) ⟨#[112,117,114,101]⟩:=⟨_,rfl⟩
 rw [← hW1]
 have hk1:adK 1 W1:=hW1 ▸ zbv zts _ (by decide)
 simp -dsimp only [↓gp,gq,simprocAttr,gT]
 refine zab (zhN n xs) ?_
 simp -dsimp only [↓gp,gq,simprocAttr,gT]
 refine zeJ false 90 v1 (zcS false W1 (fun h=>by cases h) (by have:=hk1.1;omega) ((zwH n xs).isSome) ⟨#[115,104,101,108,108,97,98,108,101]⟩) (by simp -dsimp only [gr,simprocAttr]) (.inr ⟨rfl,rfl,by simp -dsimp only [gr,simprocAttr]⟩) (by decide) fun v2=>?_
 obtain ⟨W2,hW2⟩:∃ W,W = adL W1 ((zwH n xs).isSome) ⟨#[115,104,101,108,108,97,98,108,101]⟩:=⟨_,rfl⟩
 rw [← hW2]
 have hk2:adK 2 W2:=hW2 ▸ zbv hk1 _ (by decide)
 simp -dsimp only [↓gp,gq,simprocAttr,gT]
 refine zab (zfI n xs) ?_
 simp -dsimp only [↓gp,gq,simprocAttr,gT]
 refine zeJ false 90 v2 (zcS false W2 (fun h=>by cases h) (by have:=hk2.1;omega) (zDv n xs) ⟨#[100,101,99,111,109,112,111,115,97,98,108,101]⟩) (by simp -dsimp only [gr,simprocAttr]) (.inr ⟨rfl,rfl,by simp -dsimp only [gr,simprocAttr]⟩) (by decide) fun v3=>?_
 obtain ⟨W3,hW3⟩:∃ W,W = adL W2 (zDv n xs) ⟨#[100,101,99,111,109,112,111,115,97,98,108,101]⟩:=⟨_,rfl⟩
 rw [← hW3]
 have hk3:adK 3 W3:=hW3 ▸ zbv hk2 _ (by decide)
 simp -dsimp only [↓gp,gq,simprocAttr,gT]
 refine zab (zfk n xs 2) ?_
 simp -dsimp only [↓gp,gq,simprocAttr,gT]
 refine zeJ false 90 v3 (zcS false W3 (fun h=>by cases h) (by have:=hk3.1;omega) (cmO n xs 2) ⟨#[102,117,108,108]⟩) (by simp -dsimp only [gr,simprocAttr]) (.inr ⟨rfl,rfl,by simp -dsimp only [gr,simprocAttr]⟩) (by decide) fun v4=>?_
 obtain ⟨W4,hW4⟩:∃ W,W = adL W3 (cmO n xs 2) ⟨#[102,117,108,108]⟩:=⟨_,rfl⟩
 rw [← hW4]
 have hk4:adK 4 W4:=hW4 ▸ zbv hk3 _ (by decide)
 simp -dsimp only [↓gp,gq,simprocAttr,gT]
 refine zab (zph n xs) ?_
 simp -dsimp only [↓gp,gq,simprocAttr,gT]
 refine zeJ false 90 v4 (zcS false W4 (fun h=>by cases h) (by have:=hk4.1;omega) (zDz n xs) ⟨#[102,108,97,103]⟩) (by simp -dsimp only [gr,simprocAttr]) (.inr ⟨rfl,rfl,by simp -dsimp only [gr,simprocAttr]⟩) (by decide) fun v5=>?_
 obtain ⟨W5,hW5⟩:∃ W,W = adL W4 (zDz n xs) ⟨#[102,108,97,103]⟩:=⟨_,rfl⟩
 rw [← hW5]
 have hk5:adK 5 W5:=hW5 ▸ zbv hk4 _ (by decide)
 simp -dsimp only [↓gp,gq,simprocAttr,gT]
 refine zab (zdL n xs (by omega)) ?_
 simp -dsimp only [↓gp,gq,simprocAttr,gT]
 refine zeJ false 90 v5 (zcS false W5 (fun h=>by cases h) (by have:=hk5.1;omega) (zmj n xs) ⟨#[99,108,111,115,101,100]⟩) (by simp -dsimp only [gr,simprocAttr]) (.inr ⟨rfl,rfl,by simp -dsimp only [gr,simprocAttr]⟩) (by decide) fun v6=>?_
 obtain ⟨W6,hW6⟩:∃ W,W = adL W5 (zmj n xs) ⟨#[99,108,111,115,101,100]⟩:=⟨_,rfl⟩
 rw [← hW6]
 have hk6:adK 6 W6:=hW6 ▸ zbv hk5 _ (by decide)
 simp -dsimp only [↓gp,gq,simprocAttr,gT]
 refine zab (ziu n xs) ?_
 simp -dsimp only [↓gp,gq,simprocAttr,gT]
 refine zeJ false 90 v6 (zcS false W6 (fun h=>by cases h) (by have:=hk6.1;omega) (zDw n xs) ⟨#[98,97,108,97,110,99,101,100]⟩) (by simp -dsimp only [gr,simprocAttr]) (.inr ⟨rfl,rfl,by simp -dsimp only [gr,simprocAttr]⟩) (by decide) fun v7=>?_
 obtain ⟨W7,hW7⟩:∃ W,W = adL W6 (zDw n xs) ⟨#[98,97,108,97,110,99,101,100]⟩:=⟨_,rfl⟩
 rw [← hW7]
 have hk7:adK 7 W7:=hW7 ▸ zbv hk6 _ (by decide)
 simp -dsimp only [↓gp,gq,simprocAttr,gT]
 have hW:W7 = zCB n xs:=by rw [hW7,hW6,hW5,hW4,hW3,hW2,hW1];rfl
 obtain ⟨j1,j2⟩:=zpe n xs
 rw [← hW] at j1 j2 ⊢
 have hl7:=hk7.1
 refine ⟨fun h=>?_,fun h=>?_⟩
 ·rw [if_pos (by have:=beq_iff_eq.1 h;omega)]
 ·rw [if_neg (by intro e;rw [e] at h;cases h)]
  have j3:=j1 W7.length (Nat.le_refl _)
  rw [j2] at j3
  refine zab (zc5 W7 ⟨#[32]⟩ (by omega) (by omega)) ?_
  simp -dsimp only [↓gp,gq,simprocAttr,gT]
theorem zju (n:Int) (xs:List Int):AC Tryz.prog 23 [.ag [int n,zax xs]] (.im (str (zDp n xs))):=by
 refine AC.go (rs:=[.tmp 2]) zaD mixed Tryz.func23 rfl rfl rfl (by kernel_rfl) fun hl=>?_
 simp -dsimp only [↓gp,gq,simprocAttr,gT]
 refine zab (zaE n xs) ?_
 simp -dsimp only [↓gp,gq,simprocAttr,gT]
 unfold zDp
 refine ⟨fun hc=>?_,fun hc=>?_⟩
 ·rw [if_neg (by intro h;rw [h] at hc;cases hc)]
 have hc:zaL n xs = true:=by simpa using hc
 rw [if_pos hc]
 have hxl:=zdZ hc
 refine zab (zeR n xs) ?_
 simp -dsimp only [↓gp,gq,simprocAttr,gT]
 refine zeK (zbO [] (by decide) (puB n xs) ⟨#[112,117,114,101]⟩) (by simp -dsimp only [gr,simprocAttr] <;> rfl) fun v1=>?_
 obtain ⟨W1,hW1⟩:∃ W,W = adL [] (puB n xs) ⟨#[112,117,114,101]⟩:=⟨_,rfl⟩
 rw [← hW1]
 have hk1:adK 1 W1:=hW1 ▸ zbv zts _ (by decide)
 simp -dsimp only [↓gp,gq,simprocAttr,gT]
 refine zab (zhZ n xs) ?_
 simp -dsimp only [↓gp,gq,simprocAttr,gT]
 refine zeK (zbO W1 (by have:=hk1.1;omega) ((zwH n xs).isSome) ⟨#[115,104,101,108,108,97,98,108,101]⟩) (by simp -dsimp only [gr,simprocAttr] <;> rfl) fun v2=>?_
 obtain ⟨W2,hW2⟩:∃ W,W = adL W1 ((zwH n xs).isSome) ⟨#[115,104,101,108,108,97,98,108,101]⟩:=⟨_,rfl⟩
 rw [← hW2]
 have hk2:adK 2 W2:=hW2 ▸ zbv hk1 _ (by decide)
 simp -dsimp only [↓gp,gq,simprocAttr,gT]
 refine zab (zfJ n xs) ?_
 simp -dsimp only [↓gp,gq,simprocAttr,gT]
 refine zeK (zbO W2 (by have:=hk2.1;omega) (zDv n xs) ⟨#[100,101,99,111,109,112,111,115,97,98,108,101]⟩) (by simp -dsimp only [gr,simprocAttr] <;> rfl) fun v3=>?_
 obtain ⟨W3,hW3⟩:∃ W,W = adL W2 (zDv n xs) ⟨#[100,101,99,111,109,112,111,115,97,98,108,101]⟩:=⟨_,rfl⟩
 rw [← hW3]
 have hk3:adK 3 W3:=hW3 ▸ zbv hk2 _ (by decide)
 simp -dsimp only [↓gp,gq,simprocAttr,gT]
 refine zab (zfl n xs 2) ?_
 simp -dsimp only [↓gp,gq,simprocAttr,gT]
 refine zeK (zbO W3 (by have:=hk3.1;omega) (cmO n xs 2) ⟨#[102,117,108,108]⟩) (by simp -dsimp only [gr,simprocAttr] <;> rfl) fun v4=>?_
 obtain ⟨W4,hW4⟩:∃ W,W = adL W3 (cmO n xs 2) ⟨#[102,117,108,108]⟩:=⟨_,rfl⟩
 rw [← hW4]
 have hk4:adK 4 W4:=hW4 ▸ zbv hk3 _ (by decide)
 simp -dsimp only [↓gp,gq,simprocAttr,gT]
 refine zab (zpi n xs) ?_
 simp -dsimp only [↓gp,gq,simprocAttr,gT]
 refine zeK (zbO W4 (by have:=hk4.1;omega) (zDz n xs) ⟨#[102,108,97,103]⟩) (by simp -dsimp only [gr,simprocAttr] <;> rfl) fun v5=>?_
 obtain ⟨W5,hW5⟩:∃ W,W = adL W4 (zDz n xs) ⟨#[102,108,97,103]⟩:=⟨_,rfl⟩
 rw [← hW5]
 have hk5:adK 5 W5:=hW5 ▸ zbv hk4 _ (by decide)
 simp -dsimp only [↓gp,gq,simprocAttr,gT]
 refine zab (zdM n xs (by omega)) ?_
 simp -dsimp only [↓gp,gq,simprocAttr,gT]
 refine zeK (zbO W5 (by have:=hk5.1;omega) (zmj n xs) ⟨#[99,108,111,115,101,100]⟩) (by simp -dsimp only [gr,simprocAttr] <;> rfl) fun v6=>?_
 obtain ⟨W6,hW6⟩:∃ W,W = adL W5 (zmj n xs) ⟨#[99,108,111,115,101,100]⟩:=⟨_,rfl⟩
 rw [← hW6]
 have hk6:adK 6 W6:=hW6 ▸ zbv hk5 _ (by decide)
 simp -dsimp only [↓gp,gq,simprocAttr,gT]
 refine zab (ziv n xs) ?_
 simp -dsimp only [↓gp,gq,simprocAttr,gT]
 refine zeK (zbO W6 (by have:=hk6.1;omega) (zDw n xs) ⟨#[98,97,108,97,110,99,101,100]⟩) (by simp -dsimp only [gr,simprocAttr] <;> rfl) fun v7=>?_
 obtain ⟨W7,hW7⟩:∃ W,W = adL W6 (zDw n xs) ⟨#[98,97,108,97,110,99,101,100]⟩:=⟨_,rfl⟩
 rw [← hW7]
 have hk7:adK 7 W7:=hW7 ▸ zbv hk6 _ (by decide)
 simp -dsimp only [↓gp,gq,simprocAttr,gT]
 have hW:W7 = zCB n xs:=by rw [hW7,hW6,hW5,hW4,hW3,hW2,hW1];rfl
 obtain ⟨j1,j2⟩:=zpe n xs
 rw [← hW] at j1 j2 ⊢
 have hl7:=hk7.1
 refine ⟨fun h=>?_,fun h=>?_⟩
 ·rw [if_pos (by have:=beq_iff_eq.1 h;omega)]
 ·rw [if_neg (by intro e;rw [e] at h;cases h)]
  refine zab (zgT W7 ⟨#[32]⟩ (by omega) (fun i hi=>by
   have:=j1 i hi
   have e:(ByteArray.mk #[32]).size = 1:=rfl
   omega)) ?_
  rw [j2]
  simp -dsimp only [↓gp,gq,simprocAttr,gT]
theorem zd0 (f:Nat→Bool):AC Tryz.prog 95 [u64 (zaB f 64:Nat)] (.fr 3 1 (iL (zfj f))):=by
 refine AC.go (rs:=[.tmp 2]) zaD mixed Tryz.func95 rfl rfl rfl (by kernel_rfl) fun hl=>?_
 have hd:=zbj f
 simp -dsimp only [↓gp,gq,simprocAttr,gT]
 refine zab (zhP f) ?_
 have hsl:=zeM f
 have hfl:=zbQ f
 simp -dsimp only [↓gp,gq,simprocAttr,gT,hsl]
 refine zah (fun (za:Nat × Nat) s=>match za with | (k,v)=>s.sl 3 = .own 3 v∧s.rw 3 = ⟨v,.sli 3 1 false (iL ((zfj f).take k))⟩∧s.sl 7 = .own 7 1∧s.rw 7 = ⟨1,.sli 22 1 false (iLL (zeo f))⟩∧s.sl 8 = int (za8 f)∧s.sl 9 = int k∧(k ≤ za8 f)) (fun (k,v)=>za8 f - k) ((0,1)) (by refine ⟨?_,?_,?_,?_,?_,?_,by simp⟩ <;> (first | (simp -dsimp only [gr,simprocAttr,hsl];first | done | rfl | (simp;done)) | assumption | rfl)) ?_
 intro (k,v) sa ⟨h3a,r3a,h7a,r7a,h8a,h9a,hIa⟩
 simp -dsimp only [↓gp,gq,simprocAttr,gT,h3a,r3a,h7a,r7a,h8a,h9a,hsl]
 refine ⟨fun h=>⟨h,h,?_⟩,fun h=>?_⟩
 ·have hg:=zdH f h
  have hol:=zbA f k (Nat.le_refl 64)
  have e:(zfj f).take (k + 1) = (zfj f).take k ++ [((zaQ f k 64).length:Int)]:=by
   rw [zau 0 (by omega),zeq f h]
  have hl2:((zfj f).take k).length ≤ 7:=by simp;omega
  simp -dsimp only [↓gp,gq,simprocAttr,gT,h3a,r3a,h7a,r7a,h8a,h9a,hsl,hg,zad]
  refine ⟨by omega,?_⟩
  exact zac ((k + 1,v + 1)) (by refine ⟨?_,?_,?_,?_,?_,?_,by dsimp only;omega⟩ <;> (first | (simp -dsimp only [gr,simprocAttr,h3a,r3a,h7a,r7a,h8a,h9a,hg,zad,e,zaa h (by omega)];first | done | rfl | (simp;done)) | assumption | rfl)) (by first | omega | (simp only;omega) | (dsimp only;omega) | (show _ < _;simp;omega))
 ·have:k = (zfj f).length:=by omega
  rw [this,List.take_length] at r3a
  rw [this,List.take_length]
noncomputable def fcR (n:Int) (xs:List Int):List Int:=if zaL n xs = true then zfj (zag xs) else []
theorem zeu (n:Int) (xs:List Int):AC Tryz.prog 38 [.ag [int n,zax xs]] (.fr 3 1 (iL (fcR n xs))):=by
 refine AC.go (rs:=[.tmp 2]) zaD mixed Tryz.func38 rfl rfl rfl (by kernel_rfl) fun hl=>?_
 simp -dsimp only [↓gp,gq,simprocAttr,gT]
 refine zab (zaq n xs) ?_
 simp -dsimp only [↓gp,gq,simprocAttr,gT]
 refine ⟨fun hh=>?_,fun hh=>?_⟩
 ·have hh:zaL n xs = false:=by simpa using hh
  have:fcR n xs = []:=by unfold fcR;rw [if_neg (by rw [hh];decide)]
  rw [this];rfl
 ·have hh:zaL n xs = true:=by simpa using hh
  have:fcR n xs = zfj (zag xs):=if_pos hh
  rw [this]
  refine zab (zaW n xs (zb4 hh)) ?_
  simp -dsimp only [↓gp,gq,simprocAttr,gT]
  refine zab (zd0 _) ?_
  simp -dsimp only [↓gp,gq,simprocAttr,gT]
end Go.Proofs.YtkledeboboplmaaGreatDoor

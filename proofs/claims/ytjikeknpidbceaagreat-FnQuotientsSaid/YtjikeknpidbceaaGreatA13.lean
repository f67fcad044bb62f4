/- DERIVED by an AI agent. -/
import Derived.Test.YtjikeknpidbceaaGreatA12
/- DERIVED by an AI agent. Tables whose rows are appended to. No program in sight. -/
namespace Go.Abs
set_option linter.unusedSimpArgs false
set_option linter.unusedVariables false
def zdL (k n:Nat) (g:Nat→Nat):List PV:=(List.range n).map fun j=>.own (sid k j) (g j)
theorem zmW (k n:Nat) (g:Nat→Nat):(zdL k n g).length = n:=by simp [zdL]
structure TabF (rw:Nat→Row) (k v e e2 n:Nat) (g:Nat→Nat) (M:Nat→List Int):Prop where
 top:rw k = ⟨v,.tab e (zdL k n g)⟩
 row:∀ j,j < n→rw (sid k j) = ⟨g j,.sli e2 1 false (iL (M j))⟩
section
variable {s:St} {rw rw':Nat→Row} {k v e e2 n:Nat} {g:Nat→Nat} {M:Nat→List Int}
theorem TabF.same (h:TabF rw k v e e2 n g M) (h1:rw' k = rw k) (h2:∀ x,rw' (sid k x) = rw (sid k x)):TabF rw' k v e e2 n g M:=⟨h1.trans h.top,fun j hj=>(h2 j).trans (h.row j hj)⟩
theorem TabF.add (h:TabF rw k v e e2 n g M) {o:Nat} (ho:o < n) {r:List Int} {g':Nat→Nat} {M':Nat→List Int} (h1:rw' k = ⟨v,.tab e (spl (zdL k n g) o [.own (sid k o) (g o + 1)])⟩) (h2:rw' (sid k o) = ⟨g o + 1,.sli e2 1 false (iL r)⟩)
 (h3:∀ x,¬ x = o→rw' (sid k x) = rw (sid k x)) (hg:∀ j,j < n→g' j = if j = o then g o + 1 else g j) (hM:∀ j,j < n→M' j = if j = o then r else M j):TabF rw' k v e e2 n g' M':=by
 refine ⟨?_,fun j hj=>?_⟩
 ·rw [h1]
  congr 2
  show (zdL k n g).set o _ = _
  refine List.ext_getElem (by simp [zdL]) fun j a b=>?_
  have hj:j < n:=by simpa [zdL] using b
  rw [List.getElem_set]
  simp only [zdL,List.getElem_map,List.getElem_range,hg j hj]
  by_cases e:o = j
  ·subst e;simp
  ·rw [if_neg e,if_neg (Ne.symm e)]
 ·rw [hg j hj,hM j hj]
  by_cases e:j = o
  ·subst e;rw [if_pos rfl,if_pos rfl,h2]
  ·rw [if_neg e,if_neg e,h3 j e,h.row j hj]
theorem TabF.init [zag] (e2:Nat) (hk:s.rw k = ⟨v,.sli e 1 false (List.replicate n (.v (.slice none 0 0)))⟩) (hd:∀ j,s.rw (sid k j) = ⟨0,.dead⟩) :
 ∃ s',Wk s s'∧TabF s'.rw k v e e2 n (fun _=>1) (fun _=>[])∧s'.sl = s.sl∧∀ j,(j % 1000 == k % 1000) = false→s'.rw j = s.rw j:=by
 let R':(Nat→Row)→Nat→Row:=fun R j=>if j = k then ⟨v,.tab e (zdL k n fun _=>1)⟩ else if k < j∧(j - k) % 1000 = 0∧(j - k) / 1000 - 1 < n then ⟨1,.sli e2 1 false []⟩ else R j
 have Rk:∀ R,R' R k = ⟨v,.tab e (zdL k n fun _=>1)⟩:=fun R=>by simp only [R',if_true]
 have Rs:∀ R j,j < n→R' R (sid k j) = ⟨1,.sli e2 1 false []⟩:=fun R j hj=>by
  have h1:¬ sid k j = k:=zcR k j
  have h2:k < sid k j∧(sid k j - k) % 1000 = 0∧(sid k j - k) / 1000 - 1 < n:=by rw [zbq];omega
  simp only [R',if_neg h1,if_pos h2]
 have Ro:∀ R j,¬ (j = k ∨ ∃ i,i < n∧j = sid k i)→R' R j = R j:=fun R j hj=>by
  have h1:¬ j = k:=fun h=>hj (.inl h)
  have h2:¬ (k < j∧(j - k) % 1000 = 0∧(j - k) / 1000 - 1 < n):=fun h=>hj (.inr ⟨_,h.2.2,by rw [zbq];omega⟩)
  simp only [R',if_neg h1,if_neg h2]
 refine ⟨{ s with rw:=R' s.rw },?_,⟨Rk _,fun j hj=>Rs _ j hj⟩,rfl,fun j hj=>?_⟩
 ·intro G a w ⟨E,hs⟩
  have hR:E.R k = ⟨v,.sli e 1 false (List.replicate n (.v (.slice none 0 0)))⟩:=by rw [hs.rw];exact hk
  have hD:∀ j,E.R (sid k j) = ⟨0,.dead⟩:=fun j=>by rw [hs.rw];exact hd j
  let rm':Nat→Option Nat:=fun j=>if j = k then E.rm k else if k < j∧(j - k) % 1000 = 0∧(j - k) / 1000 - 1 < n then none else E.rm j
  let rv':Nat→Value:=fun j=>if j = k then E.rv k else if k < j∧(j - k) % 1000 = 0∧(j - k) / 1000 - 1 < n then .slice none 0 0 else E.rv j
  have Mk:rm' k = E.rm k:=by simp only [rm',if_true]
  have Vk:rv' k = E.rv k:=by simp only [rv',if_true]
  have cond:∀ j,j < n→¬ sid k j = k∧(k < sid k j∧(sid k j - k) % 1000 = 0∧(sid k j - k) / 1000 - 1 < n):=fun j hj=>⟨zcR k j,by rw [zbq];omega⟩
  have Ms:∀ j,j < n→rm' (sid k j) = none:=fun j hj=>by simp only [rm',if_neg (cond j hj).1,if_pos (cond j hj).2]
  have Vs:∀ j,j < n→rv' (sid k j) = .slice none 0 0:=fun j hj=>by simp only [rv',if_neg (cond j hj).1,if_pos (cond j hj).2]
  have out:∀ j,¬ (j = k ∨ ∃ i,i < n∧j = sid k i)→rm' j = E.rm j∧rv' j = E.rv j:=fun j hj=>by
   have h1:¬ j = k:=fun h=>hj (.inl h)
   have h2:¬ (k < j∧(j - k) % 1000 = 0∧(j - k) / 1000 - 1 < n):=fun h=>hj (.inr ⟨_,h.2.2,by rw [zbq];omega⟩)
   simp only [rm',rv',if_neg h1,if_neg h2,and_self]
  let E':Env:={ R:=R' E.R,rm:=rm',rv:=rv',L:=mkL E.X (R' E.R) rm',B:=E.B,X:=E.X }
  have ht:Turn G E E' w w (fun j=>j = k ∨ ∃ i,i < n∧j = sid k i):=by
   refine ⟨rfl,rfl,rfl,fun j hj=>⟨Ro _ j hj,(out j hj).1,(out j hj).2⟩,fun _ _ _=>rfl,fun j b hj hb hn=>?_,fun j hj=>?_,fun j hj he hsl=>?_,fun j hj he hsl=>?_,fun j hj hn=>?_,fun j j' b hj hj' h1 h2 e1 e2=>?_,Nat.le_refl _,rfl,rfl,⟨rfl,fun _=>by first | exact Nat.le_refl _ | exact Nat.le_succ _⟩⟩
   ·rcases hj with rfl | ⟨i,hi,rfl⟩
    ·have hb:rm' j = some b:=hb
     rw [Mk] at hb
     exact .inr ⟨hb,by rw [hR];rfl,fun _=>by rw [hR];rfl⟩
    ·have hb:rm' (sid k i) = some b:=hb
     rw [Ms i hi] at hb;cases hb
   ·show _ ≤ (R' E.R j).ver
    rcases hj with rfl | ⟨i,hi,rfl⟩
    ·rw [Rk,hR];exact Nat.le_refl _
    ·rw [Rs _ i hi,hD];exact Nat.zero_le _
   ·have he:(R' E.R j).ver = (E.R j).ver:=he
    rcases hj with rfl | ⟨i,hi,rfl⟩
    ·exact ⟨by rw [hR];rfl,Vk⟩
    ·rw [Rs _ i hi,hD] at he;cases he
   ·have he:(R' E.R j).ver = (E.R j).ver:=he
    rcases hj with rfl | ⟨i,hi,rfl⟩
    ·exact ⟨by rw [hR];rfl,Mk⟩
    ·rw [Rs _ i hi,hD] at he;cases he
   ·show 0 < (R' E.R j).ver
    rcases hj with rfl | ⟨i,hi,rfl⟩
    ·have:=hs.wok.pos j (by rw [hR];rfl)
     rw [hR] at this
     rw [Rk];exact this
    ·rw [Rs _ i hi];exact Nat.one_pos
   ·have e1:rm' j = some b:=e1
    have e2:rm' j' = some b:=e2
    rcases hj with rfl | ⟨i,hi,rfl⟩
    ·rcases hj' with rfl | ⟨i',hi',rfl⟩
     ·rfl
     ·rw [Ms i' hi'] at e2;cases e2
    ·rw [Ms i hi] at e1;cases e1
  have hrows:∀ j,(j = k ∨ ∃ i,i < n∧j = sid k i)→zas w E' G.C j:=by
   intro j hj
   unfold zas
   show match (R' E.R j).kind with | .dead=>True | .nil=>_ | .box t cells=>_ | .sli e sz _ cells=>_ | .tab e cells=>_
   rcases hj with rfl | ⟨i,hi,rfl⟩
   ·have hrow:=hs.wok.rows j
    unfold zas at hrow
    rw [hR] at hrow
    rw [Rk]
    show (rm' j = none∧rv' j = _∧_) ∨ _
    rw [Mk,Vk]
    rcases hrow with ⟨h1,h2,h3⟩ | ⟨b,m,cap,vs,rest,h1,h2,h3,h4,h5,h6,h7,h8,h9⟩
    ·refine .inl ⟨h1,h2,?_⟩
     have:n = 0:=by simpa using congrArg List.length h3
     subst this;rfl
    ·refine .inr ⟨b,m,cap,vs,rest,Mk.trans h1,h2,Vk.trans h3,h4,by omega,h6,h7,by omega,by rw [zmW,← h9.1];simp,fun i a' b'=>?_⟩
     have hi:i < n:=by simpa [zdL] using a'
     have h0:=h9.2 i (by simpa using hi) b'
     have e1:(zdL j n fun _=>1)[i] = .own (sid j i) 1:=by simp [zdL]
     have hv:vs[i] = .slice none 0 0:=by
      simp only [List.getElem_replicate] at h0
      exact h0.v_eq
     rw [e1,hv]
     refine .own ?_ fun _ _=>?_
     ·show 1 ≤ (R' E.R (sid j i)).ver
      rw [Rs _ i hi];exact Nat.le_refl _
     ·exact (Vs i hi).symm
   ·rw [Rs _ i hi]
    exact .inl ⟨Ms i hi,Vs i hi,rfl⟩
  have key:SimE G E' ({ s with rw:=R' E.R }:St) a w:=ht.sim hs hrows
  rw [hs.rw] at key
  exact ⟨_,key⟩
 ·have hj:=beq_eq_false_iff_ne.1 hj
  refine Ro _ j fun h=>hj ?_
  rcases h with rfl | ⟨i,_,rfl⟩
  ·rfl
  ·exact zaa _ _
variable {Q:AX→St→Prop}
end
end Go.Abs

/- DERIVED by an AI agent. Functions that are given a table and hand it back longer. No program in sight. -/
namespace Go.Abs
set_option linter.unusedSimpArgs false
set_option linter.unusedVariables false
structure TabU (rw:Nat→Row) (k v e e2:Nat) (ids:List (Nat × Nat)) (M:Mat):Prop where
 top:rw k = ⟨v,.tab e (ids.map fun x=>.own x.1 x.2)⟩
 len:ids.length = M.length
 row:∀ i (h:i < ids.length),rw ids[i].1 = ⟨ids[i].2,.sli e2 1 false (iL (M.getD i []))⟩
 nd:(k :: ids.map (·.1)).Nodup
def zt8 (e e2 n:Nat) (M':Mat) (R1:Nat→Row) (p:PV):Prop :=
 ∃ (v:Nat) (ids:List (Nat × Nat)),p = .own lent v∧TabU R1 lent v e e2 ids M'∧n ≤ ids.length∧∀ i (_:i < n) (h:i < ids.length),ids[i] = (sid lent i,1)
def AGr [zag] (P:Program) (f:FuncId) (args:List PV) (e e2:Nat) (M M':Mat):Prop:=AG P f args (inT e e2 (M.map iL)) (zt8 e e2 M.length M')
theorem zE8 {l:List Nat} (h:l.Nodup) {i j:Nat} (hi:i < l.length) (hj:j < l.length) (e:l[i] = l[j]):i = j:=(List.getElem_inj (h₀:=hi) (h₁:=hj) h).1 e
section
variable {R1:Nat→Row} {k v e e2 n:Nat} {ids:List (Nat × Nat)} {M:Mat}
theorem TabU.inj [zag] (h:TabU R1 k v e e2 ids M) {i j:Nat} (hi:i < ids.length) (hj:j < ids.length) (he:ids[i].1 = ids[j].1):i = j :=
 zE8 (List.nodup_cons.1 h.nd).2 (by simpa using hi) (by simpa using hj) (by simpa using he)
theorem TabU.ne (h:TabU R1 k v e e2 ids M) {i:Nat} (hi:i < ids.length):ids[i].1 ≠ k:=fun he =>
 (List.nodup_cons.1 h.nd).1 (List.mem_map.2 ⟨_,List.getElem_mem hi,he⟩)
def zCt (k n j:Nat):Option Nat:=if j = lent then some k else if lent < j∧(j - lent) % 1000 = 0∧(j - lent) / 1000 - 1 < n then some (sid k ((j - lent) / 1000 - 1)) else none
theorem zAM (k n:Nat):zCt k n lent = some k:=by unfold zCt;rw [if_pos rfl]
theorem zt9 [zag] (k:Nat) {n i:Nat} (h:i < n):zCt k n (sid lent i) = some (sid k i):=by
 obtain ⟨h1,h2,h3⟩:=zjz i
 unfold zCt;rw [if_neg (by omega),if_pos ⟨h1,h2,by omega⟩,h3]
theorem zjV [zag] {k n j i:Nat} (h:zCt k n j = some i):(j = lent∧i = k) ∨ ∃ x,x < n∧j = sid lent x∧i = sid k x:=by
 unfold zCt at h
 split at h
 ·cases h;exact .inl ⟨‹_›,rfl⟩
 ·split at h
  ·rename_i h2
   cases h
   exact .inr ⟨_,h2.2.2,by rw [zbq];omega,rfl⟩
  ·cases h
structure TabH (rw:Nat→Row) (k v e e2 n:Nat) (M:Mat):Prop where
 top:rw k = ⟨v,.tab e (zax k (List.range n))⟩ ∨ (n = 0∧rw k = ⟨v,.sli e 1 false []⟩)
 len:M.length = n
 row:∀ j,j < n→rw (sid k j) = ⟨1,.sli e2 1 false (iL (M.getD j []))⟩
 rest:∀ j,n ≤ j→rw (sid k j) = ⟨0,.dead⟩
theorem TabH.ver {rw:Nat→Row} (h:TabH rw k v e e2 n M):(rw k).ver = v:=by rcases h.top with h | ⟨_,h⟩ <;> rw [h]
theorem TabH.give [zag] {rw:Nat→Row} {Ln:Nat→Prop} (h:TabH rw k v e e2 M.length M) (hl:∀ j,Ln j→(j % 1000 == k % 1000) = false):Give (zCt k M.length) Ln (inT e e2 (M.map iL)) rw:=by
 have hlm:(M.map iL).length = M.length:=List.length_map _
 have hcells:∀ l:List Nat,(∀ j ∈ l,j < M.length)→GvL (zCt k M.length) Ln (inT e e2 (M.map iL)) rw (zax lent l) (zax k l):=by
  intro l
  induction l with
  | nil=>intro _;exact .nil
  | cons j l ih =>
    intro hj
    have h1:=hj j (by simp)
    refine .one (.own (zt9 k h1) ?_ ?_ ?_) (ih fun x hx=>hj x (by simp [hx]))
    ·rw [zcO (by rw [hlm];exact h1)]
    ·rw [h.row j h1]
    ·rw [zcO (by rw [hlm];exact h1)];rfl
 refine ⟨fun j hj=>?_,fun j j' i n1 n2 h1 h2=>?_,fun j i hj hr hln=>?_⟩
 ·rcases zpv hj with rfl | ⟨i,hi,rfl⟩
  ·refine ⟨Nat.le_refl _,by rw [zcs];exact Nat.one_pos,k,zAM _ _,?_⟩
   rw [zcs,hlm]
   rcases h.top with ht | ⟨h0,ht⟩
   ·rw [ht]
    exact ⟨rfl,hcells _ fun j hj=>List.mem_range.1 hj⟩
   ·rw [ht]
    exact ⟨rfl,rfl,by rw [h0];rfl,rfl⟩
  ·rw [hlm] at hi
   refine ⟨Nat.le_of_lt (zjz i).1,by rw [zcO (by rw [hlm];exact hi)];exact Nat.one_pos,_,zt9 k hi,?_⟩
   rw [zcO (by rw [hlm];exact hi),h.row i hi,zb2]
   exact ⟨rfl,rfl,rfl,zbo _⟩
 ·rcases zjV h1 with ⟨a1,a2⟩ | ⟨x,_,a1,a2⟩ <;> rcases zjV h2 with ⟨b1,b2⟩ | ⟨y,_,b1,b2⟩
  ·rw [a1,b1]
  ·rw [a2] at b2;exact absurd b2.symm (zcR k y)
  ·rw [a2] at b2;exact absurd b2 (zcR k x)
  ·rw [a2] at b2;have:=zcX b2;subst this;rw [a1,b1]
 ·have hm:=beq_eq_false_iff_ne.1 (hl i hln)
  rcases zjV hr with ⟨_,rfl⟩ | ⟨x,_,_,rfl⟩
  ·exact hm rfl
  ·exact hm (zaa _ _)
end
def zyO (wrap:PV→PV) (e e2:Nat) (M:Mat) (R1:Nat→Row) (p:PV):Prop:=∃ (k v:Nat) (ids:List (Nat × Nat)),p = wrap (.own k v)∧TabU R1 k v e e2 ids M
def ANw [zag] (P:Program) (f:FuncId) (args:List PV) (wrap:PV→PV) (e e2:Nat) (M:Mat):Prop:=AG P f args (fun _=>⟨0,.dead⟩) (zyO wrap e e2 M)
theorem ANw.go [zag] {P:Program} {T:Tab} {f:FuncId} {fn:Func} {c:Code} {rs:List ResultVar} {args:List PV} {wrap:PV→PV} {e e2:Nat} {M:Mat} (hT:T.Ok P) (hm:P.follows .mixedOrders = true) (hf:P.funcs[f]? = some fn) (hname:(fn.name == "runtime.NumGoroutine") = false)
 (hb:fn.body = some c) (hr:fn.results.toList = rs) (hfit:(fits fn.ntmps c && decide (args.length ≤ fn.ntmps) && decide (fn.results.toList.length ≤ 4)) = true)
 (h:zxI args→∀ s:St,(∀ i,s.sl i = args.getD i .junk)→(∀ j,s.rw j = ⟨0,.dead⟩)→cwp P T c (zxP T rs (zyO wrap e e2 M)) s):ANw P f args wrap e e2 M :=
 AG.go hT hm hf hname hb hr hfit fun h1 h2 s hs hrw=>h h1 s hs hrw
theorem AGr.go [zag] {P:Program} {T:Tab} {f:FuncId} {fn:Func} {c:Code} {rs:List ResultVar} {args:List PV} {e e2:Nat} {M M':Mat} (hT:T.Ok P) (hm:P.follows .mixedOrders = true) (hf:P.funcs[f]? = some fn) (hname:(fn.name == "runtime.NumGoroutine") = false)
 (hb:fn.body = some c) (hr:fn.results.toList = rs) (hfit:(fits fn.ntmps c && decide (args.length ≤ fn.ntmps) && decide (fn.results.toList.length ≤ 4)) = true)
 (h:zxI args→M.length ≤ 9223372036854775807→∀ s:St,(∀ i,s.sl i = args.getD i .junk)→(∀ j,j < 1000000→s.rw j = ⟨0,.dead⟩)→TabG s.rw 1000000 1 e e2 M.length M→cwp P T c (zxP T rs (zt8 e e2 M.length M')) s):AGr P f args e e2 M M':=by
 have hlm:(M.map iL).length = M.length:=List.length_map _
 refine AG.go hT hm hf hname hb hr hfit fun h1 h2 s hs hrw=>h h1 ?_ s hs (fun j hj=>?_) ⟨?_,rfl,fun j hj=>?_,fun j hj=>?_⟩
 ·have:=h2 lent
  rw [zcs] at this
  have:(zax lent (List.range (M.map iL).length)).length ≤ 9223372036854775807:=this
  rwa [zan,List.length_range,hlm] at this
 ·rw [hrw,ztQ (by unfold lent;exact hj)]
 ·rw [hrw]
  have:=zcs (e:=e) (e2:=e2) (rows:=M.map iL)
  rw [hlm] at this
  exact this
 ·rw [hrw]
  have:=zcO (e:=e) (e2:=e2) (rows:=M.map iL) (i:=j) (by rw [hlm];exact hj)
  rw [zb2] at this
  exact this
 ·rw [hrw]
  by_cases hn:(inT e e2 (M.map iL) (sid lent j)).kind.nd = true
  ·rcases zpv hn with h | ⟨i,hi,h⟩
   ·exact absurd h (zcR _ _)
   ·have:=zcX h;rw [hlm] at hi;omega
  ·show inT e e2 (M.map iL) (sid lent j) = _
   unfold inT at hn ⊢
   split
   ·rename_i h;exact absurd h (zcR _ _)
   ·split
    ·rename_i h1 h2;rw [if_neg h1,if_pos h2] at hn;exact absurd rfl hn
    ·rfl
end Go.Abs

/- DERIVED by an AI agent. A nil slice seen as a row of nothing, to be appended to. No program in sight. -/
namespace Go.Abs
set_option linter.unusedSimpArgs false
set_option linter.unusedVariables false
theorem SimE.nilRow [zag] {G:Ghost} {E:Env} {s:St} {a:Act} {w:World} (hs:SimE G E s a w) (k e:Nat) :
 ∃ E',SimE G E' (s.row k ⟨(s.rw k).ver + 1,.sli e 1 false []⟩) a w∧Rep w E' 0 (.own k ((s.rw k).ver + 1)) (.slice none 0 0):=by
 have ht:=zgu (G:=G) (E:=E) (k:=k) (kd:=.sli e 1 false []) (m:=none) (v:=.slice none 0 0) (Ext.refl w) (fun b h=>by cases h)
 have hrows:∀ j,j = k→zas w (E.row k ⟨(E.R k).ver + 1,.sli e 1 false []⟩ none (.slice none 0 0)) G.C j:=fun j hj=>by
  subst hj
  unfold zas
  simp only [Env.row,zai]
  exact .inl ⟨trivial,trivial,trivial⟩
 have h:=ht.sim hs hrows
 have e1:({ s with rw:=(E.row k ⟨(E.R k).ver + 1,.sli e 1 false []⟩ none (.slice none 0 0)).R }:St) = s.row k ⟨(s.rw k).ver + 1,.sli e 1 false []⟩:=by
  show ({ s with rw:=zcj E.R k _ }:St) = _
  rw [hs.rw];rfl
 rw [e1] at h
 refine ⟨_,h,.own ?_ fun _ _=>?_⟩
 ·simp [Env.row,zai,hs.rw]
 ·simp [Env.row,zai]
theorem Wk.nilBox [zag] {s:St} {j v t o:Nat} {c:List PV} (k e:Nat) (hj:s.rw j = ⟨v,.box t c⟩) (ho:c[o]? = some (.v (.slice none 0 0))) (hjk:j ≠ k):Wk s ((s.row k ⟨(s.rw k).ver + 1,.sli e 1 false []⟩).row j ⟨v,.box t (c.set o (.own k ((s.rw k).ver + 1)))⟩):=by
 intro G a w ⟨E,hs⟩
 obtain ⟨E',h,hr⟩:=hs.nilRow k e
 have hRj:E'.R j = ⟨v,.box t c⟩:=by
  rw [h.rw]
  show (if j = k then _ else s.rw j) = _
  rw [if_neg hjk,hj]
 let E3:Env:={ R:=zcj E'.R j ⟨v,.box t (c.set o (.own k ((s.rw k).ver + 1)))⟩,rm:=E'.rm,rv:=E'.rv,L:=mkL E'.X (zcj E'.R j ⟨v,.box t (c.set o (.own k ((s.rw k).ver + 1)))⟩) E'.rm,B:=E'.B,X:=E'.X }
 have ht:Turn G E' E3 w w (· = j):=by
  refine ⟨rfl,rfl,rfl,fun i hi=>⟨zal _ _ hi,rfl,rfl⟩,fun _ _ _=>rfl,fun i b hi hb _=>?_,fun i hi=>?_,fun i hi _ hsl=>?_,fun i hi _ _=>?_,fun i hi _=>?_,fun i i' b hi hi' _ _ _ _=>by rw [hi,hi'],Nat.le_refl _,rfl,rfl,⟨rfl,fun _=>by first | exact Nat.le_refl _ | exact Nat.le_succ _⟩⟩
  ·subst hi;exact .inr ⟨hb,by rw [hRj];rfl,fun _=>by rw [hRj];rfl⟩
  ·subst hi
   show _ ≤ (zcj E'.R i _ i).ver
   rw [zai,hRj];exact Nat.le_refl _
  ·subst hi
   have:(zcj E'.R i ⟨v,.box t (c.set o (.own k ((s.rw k).ver + 1)))⟩ i).kind.slice = true:=hsl
   rw [zai] at this;cases this
  ·subst hi;exact ⟨by rw [hRj];rfl,rfl⟩
  ·subst hi
   show 0 < (zcj E'.R i _ i).ver
   rw [zai]
   have:=h.wok.pos i (by rw [hRj];rfl)
   rw [hRj] at this;exact this
 have hl:=ht.lasts h.wok
 have hrows:∀ i,i = j→zas w E3 G.C i:=fun i hi=>by
  subst hi
  have hrow:=h.wok.rows i
  unfold zas at hrow ⊢
  rw [hRj] at hrow
  obtain ⟨b,vs,h1,h2,h3,h4⟩:=hrow
  show match (zcj E'.R i ⟨v,.box t (c.set o (.own k ((s.rw k).ver + 1)))⟩ i).kind with | .dead=>True | .nil=>_ | .box t cells=>_ | .sli e sz _ cells=>_ | .tab e cells=>_
  rw [zai]
  refine ⟨b,vs,h1,h2,h3,by simp [h4.1],fun x a' b'=>?_⟩
  have hx:x < c.length:=by simpa using a'
  rw [List.getElem_set]
  by_cases hxo:o = x
  ·subst hxo
   rw [if_pos rfl]
   have h0:=h4.2 o hx b'
   have:c[o] = .v (.slice none 0 0):=by
    have:=List.getElem?_eq_some_iff.1 ho
    exact this.2
   rw [this] at h0
   rw [h0.v_eq]
   exact hr.mono hl (Nat.le_refl _)
  ·rw [if_neg hxo]
   exact (h4.2 x hx b').mono hl (Nat.le_refl _)
 have key:=ht.sim h hrows
 have e1:({ (s.row k ⟨(s.rw k).ver + 1,.sli e 1 false []⟩) with rw:=E3.R }:St) = (s.row k ⟨(s.rw k).ver + 1,.sli e 1 false []⟩).row j ⟨v,.box t (c.set o (.own k ((s.rw k).ver + 1)))⟩:=by
  show ({ (s.row k ⟨(s.rw k).ver + 1,.sli e 1 false []⟩) with rw:=zcj E'.R j _ }:St) = _
  rw [h.rw];rfl
 rw [e1] at key
 exact ⟨_,key⟩
theorem OutR.flat [zag] {w':World} {N e e2:Nat} {rows:List (List PV)} {v:Value} {lv:List (Value × Option Nat)} (hout:OutR w' (Env.out N (blk lv)) (.tb e e2 rows) v lv) (hn:(blk lv).Nodup) :
 ∃ lv',OutR w' (Env.out N (blk lv')) (.fr e 1 (rows.map fun r=>.sl false 1 r)) v lv'∧(blk lv').Nodup:=by
 cases hout with
 | tbn=>exact ⟨_,.nil,by simp [blk]⟩
 | @tb _ _ b n cap _ vs rest lvs hB hh hnn hc hm hl h1 h2 hvv hin =>
   refine ⟨[(.slice (some ⟨b,0,none⟩) n cap,some b)],.fr hB hh (by omega) hc hm (by omega) ⟨by simp [h1,hnn],fun i a b'=>?_⟩,by simp [blk]⟩
   have hi:i < rows.length:=by simpa using a
   have h0:=hin i hi b' (by omega)
   simp only [List.getElem_map]
   have hbl:blk ((Value.slice (some ⟨b,0,none⟩) n cap,some b) :: lvs) = b :: blk lvs:=rfl
   have e1:blk [(Value.slice (some ⟨b,0,none⟩) n cap,some b)] = [b]:=rfl
   rw [e1]
   rw [hbl] at hn h0
   generalize hri:rows[i] = ri at *
   generalize hvi:vs[i] = vi at *
   generalize hli:lvs[i]'(by omega) = li at *
   cases h0 with
   | nil=>exact zda _ _ _ _ _
   | @fr _ _ b2 n2 cap2 _ vs2 rest2 hB2 hh2 hn2 hc2 hm2 hl2 hr2 =>
     have hb2:b2 ∈ blk lvs:=by
      simp only [blk,List.mem_filterMap]
      exact ⟨_,List.getElem_mem (by omega:i < lvs.length),by rw [hli]⟩
     have hne:b2 ≠ b:=fun e=>(List.nodup_cons.1 hn).1 (e ▸ hb2)
     have hB3:N ≤ b2:=hB2
     refine .sl (fun j=>vs2.getD j undef) (hr2.1.trans hn2) hc2 hm2 (fun j hj=>⟨b2,0,rfl,?_,fun hL=>?_,?_⟩) (fun j hj=>?_)
     ·show max N (if false = true then _ else 0) ≤ b2
      simp;exact hB3
     ·rcases hL with hL | hL
      ·have:b2 < N:=hL
       omega
      ·exact hne (List.mem_singleton.1 hL)
     ·have hj':j < vs2.length:=by rw [← hr2.1];exact hj
      rw [Nat.zero_add,zaD hh2 (by simp;omega)]
      simp [List.getElem_append_left hj',List.getD,hj']
     ·have hj':j < vs2.length:=by rw [← hr2.1];exact hj
      have e2':vs2.getD j undef = vs2[j]:=by simp [List.getD,hj']
      rw [e2']
      have h3:=hr2.2 j hj hj'
      have h4:Rep w' (Env.out N [b]).bare.bare N ri[j] vs2[j]:=by
       refine Rep.above (E:=(Env.out N (b :: blk lvs)).bare) h3 (fun _=>rfl) (fun _=>rfl) rfl rfl fun x hx' hL hL'=>?_
       rcases hL' with hL' | hL'
       ·exact hL (.inl hL')
       ·exact hL (.inr (by rw [List.mem_singleton.1 hL'];exact List.mem_cons_self))
      refine h4.low ?_
      show max N (if false = true then _ else 0) ≤ N
      simp
section
variable {Q:AX→St→Prop} {s:St} {k e e2:Nat}
end
end Go.Abs

/- DERIVED by an AI agent. A function that is given a slice of its own and hands back that or another one, with a word whether it did. No program in sight. -/
namespace Go.Abs
set_option linter.unusedSimpArgs false
set_option linter.unusedVariables false
variable {P:Program} {s:St} {K:St→Prop}
theorem zDv [zag] {f:FuncId} {x head out lent:List PV} {e:Nat} {ok:Bool} {Ka:RV→Prop} {q:PV} {j vj d:Nat} {us:Dm s} {u:Dm K} (h:AF P f x head e out ok)
 (hq:(∃ fr,q = .sl fr 1 x) ∨ (∃ i vi ei fz,q = .own i vi∧i ≠ j∧s.rw i = ⟨vi,.sli ei 1 fz x⟩)) (hj:s.rw j = ⟨vj,.sli e 1 false head⟩) (hp:zbB head) (hdj:d ≠ j)
 (hk:∀ (S:St) (v r:Nat),(r = j ∨ r = d)→S.sl d = .tup [.own r v,.v (.bool ok)]→S.rw r = ⟨v,.sli e 1 false out⟩→(∀ t,t ≠ d→S.sl t = s.sl t)→(∀ i,i ≠ j→i ≠ d→S.rw i = s.rw i)→K S) :
 zhY P f lent Ka (zqy P f lent [q,.own j vj] (some d) (kk s us) (kk K u)):=by
 have hG:askG P s f [q,.own j vj] (some d) K:=h.askG hq hj hp hdj fun S v r hr hsl hrow hoff=>by
  refine hk S v r (hr.imp (·.1) (·.1)) ?_ hrow (fun t ht=>?_) hoff
  ·rw [hsl,zaA]
  ·rw [hsl,zaU _ _ _ _ ht]
 exact .inr (.inr (.inr (.inr hG)))
theorem AG.goW [zag] {P:Program} {T:Tab} {f:FuncId} {fn:Func} {c:Code} {rs:List ResultVar} {args:List PV} {R0:Nat→Row} {post:(Nat→Row)→PV→Prop} (hT:T.Ok P) (hm:P.follows .mixedOrders = true) (hf:P.funcs[f]? = some fn) (hname:(fn.name == "runtime.NumGoroutine") = false)
 (hb:fn.body = some c) (hr:fn.results.toList = rs) (hfit:(fits fn.ntmps c && decide (args.length ≤ fn.ntmps) && decide (fn.results.toList.length ≤ 4)) = true)
 (h:zxI args→(∀ k,zhD (R0 k).kind)→∀ s:St,(∀ i,s.sl i = args.getD i .junk)→(∀ k,s.rw k = R0 k)→∃ s',Wk s s'∧cwp P T c (zxP T rs post) s'):AG P f args R0 post:=by
 subst hr
 refine ⟨⟨fn,hf,hname,by rw [hb];rfl⟩,fun w M E vals hw hR hv=>?_⟩
 exact (AG.ofW hT hm hf hname hb hfit (fun hl=>h (zqD hv) hl _ (fun _=>rfl) (fun _=>rfl))).2 w M E vals hw hR hv
end Go.Abs

/- DERIVED by an AI agent. Rows that are written no more, seen as values; a new table under a number of its own. No program in sight. -/
namespace Go.Abs
set_option linter.unusedSimpArgs false
set_option linter.unusedVariables false
section
variable {G:Ghost} {s:St} {E:Env} {a:Act} {w:World}
def Env.kill (E:Env) (k:Nat) (p:List Nat):Env:={ R:=zaM E.R k p,rm:=E.rm,rv:=E.rv,L:=mkL E.X (zaM E.R k p) E.rm,B:=E.B,X:=E.X }
theorem SimE.kill [zag] (hs:SimE G E s a w) (k:Nat) (p:List Nat):SimE G (E.kill k p) (s.killed k p) a w∧Lasts w w E (E.kill k p):=by
 have dead:∀ j,InT k p j→(zaM E.R k p j).kind.nd = true→False:=fun j hj h=>by rw [zbY hj] at h;cases h
 have ht:Turn G E (E.kill k p) w w (InT k p):=by
  refine ⟨rfl,rfl,rfl,fun j hj=>⟨zbH hj,rfl,rfl⟩,fun _ _ _=>rfl,fun j b hD _ hnd=>(dead j hD hnd).elim,fun j hD=>?_,fun j hD he _=>?_,fun j hD he _=>?_,fun j hD hnd=>(dead j hD hnd).elim,fun j j' b hD hD' h1 _ _ _=>(dead j hD h1).elim,Nat.le_refl _,rfl,rfl,⟨rfl,fun _=>by first | exact Nat.le_refl _ | exact Nat.le_succ _⟩⟩
  ·show _ ≤ (zaM E.R k p j).ver
   rw [zbY hD];exact Nat.le_succ _
  ·have he:(zaM E.R k p j).ver = (E.R j).ver:=he
   rw [zbY hD] at he;simp at he
  ·have he:(zaM E.R k p j).ver = (E.R j).ver:=he
   rw [zbY hD] at he;simp at he
 have hrows:∀ j,InT k p j→zas w (E.kill k p) G.C j:=fun j hj=>by
  unfold zas
  show match (zaM E.R k p j).kind with | .dead=>True | .nil=>_ | .box t cells=>_ | .sli e sz _ cells=>_ | .tab e cells=>_
  rw [zbY hj];trivial
 have key:SimE G (E.kill k p) ({ s with rw:=zaM E.R k p }:St) a w:=ht.sim hs hrows
 have e:({ s with rw:=zaM E.R k p }:St) = s.killed k p:=by rw [hs.rw];rfl
 rw [e] at key
 exact ⟨key,ht.lasts hs.wok⟩
theorem zp1 [zag] (hs:SimE G E s a w) {k j b:Nat} {p:List Nat} (hj:InT k p j) (hn:(E.R j).kind.nd = true) (hb:E.rm j = some b):¬ (E.kill k p).L b:=by
 rintro (⟨i,h1,h2⟩ | hX)
 ·have h1:E.rm i = some b:=h1
  have h2:(zaM E.R k p i).kind.live = true:=h2
  by_cases hi:InT k p i
  ·rw [zbY hi] at h2;cases h2
  ·rw [zbH hi] at h2
   have:=hs.wok.inj i j b (RK.nd_of_live h2) hn h1 hb
   exact hi (this ▸ hj)
 ·exact hs.wok.apart j b hn hb (hs.wok.xs ▸ hX)
theorem zy3 [zag] (hs:SimE G E s a w) {j b:Nat} (hjl:j < lent) (hn:(E.R j).kind.nd = true) (hb:E.rm j = some b):E.B ≤ b:=by
 have:=(hs.wok.block hb hn).2
 rw [hs.wok.base]
 rcases this with h | h
 ·exact h
 ·exact absurd h.1 (by omega)
theorem zy4 [zag] (hs:SimE G E s a w) {k j v e sz:Nat} {fz:Bool} {p:List Nat} {c:List PV} (hj:InT k p j) (hjl:j < lent) (hr:E.R j = ⟨v,.sli e sz fz c⟩)
 {E2:Env} {lo2:Nat} {fr:Bool} (q1:E2.bare = (E.kill k p).bare) (q2:E2.L = (E.kill k p).L) (q3:E2.lo lo2 fr = E.B):Rep w E2 lo2 (.sl fr sz c) (E.rv j):=by
 have hl:=(hs.kill k p).2
 have hrow:=hs.wok.rows j
 unfold zas at hrow
 rw [hr] at hrow
 rcases hrow with ⟨_,h2,h3⟩ | ⟨b,n,cap,vs,rest,h1,h2,h3,h4,h5,h6,h7,h8,h9⟩
 ·subst h3
  rw [h2]
  exact .sl (fun _=>default) (by simp) (Nat.le_refl _) (Nat.zero_le _) (fun i hi=>absurd hi (by simp)) (fun i hi=>absurd hi (by simp))
 ·rw [h3]
  have hn:(E.R j).kind.nd = true:=by rw [hr];rfl
  refine .sl (fun i=>vs.getD i default) (by rw [h9.1,h5]) h6 h7 (fun i hi=>⟨b,0,rfl,?_,?_,?_⟩) (fun i hi=>?_)
  ·rw [q3];exact zy3 hs hjl hn h1
  ·rw [q2];exact zp1 hs hj hn h1
  ·have hv:i < vs.length:=by rw [← h9.1];exact hi
   simp [World.cell?,h4,hv,List.getElem?_append,List.getD]
  ·have hv:i < vs.length:=by rw [← h9.1];exact hi
   have:=h9.2 i hi hv
   have e1:vs.getD i default = vs[i]:=by simp [List.getD,hv]
   rw [e1,q1,q3]
   exact this.mono hl.bare (Nat.le_refl _)
theorem zDA [zag] (k:Nat) (p:List Nat):(E.kill k p).lo 0 true = E.B:=Nat.zero_max _
end
section
variable {s:St} {k v e e2 d:Nat} {q:List Nat} {M:Mat}
theorem Wk.flat [zag] (h:TabI s.rw k v e e2 q M) (hk:k < lent) (hq:∀ j ∈ q,sid k j < lent) (hd:s.sl d = .own k v):Wk s ((s.killed k q).put (some d) (.sl true 1 (M.map fun r=>.sl false 1 (iL r)))):=by
 intro G a w ⟨E,hs⟩
 obtain ⟨h1,hl⟩:=hs.kill k q
 have hr:E.R k = ⟨v,.tab e (zax k q)⟩:=by rw [hs.rw];exact h.top
 refine ⟨_,h1.rw,h1.wok,h1.size,h1.defers,fun i=>?_⟩
 by_cases hid:i = d
 ·subst hid
  rw [zaA]
  have h0:=hs.slots i
  rw [hd] at h0
  cases h0 with
  | own hv hx =>
    rw [hx (by rw [hr]) (by rw [hr];rfl)]
    have hrow:=hs.wok.rows k
    unfold zas at hrow
    rw [hr] at hrow
    have hlen:=h.len
    rcases hrow with ⟨_,h2,h3⟩ | ⟨b,n,cap,vs,rest,h1,h2,h3,h4,h5,h6,h7,h8,h9⟩
    ·have hq0:q = []:=by simpa [zax] using h3
     have hM:M = []:=List.eq_nil_of_length_eq_zero (by rw [← hlen,hq0];rfl)
     rw [hM,h2]
     exact .sl (fun _=>default) (by simp) (Nat.le_refl _) (Nat.zero_le _) (fun i hi=>absurd hi (by simp)) (fun i hi=>absurd hi (by simp))
    ·rw [h3]
     have hn:(E.R k).kind.nd = true:=by rw [hr];rfl
     have hvl:vs.length = M.length:=by rw [← h9.1,zan,hlen]
     refine .sl (fun i=>vs.getD i default) (by simp;omega) h6 h7 (fun i hi=>⟨b,0,rfl,?_,zp1 hs (.inl rfl) hn h1,?_⟩) (fun i hi=>?_)
     ·show max 0 E.B ≤ b
      have:=zy3 hs hk hn h1;omega
     ·have hv:i < vs.length:=by rw [hvl];simpa using hi
      simp [World.cell?,h4,hv,List.getElem?_append,List.getD]
     ·have hiM:i < M.length:=by simpa using hi
      have hv:i < vs.length:=by omega
      have hiq:i < q.length:=by omega
      have hc:=h9.2 i (by rw [zan];exact hiq) hv
      have e1:vs.getD i default = vs[i]:=by simp [List.getD,hv]
      rw [e1,List.getElem_map]
      have hrow:=h.row hiM
      have hqd:q.getD i 0 = q[i]:=by simp [List.getD,hiq]
      rw [hqd] at hrow
      have hrE:E.R (sid k q[i]) = ⟨1,.sli e2 1 false (iL (M.getD i []))⟩:=by rw [hs.rw];exact hrow
      have hMd:M.getD i [] = M[i]:=by simp [List.getD,hiM]
      have hc2:Rep w E 0 (.own (sid k q[i]) 1) vs[i]:=by simpa [zax] using hc
      cases hc2 with
      | own _ hx2 =>
        have hin:InT k q (sid k q[i]):=.inr ⟨q[i],List.getElem_mem hiq,rfl⟩
        rw [hx2 (by rw [hrE]) (by rw [hrE];rfl),← hMd]
        refine zy4 hs hin (hq _ (List.getElem_mem hiq)) hrE rfl rfl ?_
        show max ((E.kill k q).lo 0 true) 0 = E.B
        rw [zDA,Nat.max_zero]
 ·rw [zaU _ _ _ _ hid];exact h1.slots i
end
section
variable {s:St} {k j v e e2 d:Nat} {Q:AX→St→Prop}
end
end Go.Abs

/- DERIVED by an AI agent. Functions that put a slice that they are given behind a table that they are given. No program in sight. -/
namespace Go.Abs
set_option linter.unusedSimpArgs false
set_option linter.unusedVariables false
def zDz (e e2:Nat) (M:Mat) (r:List Int) (k:Nat):Row:=if k = 1000500 then ⟨1,.sli e2 1 false (iL r)⟩ else inT e e2 (M.map iL) k
def zui (e e2:Nat) (M:Mat) (r:List Int) (R1:Nat→Row) (p:PV):Prop :=
 ∃ v,p = .own 1000000 v∧R1 1000000 = ⟨v,.tab e (zax 1000000 (List.range M.length) ++ [.own 1000500 1])⟩∧R1 1000500 = ⟨1,.sli e2 1 false (iL r)⟩∧∀ i,i < M.length→R1 (sid 1000000 i) = ⟨1,.sli e2 1 false (iL (M.getD i []))⟩
def APu [zag] (P:Program) (f:FuncId) (args:List PV) (e e2:Nat) (M:Mat) (r:List Int):Prop:=AG P f args (zDz e e2 M r) (zui e e2 M r)
section
variable {e e2:Nat} {M:Mat} {r:List Int}
theorem zF6 [zag] (i:Nat):sid 1000000 i ≠ 1000500:=fun h=>by rw [zbq] at h;omega
theorem zA3 [zag]:zDz e e2 M r 1000000 = ⟨1,.tab e (zax 1000000 (List.range M.length))⟩:=by
 unfold zDz
 rw [if_neg (by decide)]
 have:=zcs (e:=e) (e2:=e2) (rows:=M.map iL)
 rw [List.length_map] at this
 exact this
theorem zA4 [zag] {i:Nat} (h:i < M.length):zDz e e2 M r (sid 1000000 i) = ⟨1,.sli e2 1 false (iL (M.getD i []))⟩:=by
 unfold zDz
 rw [if_neg (zF6 i),show sid 1000000 i = sid lent i from rfl,zcO (by rw [List.length_map];exact h),zb2]
theorem zFc:zDz e e2 M r 1000500 = ⟨1,.sli e2 1 false (iL r)⟩:=if_pos rfl
theorem APu.go [zag] {P:Program} {T:Tab} {f:FuncId} {fn:Func} {c:Code} {rs:List ResultVar} {args:List PV} (hT:T.Ok P) (hm:P.follows .mixedOrders = true) (hf:P.funcs[f]? = some fn) (hname:(fn.name == "runtime.NumGoroutine") = false)
 (hb:fn.body = some c) (hr:fn.results.toList = rs) (hfit:(fits fn.ntmps c && decide (args.length ≤ fn.ntmps) && decide (fn.results.toList.length ≤ 4)) = true)
 (h:zxI args→∀ s:St,(∀ i,s.sl i = args.getD i .junk)→(∀ j,j < 1000000→s.rw j = ⟨0,.dead⟩)→s.rw 1000000 = ⟨1,.tab e (zax 1000000 (List.range M.length))⟩→s.rw 1000500 = ⟨1,.sli e2 1 false (iL r)⟩ →
  (∀ i,i < M.length→s.rw (sid 1000000 i) = ⟨1,.sli e2 1 false (iL (M.getD i []))⟩)→cwp P T c (zxP T rs (zui e e2 M r)) s):APu P f args e e2 M r:=by
 refine AG.go hT hm hf hname hb hr hfit fun hl _ s hs hR=>h hl s hs (fun j hj=>?_) (by rw [hR,zA3]) (by rw [hR,zFc]) fun i hi=>by rw [hR,zA4 hi]
 rw [hR]
 unfold zDz
 rw [if_neg (by omega)]
 exact ztQ hj
end
end Go.Abs

/- DERIVED by an AI agent. A slice that a variable's cell stands for gets another number. No program in sight. -/
namespace Go.Abs
set_option linter.unusedSimpArgs false
set_option linter.unusedVariables false
section
variable {s:St} {j t v N e sz b vb tb o:Nat} {c cb cb':List PV} {Q:AX→St→Prop}
end
end Go.Abs

/- DERIVED by an AI agent. Loops at whose turn a table is written no more. No program in sight. -/
namespace Go.Abs
set_option linter.unusedSimpArgs false
set_option linter.unusedVariables false
section
variable {s:St} {k v e e2 d:Nat} {q:List Nat} {M:Mat} {Q:AX→St→Prop}
end
end Go.Abs

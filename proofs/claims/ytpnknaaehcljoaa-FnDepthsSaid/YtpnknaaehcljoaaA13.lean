/- DERIVED by an AI agent. -/
import Derived.Test.YtpnknaaehcljoaaA12
/- DERIVED by an AI agent. Tables whose rows are appended to. No program in sight. -/
namespace Go.Abs
set_option linter.unusedSimpArgs false
set_option linter.unusedVariables false
def zdr (k n:Nat) (g:Nat→Nat):List PV:=(List.range n).map fun j=>.own (sid k j) (g j)
theorem zgP (k n:Nat) (g:Nat→Nat):(zdr k n g).length = n:=by simp [zdr]
structure TabF (rw:Nat→Row) (k v e e2 n:Nat) (g:Nat→Nat) (M:Nat→List Int):Prop where
 top:rw k = ⟨v,.tab e (zdr k n g)⟩
 row:∀ j,j < n→rw (sid k j) = ⟨g j,.sli e2 1 false (iL (M j))⟩
section
variable {s:St} {rw rw':Nat→Row} {k v e e2 n:Nat} {g:Nat→Nat} {M:Nat→List Int}
theorem TabF.same (h:TabF rw k v e e2 n g M) (h1:rw' k = rw k) (h2:∀ x,rw' (sid k x) = rw (sid k x)):TabF rw' k v e e2 n g M:=⟨h1.trans h.top,fun j hj=>(h2 j).trans (h.row j hj)⟩
theorem TabF.add (h:TabF rw k v e e2 n g M) {o:Nat} (ho:o < n) {r:List Int} {g':Nat→Nat} {M':Nat→List Int} (h1:rw' k = ⟨v,.tab e (spl (zdr k n g) o [.own (sid k o) (g o + 1)])⟩) (h2:rw' (sid k o) = ⟨g o + 1,.sli e2 1 false (iL r)⟩)
 (h3:∀ x,¬ x = o→rw' (sid k x) = rw (sid k x)) (hg:∀ j,j < n→g' j = if j = o then g o + 1 else g j) (hM:∀ j,j < n→M' j = if j = o then r else M j):TabF rw' k v e e2 n g' M':=by
 refine ⟨?_,fun j hj=>?_⟩
 ·rw [h1]
  congr 2
  show (zdr k n g).set o _ = _
  refine List.ext_getElem (by simp [zdr]) fun j a b=>?_
  have hj:j < n:=by simpa [zdr] using b
  rw [List.getElem_set]
  simp only [zdr,List.getElem_map,List.getElem_range,hg j hj]
  by_cases e:o = j
  ·subst e;simp
  ·rw [if_neg e,if_neg (Ne.symm e)]
 ·rw [hg j hj,hM j hj]
  by_cases e:j = o
  ·subst e;rw [if_pos rfl,if_pos rfl,h2]
  ·rw [if_neg e,if_neg e,h3 j e,h.row j hj]
theorem zyX [zai] {T:Tab} {Kp:PV→Prop} (k n:Nat) (g:Nat→Nat) {t:TypeId} (o:Nat) (h0:(T t).k.agg = false) (h1:0 < (T t).size):ldK T t .asis (zdr k n g) o Kp = (o < n∧Kp (.own (sid k o) (g o))):=by
 have:=zex (T:=T) (Kp:=Kp) (fun j=>PV.own (sid k j) (g j)) 0 (List.range n) (t:=t) (m:=.asis) o (fun j=>.own (sid k j) (g j)) (fun _=>rfl) h0 h1
 refine (show ldK T t .asis (zdr k n g) o Kp = _ from this).trans ?_
 rw [List.length_range]
 refine propext ⟨fun ⟨a,b⟩=>⟨a,?_⟩,fun ⟨a,b⟩=>⟨a,?_⟩⟩
 ·have e1:(List.range n).getD o 0 = o:=by simp [List.getD,a]
  rwa [e1] at b
 ·have e1:(List.range n).getD o 0 = o:=by simp [List.getD,a]
  rwa [e1]
theorem TabF.init [zai] (e2:Nat) (hk:s.rw k = ⟨v,.sli e 1 false (List.replicate n (.v (.slice none 0 0)))⟩) (hd:∀ j,s.rw (sid k j) = ⟨0,.dead⟩) :
 ∃ s',Wk s s'∧TabF s'.rw k v e e2 n (fun _=>1) (fun _=>[])∧s'.sl = s.sl∧∀ j,(j % 1000 == k % 1000) = false→s'.rw j = s.rw j:=by
 let R':(Nat→Row)→Nat→Row:=fun R j=>if j = k then ⟨v,.tab e (zdr k n fun _=>1)⟩ else if k < j∧(j - k) % 1000 = 0∧(j - k) / 1000 - 1 < n then ⟨1,.sli e2 1 false []⟩ else R j
 have Rk:∀ R,R' R k = ⟨v,.tab e (zdr k n fun _=>1)⟩:=fun R=>by simp only [R',if_true]
 have Rs:∀ R j,j < n→R' R (sid k j) = ⟨1,.sli e2 1 false []⟩:=fun R j hj=>by
  have h1:¬ sid k j = k:=zc2 k j
  have h2:k < sid k j∧(sid k j - k) % 1000 = 0∧(sid k j - k) / 1000 - 1 < n:=by rw [zbx];omega
  simp only [R',if_neg h1,if_pos h2]
 have Ro:∀ R j,¬ (j = k ∨ ∃ i,i < n∧j = sid k i)→R' R j = R j:=fun R j hj=>by
  have h1:¬ j = k:=fun h=>hj (.inl h)
  have h2:¬ (k < j∧(j - k) % 1000 = 0∧(j - k) / 1000 - 1 < n):=fun h=>hj (.inr ⟨_,h.2.2,by rw [zbx];omega⟩)
  simp only [R',if_neg h1,if_neg h2]
 refine ⟨{ s with rw:=R' s.rw },?_,⟨Rk _,fun j hj=>Rs _ j hj⟩,rfl,fun j hj=>?_⟩
 ·intro G a w ⟨E,hs⟩
  have hR:E.R k = ⟨v,.sli e 1 false (List.replicate n (.v (.slice none 0 0)))⟩:=by rw [hs.rw];exact hk
  have hD:∀ j,E.R (sid k j) = ⟨0,.dead⟩:=fun j=>by rw [hs.rw];exact hd j
  let rm':Nat→Option Nat:=fun j=>if j = k then E.rm k else if k < j∧(j - k) % 1000 = 0∧(j - k) / 1000 - 1 < n then none else E.rm j
  let rv':Nat→Value:=fun j=>if j = k then E.rv k else if k < j∧(j - k) % 1000 = 0∧(j - k) / 1000 - 1 < n then .slice none 0 0 else E.rv j
  have Mk:rm' k = E.rm k:=by simp only [rm',if_true]
  have Vk:rv' k = E.rv k:=by simp only [rv',if_true]
  have cond:∀ j,j < n→¬ sid k j = k∧(k < sid k j∧(sid k j - k) % 1000 = 0∧(sid k j - k) / 1000 - 1 < n):=fun j hj=>⟨zc2 k j,by rw [zbx];omega⟩
  have Ms:∀ j,j < n→rm' (sid k j) = none:=fun j hj=>by simp only [rm',if_neg (cond j hj).1,if_pos (cond j hj).2]
  have Vs:∀ j,j < n→rv' (sid k j) = .slice none 0 0:=fun j hj=>by simp only [rv',if_neg (cond j hj).1,if_pos (cond j hj).2]
  have out:∀ j,¬ (j = k ∨ ∃ i,i < n∧j = sid k i)→rm' j = E.rm j∧rv' j = E.rv j:=fun j hj=>by
   have h1:¬ j = k:=fun h=>hj (.inl h)
   have h2:¬ (k < j∧(j - k) % 1000 = 0∧(j - k) / 1000 - 1 < n):=fun h=>hj (.inr ⟨_,h.2.2,by rw [zbx];omega⟩)
   simp only [rm',rv',if_neg h1,if_neg h2,and_self]
  let E':Env:={ R:=R' E.R,rm:=rm',rv:=rv',L:=mkL E.X (R' E.R) rm',B:=E.B,X:=E.X }
  have ht:Turn G E E' w w (fun j=>j = k ∨ ∃ i,i < n∧j = sid k i):=by
   refine ⟨rfl,rfl,rfl,fun j hj=>⟨Ro _ j hj,(out j hj).1,(out j hj).2⟩,fun _ _ _=>rfl,fun j b hj hb hn=>?_,fun j hj=>?_,fun j hj he hsl=>?_,fun j hj he hsl=>?_,fun j hj hn=>?_,fun j j' b hj hj' h1 h2 e1 e2=>?_,Nat.le_refl _,rfl,rfl,⟨rfl,fun _=>by first | exact Nat.le_refl _ | exact Nat.le_succ _⟩⟩
   ·rcases hj with rfl | ⟨i,hi,rfl⟩
    ·have hb:rm' j = some b:=hb
     rw [Mk] at hb
     exact .inr ⟨hb,by rw [hR];rfl,fun _=>by rw [hR];rfl⟩
    ·have hb:rm' (sid k i) = some b:=hb
     rw [Ms i hi] at hb;cases hb
   ·show _ ≤ (R' E.R j).ver
    rcases hj with rfl | ⟨i,hi,rfl⟩
    ·rw [Rk,hR];exact Nat.le_refl _
    ·rw [Rs _ i hi,hD];exact Nat.zero_le _
   ·have he:(R' E.R j).ver = (E.R j).ver:=he
    rcases hj with rfl | ⟨i,hi,rfl⟩
    ·exact ⟨by rw [hR];rfl,Vk⟩
    ·rw [Rs _ i hi,hD] at he;cases he
   ·have he:(R' E.R j).ver = (E.R j).ver:=he
    rcases hj with rfl | ⟨i,hi,rfl⟩
    ·exact ⟨by rw [hR];rfl,Mk⟩
    ·rw [Rs _ i hi,hD] at he;cases he
   ·show 0 < (R' E.R j).ver
    rcases hj with rfl | ⟨i,hi,rfl⟩
    ·have:=hs.wok.pos j (by rw [hR];rfl)
     rw [hR] at this
     rw [Rk];exact this
    ·rw [Rs _ i hi];exact Nat.one_pos
   ·have e1:rm' j = some b:=e1
    have e2:rm' j' = some b:=e2
    rcases hj with rfl | ⟨i,hi,rfl⟩
    ·rcases hj' with rfl | ⟨i',hi',rfl⟩
     ·rfl
     ·rw [Ms i' hi'] at e2;cases e2
    ·rw [Ms i hi] at e1;cases e1
  have hrows:∀ j,(j = k ∨ ∃ i,i < n∧j = sid k i)→zaw w E' G.C j:=by
   intro j hj
   unfold zaw
   show match (R' E.R j).kind with | .dead=>True | .nil=>_ | .box t cells=>_ | .sli e sz _ cells=>_ | .tab e cells=>_
   rcases hj with rfl | ⟨i,hi,rfl⟩
   ·have hrow:=hs.wok.rows j
    unfold zaw at hrow
    rw [hR] at hrow
    rw [Rk]
    show (rm' j = none∧rv' j = _∧_) ∨ _
    rw [Mk,Vk]
    rcases hrow with ⟨h1,h2,h3⟩ | ⟨b,m,cap,vs,rest,h1,h2,h3,h4,h5,h6,h7,h8,h9⟩
    ·refine .inl ⟨h1,h2,?_⟩
     have:n = 0:=by simpa using congrArg List.length h3
     subst this;rfl
    ·refine .inr ⟨b,m,cap,vs,rest,Mk.trans h1,h2,Vk.trans h3,h4,by omega,h6,h7,by omega,by rw [zgP,← h9.1];simp,fun i a' b'=>?_⟩
     have hi:i < n:=by simpa [zdr] using a'
     have h0:=h9.2 i (by simpa using hi) b'
     have e1:(zdr j n fun _=>1)[i] = .own (sid j i) 1:=by simp [zdr]
     have hv:vs[i] = .slice none 0 0:=by
      simp only [List.getElem_replicate] at h0
      exact h0.v_eq
     rw [e1,hv]
     refine .own ?_ fun _ _=>?_
     ·show 1 ≤ (R' E.R (sid j i)).ver
      rw [Rs _ i hi];exact Nat.le_refl _
     ·exact (Vs i hi).symm
   ·rw [Rs _ i hi]
    exact .inl ⟨Ms i hi,Vs i hi,rfl⟩
  have key:SimE G E' ({ s with rw:=R' E.R }:St) a w:=ht.sim hs hrows
  rw [hs.rw] at key
  exact ⟨_,key⟩
 ·have hj:=beq_eq_false_iff_ne.1 hj
  refine Ro _ j fun h=>hj ?_
  rcases h with rfl | ⟨i,_,rfl⟩
  ·rfl
  ·exact zaa _ _
variable {Q:AX→St→Prop}
theorem zyY [zai] {α:Type} (hk:s.rw k = ⟨v,.sli e 1 false (List.replicate n (.v (.slice none 0 0)))⟩) (hd:∀ j,s.rw (sid k j) = ⟨0,.dead⟩) (I:α→St→Prop) (μ:α→Nat) (x0:α) {b:(AX→St→Prop)→St→Prop} {u:Dm b} {w:Dm Q}
 (h0:∀ s',TabF s'.rw k v e e2 n (fun _=>1) (fun _=>[])→s'.sl = s.sl→(∀ j,(j % 1000 == k % 1000) = false→s'.rw j = s.rw j)→I x0 s') (h:∀ x s1,I x s1→b (AX.seq (zjF I μ (μ x)) Q) s1):zpL (kk b u) (kk Q w) s:=by
 obtain ⟨s',hw,ht,hsl,ho⟩:=TabF.init e2 hk hd
 exact ⟨α,I,μ,⟨x0,s',hw,h0 s' ht hsl ho⟩,h⟩
theorem zAJ {ids:List Nat}:∀ (l:List Nat) (rows:List (List PV)) (K:List Nat→Prop),rows.length = l.length→(∀ i (a:i < l.length) (b:i < rows.length),sid k l[i] < lent∧rw (sid k l[i]) = ⟨g l[i],.sli e2 1 false rows[i]⟩)→K (l.map (sid k)) →
 zpJ rw e2 (l.map fun j=>.own (sid k j) (g j)) rows K:=by
 intro l
 induction l with
 | nil=>intro rows K h _ hk;cases rows with | nil=>exact hk | cons r rs=>simp at h
 | cons j l ih =>
   intro rows K h hr hk
   cases rows with
   | nil=>simp at h
   | cons r rs =>
     have h0:=hr 0 (by simp) (by simp)
     exact ⟨h0.1,h0.2,ih rs _ (by simpa using h) (fun i a b=>hr (i + 1) (by simpa using a) (by simpa using b)) hk⟩
theorem zyZ [zai] (h:TabF rw k v e e2 n g M) (hk:k < 1000) (hn:n ≤ 900):znM rw (.own k v) (.tb e e2 ((List.range n).map fun j=>iL (M j))) List.Nodup:=by
 have hkl:k < lent:=by unfold lent;omega
 show zjH rw (.own k v) (.tb e e2 _) List.Nodup
 unfold zjH
 simp only [h.top]
 refine ⟨hkl,trivial,trivial,zAJ (ids:=[]) (List.range n) _ _ (by simp) (fun i a b=>?_) ?_⟩
 ·have hi:i < n:=by simpa using a
  simp only [List.getElem_range,List.getElem_map]
  exact ⟨zmX hk (by omega),h.row i hi⟩
 ·refine List.nodup_cons.2 ⟨fun hm=>?_,?_⟩
  ·obtain ⟨j,_,hj⟩:=List.mem_map.1 hm
   rw [zbx] at hj;omega
  ·refine List.Pairwise.map _ (fun a b hab=>?_) List.nodup_range
   rw [Ne,zab];exact hab
end
end Go.Abs

/- DERIVED by an AI agent. Functions that are given a table and hand it back longer. No program in sight. -/
namespace Go.Abs
set_option linter.unusedSimpArgs false
set_option linter.unusedVariables false
structure TabU (rw:Nat→Row) (k v e e2:Nat) (ids:List (Nat × Nat)) (M:Mat):Prop where
 top:rw k = ⟨v,.tab e (ids.map fun x=>.own x.1 x.2)⟩
 len:ids.length = M.length
 row:∀ i (h:i < ids.length),rw ids[i].1 = ⟨ids[i].2,.sli e2 1 false (iL (M.getD i []))⟩
 nd:(k :: ids.map (·.1)).Nodup
def zuv (e e2 n:Nat) (M':Mat) (R1:Nat→Row) (p:PV):Prop :=
 ∃ (v:Nat) (ids:List (Nat × Nat)),p = .own lent v∧TabU R1 lent v e e2 ids M'∧n ≤ ids.length∧∀ i (_:i < n) (h:i < ids.length),ids[i] = (sid lent i,1)
def AGr [zai] (P:Program) (f:FuncId) (args:List PV) (e e2:Nat) (M M':Mat):Prop:=AG P f args (inT e e2 (M.map iL)) (zuv e e2 M.length M')
theorem zFu {l:List Nat} (h:l.Nodup) {i j:Nat} (hi:i < l.length) (hj:j < l.length) (e:l[i] = l[j]):i = j:=(List.getElem_inj (h₀:=hi) (h₁:=hj) h).1 e
section
variable {R1:Nat→Row} {k v e e2 n:Nat} {ids:List (Nat × Nat)} {M:Mat}
theorem TabU.inj [zai] (h:TabU R1 k v e e2 ids M) {i j:Nat} (hi:i < ids.length) (hj:j < ids.length) (he:ids[i].1 = ids[j].1):i = j :=
 zFu (List.nodup_cons.1 h.nd).2 (by simpa using hi) (by simpa using hj) (by simpa using he)
theorem TabU.ne (h:TabU R1 k v e e2 ids M) {i:Nat} (hi:i < ids.length):ids[i].1 ≠ k:=fun he =>
 (List.nodup_cons.1 h.nd).1 (List.mem_map.2 ⟨_,List.getElem_mem hi,he⟩)
def zCc (k n j:Nat):Option Nat:=if j = lent then some k else if lent < j∧(j - lent) % 1000 = 0∧(j - lent) / 1000 - 1 < n then some (sid k ((j - lent) / 1000 - 1)) else none
theorem zAL (k n:Nat):zCc k n lent = some k:=by unfold zCc;rw [if_pos rfl]
theorem zuw [zai] (k:Nat) {n i:Nat} (h:i < n):zCc k n (sid lent i) = some (sid k i):=by
 obtain ⟨h1,h2,h3⟩:=zjS i
 unfold zCc;rw [if_neg (by omega),if_pos ⟨h1,h2,by omega⟩,h3]
theorem zku [zai] {k n j i:Nat} (h:zCc k n j = some i):(j = lent∧i = k) ∨ ∃ x,x < n∧j = sid lent x∧i = sid k x:=by
 unfold zCc at h
 split at h
 ·cases h;exact .inl ⟨‹_›,rfl⟩
 ·split at h
  ·rename_i h2
   cases h
   exact .inr ⟨_,h2.2.2,by rw [zbx];omega,rfl⟩
  ·cases h
structure TabH (rw:Nat→Row) (k v e e2 n:Nat) (M:Mat):Prop where
 top:rw k = ⟨v,.tab e (zaA k (List.range n))⟩ ∨ (n = 0∧rw k = ⟨v,.sli e 1 false []⟩)
 len:M.length = n
 row:∀ j,j < n→rw (sid k j) = ⟨1,.sli e2 1 false (iL (M.getD j []))⟩
 rest:∀ j,n ≤ j→rw (sid k j) = ⟨0,.dead⟩
theorem TabH.ver {rw:Nat→Row} (h:TabH rw k v e e2 n M):(rw k).ver = v:=by rcases h.top with h | ⟨_,h⟩ <;> rw [h]
theorem TabH.give [zai] {rw:Nat→Row} {Ln:Nat→Prop} (h:TabH rw k v e e2 M.length M) (hl:∀ j,Ln j→(j % 1000 == k % 1000) = false):Give (zCc k M.length) Ln (inT e e2 (M.map iL)) rw:=by
 have hlm:(M.map iL).length = M.length:=List.length_map _
 have hcells:∀ l:List Nat,(∀ j ∈ l,j < M.length)→GvL (zCc k M.length) Ln (inT e e2 (M.map iL)) rw (zaA lent l) (zaA k l):=by
  intro l
  induction l with
  | nil=>intro _;exact .nil
  | cons j l ih =>
    intro hj
    have h1:=hj j (by simp)
    refine .one (.own (zuw k h1) ?_ ?_ ?_) (ih fun x hx=>hj x (by simp [hx]))
    ·rw [zdi (by rw [hlm];exact h1)]
    ·rw [h.row j h1]
    ·rw [zdi (by rw [hlm];exact h1)];rfl
 refine ⟨fun j hj=>?_,fun j j' i n1 n2 h1 h2=>?_,fun j i hj hr hln=>?_⟩
 ·rcases zpW hj with rfl | ⟨i,hi,rfl⟩
  ·refine ⟨Nat.le_refl _,by rw [zcY];exact Nat.one_pos,k,zAL _ _,?_⟩
   rw [zcY,hlm]
   rcases h.top with ht | ⟨h0,ht⟩
   ·rw [ht]
    exact ⟨rfl,hcells _ fun j hj=>List.mem_range.1 hj⟩
   ·rw [ht]
    exact ⟨rfl,rfl,by rw [h0];rfl,rfl⟩
  ·rw [hlm] at hi
   refine ⟨Nat.le_of_lt (zjS i).1,by rw [zdi (by rw [hlm];exact hi)];exact Nat.one_pos,_,zuw k hi,?_⟩
   rw [zdi (by rw [hlm];exact hi),h.row i hi,zcr]
   exact ⟨rfl,rfl,rfl,zcJ _⟩
 ·rcases zku h1 with ⟨a1,a2⟩ | ⟨x,_,a1,a2⟩ <;> rcases zku h2 with ⟨b1,b2⟩ | ⟨y,_,b1,b2⟩
  ·rw [a1,b1]
  ·rw [a2] at b2;exact absurd b2.symm (zc2 k y)
  ·rw [a2] at b2;exact absurd b2 (zc2 k x)
  ·rw [a2] at b2;have:=zc6 b2;subst this;rw [a1,b1]
 ·have hm:=beq_eq_false_iff_ne.1 (hl i hln)
  rcases zku hr with ⟨_,rfl⟩ | ⟨x,_,_,rfl⟩
  ·exact hm rfl
  ·exact hm (zaa _ _)
end
def zy2 (wrap:PV→PV) (e e2:Nat) (M:Mat) (R1:Nat→Row) (p:PV):Prop:=∃ (k v:Nat) (ids:List (Nat × Nat)),p = wrap (.own k v)∧TabU R1 k v e e2 ids M
def ANw [zai] (P:Program) (f:FuncId) (args:List PV) (wrap:PV→PV) (e e2:Nat) (M:Mat):Prop:=AG P f args (fun _=>⟨0,.dead⟩) (zy2 wrap e e2 M)
theorem ANw.go [zai] {P:Program} {T:Tab} {f:FuncId} {fn:Func} {c:Code} {rs:List ResultVar} {args:List PV} {wrap:PV→PV} {e e2:Nat} {M:Mat} (hT:T.Ok P) (hm:P.follows .mixedOrders = true) (hf:P.funcs[f]? = some fn) (hname:(fn.name == "runtime.NumGoroutine") = false)
 (hb:fn.body = some c) (hr:fn.results.toList = rs) (hfit:(fits fn.ntmps c && decide (args.length ≤ fn.ntmps) && decide (fn.results.toList.length ≤ 4)) = true)
 (h:zz1 args→∀ s:St,(∀ i,s.sl i = args.getD i .junk)→(∀ j,s.rw j = ⟨0,.dead⟩)→cwp P T c (zB2 T rs (zy2 wrap e e2 M)) s):ANw P f args wrap e e2 M :=
 AG.go hT hm hf hname hb hr hfit fun h1 h2 s hs hrw=>h h1 s hs hrw
theorem AGr.go [zai] {P:Program} {T:Tab} {f:FuncId} {fn:Func} {c:Code} {rs:List ResultVar} {args:List PV} {e e2:Nat} {M M':Mat} (hT:T.Ok P) (hm:P.follows .mixedOrders = true) (hf:P.funcs[f]? = some fn) (hname:(fn.name == "runtime.NumGoroutine") = false)
 (hb:fn.body = some c) (hr:fn.results.toList = rs) (hfit:(fits fn.ntmps c && decide (args.length ≤ fn.ntmps) && decide (fn.results.toList.length ≤ 4)) = true)
 (h:zz1 args→M.length ≤ 9223372036854775807→∀ s:St,(∀ i,s.sl i = args.getD i .junk)→(∀ j,j < 1000000→s.rw j = ⟨0,.dead⟩)→TabG s.rw 1000000 1 e e2 M.length M→cwp P T c (zB2 T rs (zuv e e2 M.length M')) s):AGr P f args e e2 M M':=by
 have hlm:(M.map iL).length = M.length:=List.length_map _
 refine AG.go hT hm hf hname hb hr hfit fun h1 h2 s hs hrw=>h h1 ?_ s hs (fun j hj=>?_) ⟨?_,rfl,fun j hj=>?_,fun j hj=>?_⟩
 ·have:=h2 lent
  rw [zcY] at this
  have:(zaA lent (List.range (M.map iL).length)).length ≤ 9223372036854775807:=this
  rwa [zar,List.length_range,hlm] at this
 ·rw [hrw,zyb (by unfold lent;exact hj)]
 ·rw [hrw]
  have:=zcY (e:=e) (e2:=e2) (rows:=M.map iL)
  rw [hlm] at this
  exact this
 ·rw [hrw]
  have:=zdi (e:=e) (e2:=e2) (rows:=M.map iL) (i:=j) (by rw [hlm];exact hj)
  rw [zcr] at this
  exact this
 ·rw [hrw]
  by_cases hn:(inT e e2 (M.map iL) (sid lent j)).kind.nd = true
  ·rcases zpW hn with h | ⟨i,hi,h⟩
   ·exact absurd h (zc2 _ _)
   ·have:=zc6 h;rw [hlm] at hi;omega
  ·show inT e e2 (M.map iL) (sid lent j) = _
   unfold inT at hn ⊢
   split
   ·rename_i h;exact absurd h (zc2 _ _)
   ·split
    ·rename_i h1 h2;rw [if_neg h1,if_pos h2] at hn;exact absurd rfl hn
    ·rfl
end Go.Abs

/- DERIVED by an AI agent. A nil slice seen as a row of nothing, to be appended to. No program in sight. -/
namespace Go.Abs
set_option linter.unusedSimpArgs false
set_option linter.unusedVariables false
theorem OutR.flat [zai] {w':World} {N e e2:Nat} {rows:List (List PV)} {v:Value} {lv:List (Value × Option Nat)} (hout:OutR w' (Env.out N (blk lv)) (.tb e e2 rows) v lv) (hn:(blk lv).Nodup) :
 ∃ lv',OutR w' (Env.out N (blk lv')) (.fr e 1 (rows.map fun r=>.sl false 1 r)) v lv'∧(blk lv').Nodup:=by
 cases hout with
 | tbn=>exact ⟨_,.nil,by simp [blk]⟩
 | @tb _ _ b n cap _ vs rest lvs hB hh hnn hc hm hl h1 h2 hvv hin =>
   refine ⟨[(.slice (some ⟨b,0,none⟩) n cap,some b)],.fr hB hh (by omega) hc hm (by omega) ⟨by simp [h1,hnn],fun i a b'=>?_⟩,by simp [blk]⟩
   have hi:i < rows.length:=by simpa using a
   have h0:=hin i hi b' (by omega)
   simp only [List.getElem_map]
   have hbl:blk ((Value.slice (some ⟨b,0,none⟩) n cap,some b) :: lvs) = b :: blk lvs:=rfl
   have e1:blk [(Value.slice (some ⟨b,0,none⟩) n cap,some b)] = [b]:=rfl
   rw [e1]
   rw [hbl] at hn h0
   generalize hri:rows[i] = ri at *
   generalize hvi:vs[i] = vi at *
   generalize hli:lvs[i]'(by omega) = li at *
   cases h0 with
   | nil=>exact zdl _ _ _ _ _
   | @fr _ _ b2 n2 cap2 _ vs2 rest2 hB2 hh2 hn2 hc2 hm2 hl2 hr2 =>
     have hb2:b2 ∈ blk lvs:=by
      simp only [blk,List.mem_filterMap]
      exact ⟨_,List.getElem_mem (by omega:i < lvs.length),by rw [hli]⟩
     have hne:b2 ≠ b:=fun e=>(List.nodup_cons.1 hn).1 (e ▸ hb2)
     have hB3:N ≤ b2:=hB2
     refine .sl (fun j=>vs2.getD j undef) (hr2.1.trans hn2) hc2 hm2 (fun j hj=>⟨b2,0,rfl,?_,fun hL=>?_,?_⟩) (fun j hj=>?_)
     ·show max N (if false = true then _ else 0) ≤ b2
      simp;exact hB3
     ·rcases hL with hL | hL
      ·have:b2 < N:=hL
       omega
      ·exact hne (List.mem_singleton.1 hL)
     ·have hj':j < vs2.length:=by rw [← hr2.1];exact hj
      rw [Nat.zero_add,zaD hh2 (by simp;omega)]
      simp [List.getElem_append_left hj',List.getD,hj']
     ·have hj':j < vs2.length:=by rw [← hr2.1];exact hj
      have e2':vs2.getD j undef = vs2[j]:=by simp [List.getD,hj']
      rw [e2']
      have h3:=hr2.2 j hj hj'
      have h4:Rep w' (Env.out N [b]).bare.bare N ri[j] vs2[j]:=by
       refine Rep.above (E:=(Env.out N (b :: blk lvs)).bare) h3 (fun _=>rfl) (fun _=>rfl) rfl rfl fun x hx' hL hL'=>?_
       rcases hL' with hL' | hL'
       ·exact hL (.inl hL')
       ·exact hL (.inr (by rw [List.mem_singleton.1 hL'];exact List.mem_cons_self))
      refine h4.low ?_
      show max N (if false = true then _ else 0) ≤ N
      simp
section
variable {Q:AX→St→Prop} {s:St} {k e e2:Nat}
end
end Go.Abs

/- DERIVED by an AI agent. A function that is given a slice of its own and hands back that or another one, with a word whether it did. No program in sight. -/
namespace Go.Abs
set_option linter.unusedSimpArgs false
set_option linter.unusedVariables false
variable {P:Program} {s:St} {K:St→Prop}
theorem zDJ [zai] {f:FuncId} {x head out lent:List PV} {e:Nat} {ok:Bool} {Ka:RV→Prop} {q:PV} {j vj d:Nat} {us:Dm s} {u:Dm K} (h:AF P f x head e out ok)
 (hq:(∃ fr,q = .sl fr 1 x) ∨ (∃ i vi ei fz,q = .own i vi∧i ≠ j∧s.rw i = ⟨vi,.sli ei 1 fz x⟩)) (hj:s.rw j = ⟨vj,.sli e 1 false head⟩) (hp:zb3 head) (hdj:d ≠ j)
 (hk:∀ (S:St) (v r:Nat),(r = j ∨ r = d)→S.sl d = .tup [.own r v,.v (.bool ok)]→S.rw r = ⟨v,.sli e 1 false out⟩→(∀ t,t ≠ d→S.sl t = s.sl t)→(∀ i,i ≠ j→i ≠ d→S.rw i = s.rw i)→K S) :
 zh4 P f lent Ka (zuM P f lent [q,.own j vj] (some d) (kk s us) (kk K u)):=by
 have hG:askG P s f [q,.own j vj] (some d) K:=h.askG hq hj hp hdj fun S v r hr hsl hrow hoff=>by
  refine hk S v r (hr.imp (·.1) (·.1)) ?_ hrow (fun t ht=>?_) hoff
  ·rw [hsl,zaH]
  ·rw [hsl,za7 _ _ _ _ ht]
 exact .inr (.inr (.inr (.inr hG)))
end Go.Abs

/- DERIVED by an AI agent. Functions that are given a cursor and draw from it: what they hand back is told by what holds of it. No program in sight. -/
namespace Go.Abs
set_option linter.unusedSimpArgs false
set_option linter.unusedVariables false
abbrev zbK:=Nat × (TypeId × Option Nat × List PV)
inductive LfG (R:Nat→Row):RV→PV→List zbK→Prop
 | im (x:Value):LfG R (.im (.v x)) (.v x) []
 | sl (fr:Bool) (sz:Nat) (c:List PV):LfG R (.im (.sl fr sz c)) (.sl true sz c) []
 | fr {e sz k v:Nat} {c:List PV} (h:R k = ⟨v,.sli e sz false c⟩) (hk:k < 1000000):LfG R (.fr e sz c) (.own k v) [(k,(e,some sz,c))]
inductive LfsG (R:Nat→Row):List RV→List PV→List zbK→Prop
 | nil:LfsG R [] [] []
 | cons {a:RV} {p:PV} {i:List zbK} {l:List RV} {ps:List PV} {is:List zbK} (h:LfG R a p i) (t:LfsG R l ps is):LfsG R (a :: l) (p :: ps) (i ++ is)
inductive G1 (R:Nat→Row):RV→PV→List zbK→Prop
 | lf {a:RV} {p:PV} {i:List zbK} (h:LfG R a p i):G1 R a p i
 | ag {l:List RV} {ps:List PV} {i:List zbK} (h:LfsG R l ps i):G1 R (.ag l) (.ag ps) i
inductive G1s (R:Nat→Row):List RV→List PV→List zbK→Prop
 | nil:G1s R [] [] []
 | cons {a:RV} {p:PV} {i:List zbK} {l:List RV} {ps:List PV} {is:List zbK} (h:G1 R a p i) (t:G1s R l ps is):G1s R (a :: l) (p :: ps) (i ++ is)
inductive G2 (R:Nat→Row):RV→PV→List zbK→Prop
 | one {a:RV} {p:PV} {i:List zbK} (h:G1 R a p i):G2 R a p i
 | tup {l:List RV} {ps:List PV} {i:List zbK} (h:G1s R l ps i):G2 R (.tup l) (.tup ps) i
section
variable {R:Nat→Row} {rho1:Nat→Option Nat} {nv:Nat→Nat} {vr:Nat→Nat} {d:Nat}
def Fits (R:Nat→Row) (rho1:Nat→Option Nat) (nv vr:Nat→Nat) (d i:Nat) (ids:List zbK):Prop :=
 ∀ j (h:j < ids.length),rho1 ids[j].1 = some (zal d (i + j))∧nv ids[j].1 = vr (zal d (i + j)) + 1
theorem Fits.left {i:Nat} {a b:List zbK} (h:Fits R rho1 nv vr d i (a ++ b)):Fits R rho1 nv vr d i a:=fun j hj=>by
 have:=h j (by rw [List.length_append];omega)
 rwa [List.getElem_append_left hj] at this
theorem Fits.right {i:Nat} {a b:List zbK} (h:Fits R rho1 nv vr d i (a ++ b)):Fits R rho1 nv vr d (i + a.length) b:=fun j hj=>by
 have:=h (a.length + j) (by rw [List.length_append];omega)
 rw [List.getElem_append_right (by omega)] at this
 simpa [Nat.add_assoc] using this
theorem LfG.leaves [zai] {a:RV} {p:PV} {i:List zbK} (h:LfG R a p i):Go.Abs.leaves a = i.map (·.2):=by
 cases h <;> simp [Go.Abs.leaves]
theorem LfsG.leaves [zai] {l:List RV} {ps:List PV} {i:List zbK} (h:LfsG R l ps i):(l.map Go.Abs.leaves).flatten = i.map (·.2):=by
 induction h with
 | nil=>rfl
 | cons h t ih=>simp [ih,h.leaves]
theorem G1.leaves [zai] {a:RV} {p:PV} {i:List zbK} (h:G1 R a p i):Go.Abs.leaves a = i.map (·.2):=by
 cases h with
 | lf h=>exact h.leaves
 | ag h=>rw [zcp];exact h.leaves
theorem G1s.leaves [zai] {l:List RV} {ps:List PV} {i:List zbK} (h:G1s R l ps i):(l.map Go.Abs.leaves).flatten = i.map (·.2):=by
 induction h with
 | nil=>rfl
 | cons h t ih=>simp [ih,h.leaves]
theorem G2.leaves [zai] {a:RV} {p:PV} {i:List zbK} (h:G2 R a p i):Go.Abs.leaves a = i.map (·.2):=by
 cases h with
 | one h=>exact h.leaves
 | tup h=>rw [zbQ];exact h.leaves
theorem LfG.row {a:RV} {p:PV} {i:List zbK} (h:LfG R a p i):∀ x ∈ i,x.1 < 1000000∧∃ v sz,x.2.2.1 = some sz∧R x.1 = ⟨v,.sli x.2.1 sz false x.2.2.2⟩:=by
 cases h with
 | im=>simp
 | sl=>simp
 | fr h hk=>intro x hx;rw [List.mem_singleton.1 hx];exact ⟨hk,_,_,rfl,h⟩
theorem LfsG.row {l:List RV} {ps:List PV} {i:List zbK} (h:LfsG R l ps i):∀ x ∈ i,x.1 < 1000000∧∃ v sz,x.2.2.1 = some sz∧R x.1 = ⟨v,.sli x.2.1 sz false x.2.2.2⟩:=by
 induction h with
 | nil=>simp
 | cons h t ih=>intro x hx;exact (List.mem_append.1 hx).elim (h.row x) (ih x)
theorem G1.row {a:RV} {p:PV} {i:List zbK} (h:G1 R a p i):∀ x ∈ i,x.1 < 1000000∧∃ v sz,x.2.2.1 = some sz∧R x.1 = ⟨v,.sli x.2.1 sz false x.2.2.2⟩:=by
 cases h with
 | lf h=>exact h.row
 | ag h=>exact h.row
theorem G1s.row {l:List RV} {ps:List PV} {i:List zbK} (h:G1s R l ps i):∀ x ∈ i,x.1 < 1000000∧∃ v sz,x.2.2.1 = some sz∧R x.1 = ⟨v,.sli x.2.1 sz false x.2.2.2⟩:=by
 induction h with
 | nil=>simp
 | cons h t ih=>intro x hx;exact (List.mem_append.1 hx).elim (h.row x) (ih x)
theorem G2.row {a:RV} {p:PV} {i:List zbK} (h:G2 R a p i):∀ x ∈ i,x.1 < 1000000∧∃ v sz,x.2.2.1 = some sz∧R x.1 = ⟨v,.sli x.2.1 sz false x.2.2.2⟩:=by
 cases h with
 | one h=>exact h.row
 | tup h=>exact h.row
theorem LfG.ren [zai] {a:RV} {p:PV} {ids:List zbK} {i:Nat} (h:LfG R a p ids) (hf:Fits R rho1 nv vr d i ids):zvo rho1 R nv true p = zbN vr d a i:=by
 cases h with
 | im x=>rfl
 | sl=>rfl
 | fr h hk =>
   have:=hf 0 (by simp)
   simp only [List.getElem_cons_zero,Nat.add_zero] at this
   rw [ziD,this.1,h]
   simp only [beq_self_eq_true]
   rw [this.2];rfl
theorem LfG.ren1 [zai] {a:RV} {p:PV} {ids:List zbK} {i:Nat} (h:LfG R a p ids) (hf:Fits R rho1 nv vr d i ids):Go.Abs.ren1 rho1 R nv true p = zbW vr d a i:=by
 have:=h.ren hf
 cases h with
 | im x=>rfl
 | sl=>rfl
 | fr h hk=>exact this
theorem LfsG.ren [zai] {l:List RV} {ps:List PV} {ids:List zbK} (h:LfsG R l ps ids):∀ {i:Nat},Fits R rho1 nv vr d i ids→ps.map (zvo rho1 R nv true) = zbg (zbN vr d) l i:=by
 induction h with
 | nil=>intro i _;rfl
 | cons h t ih =>
   intro i hf
   rw [List.map_cons,zbg,h.ren hf.left,ih hf.right,h.leaves,List.length_map]
theorem G1.ren [zai] {a:RV} {p:PV} {ids:List zbK} {i:Nat} (h:G1 R a p ids) (hf:Fits R rho1 nv vr d i ids):Go.Abs.ren1 rho1 R nv true p = zbW vr d a i:=by
 cases h with
 | lf h=>exact h.ren1 hf
 | ag h=>show PV.ag _ = PV.ag _;rw [h.ren hf]
theorem G1s.ren [zai] {l:List RV} {ps:List PV} {ids:List zbK} (h:G1s R l ps ids):∀ {i:Nat},Fits R rho1 nv vr d i ids→ps.map (Go.Abs.ren1 rho1 R nv true) = zbg (zbW vr d) l i:=by
 induction h with
 | nil=>intro i _;rfl
 | cons h t ih =>
   intro i hf
   rw [List.map_cons,zbg,h.ren hf.left,ih hf.right,h.leaves,List.length_map]
theorem LfsG.ren' [zai] {l:List RV} {ps:List PV} {ids:List zbK} (h:LfsG R l ps ids):∀ {i:Nat},Fits R rho1 nv vr d i ids→ps.map (zvo rho1 R nv true) = zbg (zbW vr d) l i:=by
 induction h with
 | nil=>intro i _;rfl
 | @cons a p _ _ _ _ h t ih =>
   intro i hf
   have e:zvo rho1 R nv true p = zbW vr d a i:=by
    rw [h.ren hf.left]
    cases h <;> rfl
   rw [List.map_cons,zbg,e,ih hf.right,h.leaves,List.length_map]
theorem G2.ren [zai] {a:RV} {p:PV} {ids:List zbK} (h:G2 R a p ids) (hf:Fits R rho1 nv vr d 0 ids):zB8 rho1 R nv true p = zaT vr d a 0:=by
 cases h with
 | one h =>
   cases h with
   | lf h =>
     have:=h.ren hf
     cases h with
     | im x=>rfl
     | sl=>rfl
     | fr h hk=>exact this
   | ag h=>show PV.ag _ = PV.ag _;rw [h.ren' hf]
 | tup h=>show PV.tup _ = PV.tup _;rw [h.ren hf]
end
theorem zvH [zai] (d i:Nat):zal d i % 1000 = d % 1000:=by unfold zal;omega
theorem zrR [zai] {P:Program} {s:St} {K:St→Prop} {f:FuncId} {args raw:List PV} {d:Nat} {R0:Nat→Row} {post:(Nat→Row)→PV→Prop}
 (hc:AG P f args R0 post) (rho:Nat→Option Nat) (hl:GvL rho (fun _=>False) R0 s.rw args raw) (hg:Give rho (fun _=>False) R0 s.rw)
 (hd:∀ a j,(R0 a).kind.nd = true→rho a = some j→(d % 1000 == j % 1000) = false)
 (hpost:∀ R1 p,post R1 p→∃ (rv:RV) (ids:List zbK) (s':St),G2 R1 rv p ids∧(ids.map (·.1)).Nodup∧(∀ a,(R0 a).kind.nd = true→(R1 a).ver = (R0 a).ver∧∀ rho1 nv,zm4 rho1 R1 nv true (R1 a).kind = (R1 a).kind)∧s'.sl = s.sl ∧
  (∀ a j,(R0 a).kind.nd = true→rho a = some j→s'.rw j = ⟨(s.rw j).ver,(R1 a).kind⟩)∧(∀ j,(∀ a,(R0 a).kind.nd = true→rho a ≠ some j)→s'.rw j = s.rw j)∧K (zam s' d rv)) :
 askG P s f raw (some d) K:=by
 refine ⟨args,R0,post,rho,_,hc,hl,hg,fun R1 p hp=>?_⟩
 obtain ⟨rv,ids,s',hG,hnd,hver,hsl,hgiv,hoth,hK⟩:=hpost R1 p hp
 have hrow:=hG.row
 have hlow:∀ a,(R0 a).kind.nd = true→1000000 ≤ a:=fun a ha=>(hg.row a ha).1
 have hsm:∀ n (hn:n < ids.length),¬ (R0 ids[n].1).kind.nd = true:=fun n hn h=>by
  have:=(hrow _ (List.getElem_mem hn)).1;have:=hlow _ h;omega
 let rho1:Nat→Option Nat:=fun a=>if (R0 a).kind.nd = true then rho a else (ids.findIdx? (fun x=>x.1 == a)).map (zal d)
 let nv:Nat→Nat:=fun a=>if (R0 a).kind.nd = true then ((rho a).map fun j=>(s.rw j).ver).getD 0 else (match ids.findIdx? (fun x=>x.1 == a) with | some n=>(s.rw (zal d n)).ver + 1 | none=>0)
 have hfi:∀ n (hn:n < ids.length),ids.findIdx? (fun x=>x.1 == ids[n].1) = some n:=fun n hn=>by
  rw [List.findIdx?_eq_some_iff_getElem]
  refine ⟨hn,by simp,fun j hj=>?_⟩
  simp only [beq_iff_eq]
  intro e
  have h1:(ids.map (·.1))[j]'(by simp;omega) = (ids.map (·.1))[n]'(by simpa using hn):=by simpa using e
  exact absurd ((List.getElem_inj hnd).1 h1) (by omega)
 have r1:∀ a,(R0 a).kind.nd = true→rho1 a = rho a:=fun a h=>if_pos h
 have r3:∀ n (hn:n < ids.length),rho1 ids[n].1 = some (zal d n):=fun n hn=>by
  show (if (R0 ids[n].1).kind.nd = true then _ else _) = _
  rw [if_neg (hsm n hn),hfi n hn];rfl
 have n1:∀ a j,(R0 a).kind.nd = true→rho a = some j→nv a = (s.rw j).ver:=fun a j h hj=>by
  show (if (R0 a).kind.nd = true then _ else _) = _
  rw [if_pos h,hj];rfl
 have n3:∀ n (hn:n < ids.length),nv ids[n].1 = (s.rw (zal d n)).ver + 1:=fun n hn=>by
  show (if (R0 ids[n].1).kind.nd = true then _ else _) = _
  rw [if_neg (hsm n hn),hfi n hn]
 have inv:∀ a x,rho1 a = some x→((R0 a).kind.nd = true∧rho a = some x) ∨ ∃ n,∃ hn:n < ids.length,a = ids[n].1∧x = zal d n:=fun a x ha=>by
  by_cases h1:(R0 a).kind.nd = true
  ·exact .inl ⟨h1,(r1 a h1).symm.trans ha⟩
  ·have ha:(if (R0 a).kind.nd = true then rho a else (ids.findIdx? (fun x=>x.1 == a)).map (zal d)) = some x:=ha
   rw [if_neg h1] at ha
   cases hf:ids.findIdx? (fun x=>x.1 == a) with
   | none=>rw [hf] at ha;cases ha
   | some n =>
     rw [hf] at ha;cases ha
     rw [List.findIdx?_eq_some_iff_getElem] at hf
     obtain ⟨hn,e,_⟩:=hf
     exact .inr ⟨n,hn,(beq_iff_eq.1 e).symm,rfl⟩
 have lj:∀ n a j,(R0 a).kind.nd = true→rho a = some j→zal d n ≠ j:=fun n a j h hj e=>beq_eq_false_iff_ne.1 (hd a j h hj) (by rw [← e,zvH])
 refine ⟨rho1,nv,true,⟨r1,fun a b x ha hb=>?_,fun a x ha hn hv=>?_,fun a x ha hn=>?_,fun _ _ h=>h⟩,fun S hS=>?_⟩
 ·rcases inv a x ha with ⟨a1,a2⟩ | ⟨n,hn,a1,a2⟩ <;> rcases inv b x hb with ⟨b1,b2⟩ | ⟨m,hm,b1,b2⟩
  ·exact hg.inj a b x a1 b1 a2 b2
  ·exact absurd b2.symm (lj m a x a1 a2)
  ·exact absurd a2.symm (lj n b x b1 b2)
  ·have:=zme (a2.symm.trans b2)
   subst this;rw [a1,b1]
 ·rcases inv a x ha with ⟨_,a2⟩ | ⟨n,hn',rfl,_⟩
  ·exact n1 a x hn a2
  ·exact absurd hn (hsm n hn')
 ·rcases inv a x ha with ⟨a1,a2⟩ | ⟨n,hn',rfl,rfl⟩
  ·exact absurd (hver a a1).1 (hn a1)
  ·rw [n3 n hn'];exact Nat.lt_succ_self _
 ·have hsr:∀ n,s'.rw (zal d n) = s.rw (zal d n):=fun n=>hoth _ fun a h e=>lj n a _ h e rfl
  have hfits:Fits R1 rho1 nv (fun i=>(s'.rw i).ver) d 0 ids:=fun n hn=>by
   rw [Nat.zero_add]
   exact ⟨r3 n hn,by show _ = (s'.rw (zal d n)).ver + 1;rw [hsr,n3 n hn]⟩
  have hlv:=hG.leaves
  have hS2:S = zam s' d rv:=by
   refine St.ext2 (fun i=>?_) fun a=>?_
   ·rw [hS.sl,hG.ren hfits]
    unfold zam
    by_cases e:i = d
    ·subst e;rw [zaH,zaH]
    ·rw [za7 _ _ _ _ e,za7 _ _ _ _ e];exact (congrFun hsl i).symm
   ·unfold zam
    rw [zfp]
    show S.rw a = zav _ d (leaves rv) 0 a
    rw [zcA,hlv]
    by_cases hex:∃ n,n < ids.length∧a = zal d n
    ·obtain ⟨n,hn,rfl⟩:=hex
     have hm:n < (ids.map fun x:zbK=>x.2).length:=by simpa using hn
     have hm':n < (zbk s'.rw d (ids.map (·.2)) 0).length:=by rw [za2];exact hm
     have h1:=zdk s'.rw d _ 0 n hm'
     rw [Nat.zero_add] at h1
     rw [h1,zdd _ _ _ _ _ hm hm',Nat.zero_add,hsr,hS.row _ _ (r3 n hn),n3 n hn]
     obtain ⟨_,v1,sz,e1,e2⟩:=hrow _ (List.getElem_mem hn)
     rw [e2]
     have e3:((ids.map fun x:zbK=>x.2)[n]'hm).2.1 = some sz:=by simpa using e1
     simp only [zbE,e3]
     simp [zm4]
    ·rw [zci _ _ _ _ _ fun n hn e=>hex ⟨n,by rw [za2] at hn;simpa using hn,by rw [e,Nat.zero_add]⟩]
     by_cases hgv:∃ b,(R0 b).kind.nd = true∧rho b = some a
     ·obtain ⟨b,h1,h2⟩:=hgv
      rw [hS.row _ _ ((r1 b h1).trans h2),hgiv b a h1 h2,n1 b a h1 h2,(hver b h1).2]
     ·rw [hoth a fun b h1 h2=>hgv ⟨b,h1,h2⟩]
      refine hS.off a fun b hb=>?_
      rcases inv b a hb with h | ⟨n,hn,_,e⟩
      ·exact hgv ⟨b,h⟩
      ·exact hex ⟨n,hn,e⟩
  rw [hS2]
  exact hK
theorem zqF [zai] {P:Program} {s:St} {K:St→Prop} {f:FuncId} {args raw lents:List PV} {Ka:RV→Prop} {d:Nat} {us:Dm s} {u:Dm K} {R0:Nat→Row} {post:(Nat→Row)→PV→Prop}
 (hc:AG P f args R0 post) (rho:Nat→Option Nat) (hl:GvL rho (fun _=>False) R0 s.rw args raw) (hg:Give rho (fun _=>False) R0 s.rw)
 (hd:∀ a j,(R0 a).kind.nd = true→rho a = some j→(d % 1000 == j % 1000) = false)
 (hpost:∀ R1 p,post R1 p→∃ (rv:RV) (ids:List zbK) (s':St),G2 R1 rv p ids∧(ids.map (·.1)).Nodup∧(∀ a,(R0 a).kind.nd = true→(R1 a).ver = (R0 a).ver∧∀ rho1 nv,zm4 rho1 R1 nv true (R1 a).kind = (R1 a).kind)∧s'.sl = s.sl ∧
  (∀ a j,(R0 a).kind.nd = true→rho a = some j→s'.rw j = ⟨(s.rw j).ver,(R1 a).kind⟩)∧(∀ j,(∀ a,(R0 a).kind.nd = true→rho a ≠ some j)→s'.rw j = s.rw j)∧K (zam s' d rv)) :
 zh4 P f lents Ka (zuM P f lents raw (some d) (kk s us) (kk K u)) :=
 .inr (.inr (.inr (.inr (zrR hc rho hl hg hd hpost))))
def zDG (Q:RV→Prop) (R1:Nat→Row) (p:PV):Prop:=∃ (rv:RV) (ids:List zbK),Q rv∧G2 R1 rv p ids∧(ids.map (·.1)).Nodup
def ADr [zai] (P:Program) (f:FuncId) (args:List PV) (Q:RV→Prop):Prop:=AG P f args (fun _=>⟨0,.dead⟩) (zDG Q)
theorem zfh [zai] {P:Program} {s:St} {K:St→Prop} {f:FuncId} {args raw lents:List PV} {Ka:RV→Prop} {d:Nat} {us:Dm s} {u:Dm K} {Q:RV→Prop} (hc:ADr P f args Q)
 (hl:GvL (fun _=>none) (fun _=>False) (fun _=>⟨0,.dead⟩) s.rw args raw) (hK:∀ rv,Q rv→K (zam s d rv)):zh4 P f lents Ka (zuM P f lents raw (some d) (kk s us) (kk K u)) :=
 zqF hc _ hl ⟨fun _ h=>(by cases h),fun _ _ _ h=>(by cases h),fun _ _ h=>(by cases h)⟩ (fun _ _ h=>(by cases h)) fun R1 p ⟨rv,ids,hq,h1,h2⟩ =>
  ⟨rv,ids,s,h1,h2,fun _ h=>(by cases h),rfl,fun _ _ h=>(by cases h),fun _ _=>rfl,hK rv hq⟩
def zkC (t:TypeId) (bs:List Int) (i h:Int):RK:=.box t [.sl false 1 (kL .u8 bs),.v (.int .i64 i),.v (.int .i64 h)]
def zuD (t:TypeId) (bs:List Int) (i h:Int) (L:Row) (k:Nat):Row:=if k = 1000000 then ⟨1,zkC t bs i h⟩ else if k = 1000500 then L else ⟨0,.dead⟩
def zDH (t:TypeId) (bs:List Int) (L:Row) (Q:RV→Prop) (R1:Nat→Row) (p:PV):Prop :=
 ∃ (rv:RV) (i:Nat) (h:Int) (ids:List zbK),Q rv∧G2 R1 rv p ids∧(ids.map (·.1)).Nodup∧R1 1000000 = ⟨1,zkC t bs i h⟩∧R1 1000500 = L
def zvV [zai] (P:Program) (f:FuncId) (t:TypeId) (bs:List Int) (L:Row) (args:List PV) (Q:RV→Prop):Prop :=
 ∀ (i:Nat) (h:Int),AG P f (.ref 1000000 1 0 :: args) (zuD t bs i h L) (zDH t bs L Q)
inductive LRow (s:St):Row→Option Nat→Prop
 | none:LRow s ⟨0,.dead⟩ none
 | some {j v e sz:Nat} {c:List PV} (hj:s.rw j = ⟨v,.sli e sz false c⟩) (hp:zb3 c):LRow s ⟨1,.sli e sz false c⟩ (some j)
def zhY (k:Nat) (j:Option Nat) (a:Nat):Option Nat:=if a = 1000000 then some k else if a = 1000500 then j else none
theorem zaN (k:Nat) (j:Option Nat):zhY k j 1000000 = some k:=if_pos rfl
theorem zbi (k:Nat) (j:Option Nat):zhY k j 1000500 = j:=by unfold zhY;rw [if_neg (by decide),if_pos rfl]
theorem zbX {t:TypeId} {bs:List Int} {i h:Int} {L:Row}:zuD t bs i h L 1000000 = ⟨1,zkC t bs i h⟩:=if_pos rfl
theorem zcV {t:TypeId} {bs:List Int} {i h:Int} {L:Row}:zuD t bs i h L 1000500 = L:=by unfold zuD;rw [if_neg (by decide),if_pos rfl]
theorem zny {t:TypeId} {bs:List Int} {i h:Int} {L:Row} {k:Nat} (hk:k < 1000000):zuD t bs i h L k = ⟨0,.dead⟩:=by unfold zuD;rw [if_neg (by omega),if_neg (by omega)]
theorem zbU {t:TypeId} {bs:List Int} {i h:Int} {L:Row} {k:Nat} (hn:(zuD t bs i h L k).kind.nd = true):k = 1000000 ∨ (k = 1000500∧L.kind.nd = true):=by
 unfold zuD at hn
 split at hn
 ·exact .inl ‹_›
 ·split at hn
  ·exact .inr ⟨‹_›,hn⟩
  ·cases hn
theorem za9 [zai] {P:Program} {s:St} {K:St→Prop} {f:FuncId} {args raw lents:List PV} {Ka:RV→Prop} {d k v:Nat} {t:TypeId} {bs:List Int} {i:Nat} {h:Int} {us:Dm s} {u:Dm K} {L:Row} {oj:Option Nat} {fr:Bool} {Q:RV→Prop}
 (hc:zvV P f t bs L args Q) (hL:LRow s L oj) (hk:s.rw k = ⟨v,.box t [.sl fr 1 (kL .u8 bs),.v (.int .i64 i),.v (.int .i64 h)]⟩)
 (hl:GvL (zhY k oj) (fun _=>False) (zuD t bs i h L) s.rw (.ref 1000000 1 0 :: args) raw) (hdk:(d % 1000 == k % 1000) = false) (hoj:∀ j,oj = some j→(d % 1000 == j % 1000) = false∧(k % 1000 == j % 1000) = false)
 (hK:∀ (rv:RV) (i':Nat) (h':Int),Q rv→K (zam (s.row k ⟨v,.box t [.sl false 1 (kL .u8 bs),.v (.int .i64 i'),.v (.int .i64 h')]⟩) d rv)) :
 zh4 P f lents Ka (zuM P f lents raw (some d) (kk s us) (kk K u)):=by
 have hkj:∀ j,oj = some j→k ≠ j:=fun j hj e=>beq_eq_false_iff_ne.1 (hoj j hj).2 (by rw [e])
 have hlr:∀ j,oj = some j→∃ vj e sz c,s.rw j = ⟨vj,.sli e sz false c⟩∧L = ⟨1,.sli e sz false c⟩∧zb3 c:=fun j hj=>by
  cases hL with
  | none=>cases hj
  | some h1 h2=>cases hj;exact ⟨_,_,_,_,h1,rfl,h2⟩
 have hLn:L.kind.nd = true→∃ j,oj = some j:=fun hn=>by
  cases hL with
  | none=>cases hn
  | some h1 h2=>exact ⟨_,rfl⟩
 refine zqF (hc i h) _ hl ⟨fun a ha=>?_,fun a b x na nb ha hb=>?_,fun _ _ _ _ h=>h⟩ (fun a j ha hj=>?_) fun R1 p ⟨rv,i',h',ids,hq,hg,hnd,ht1,hl1⟩=>?_
 ·rcases zbU ha with rfl | ⟨rfl,hn⟩
  ·refine ⟨Nat.le_refl _,by rw [zbX];exact Nat.one_pos,k,zaN _ _,?_⟩
   rw [zbX,hk]
   exact ⟨rfl,.one (.sl _ _ _) (.one (.v _) (.one (.v _) .nil))⟩
  ·obtain ⟨j,hj⟩:=hLn hn
   obtain ⟨vj,e,sz,c,h1,h2,h3⟩:=hlr j hj
   refine ⟨by decide,by rw [zcV,h2];exact Nat.one_pos,j,by rw [zbi];exact hj,?_⟩
   rw [zcV,h1,h2]
   exact ⟨rfl,rfl,rfl,h3⟩
 ·rcases zbU na with rfl | ⟨rfl,_⟩ <;> rcases zbU nb with rfl | ⟨rfl,_⟩
  ·rfl
  ·rw [zaN] at ha;rw [zbi] at hb;cases ha;exact absurd rfl (hkj _ hb)
  ·rw [zaN] at hb;rw [zbi] at ha;cases hb;exact absurd rfl (hkj _ ha)
  ·rfl
 ·rcases zbU ha with rfl | ⟨rfl,hn⟩
  ·rw [zaN] at hj;cases hj;exact hdk
  ·rw [zbi] at hj;exact (hoj j hj).1
 ·refine ⟨rv,ids,s.row k ⟨v,.box t [.sl false 1 (kL .u8 bs),.v (.int .i64 i'),.v (.int .i64 h')]⟩,hg,hnd,fun a ha=>?_,rfl,fun a j ha hj=>?_,fun j hj=>?_,hK rv i' h' hq⟩
  ·rcases zbU ha with rfl | ⟨rfl,hn⟩
   ·rw [ht1,zbX];exact ⟨rfl,fun _ _=>rfl⟩
   ·obtain ⟨j,hj⟩:=hLn hn
    obtain ⟨_,_,_,_,_,e,_⟩:=hlr j hj
    rw [hl1,zcV,e];exact ⟨rfl,fun _ _=>rfl⟩
  ·rcases zbU ha with rfl | ⟨rfl,hn⟩
   ·rw [zaN] at hj;cases hj
    rw [zaI,hk,ht1];rfl
   ·rw [zbi] at hj
    obtain ⟨vj,e,sz,c,h1,h2,_⟩:=hlr j hj
    rw [zas _ _ _ _ (Ne.symm (hkj j hj)),h1,hl1,h2]
  ·refine zas _ _ _ _ fun e=>hj 1000000 (by rw [zbX];rfl) (by rw [e];exact zaN _ _)
def zvI (t:TypeId) (bs:List Int) (R1:Nat→Row) (p:PV):Prop:=∃ (k v:Nat) (h:Int),p = .ref k v 0∧R1 k = ⟨v,zkC t bs 0 h⟩
def zzw [zai] (P:Program) (f:FuncId) (t:TypeId) (bs:List Int):Prop:=AG P f [.sl false 1 (kL .u8 bs)] (fun _=>⟨0,.dead⟩) (zvI t bs)
theorem zqG [zai] {P:Program} {s:St} {K:St→Prop} {f:FuncId} {raw lents:List PV} {Ka:RV→Prop} {d:Nat} {us:Dm s} {u:Dm K} {t:TypeId} {bs:List Int} (hc:zzw P f t bs)
 (hl:GvL (fun _=>none) (fun _=>False) (fun _=>⟨0,.dead⟩) s.rw [.sl false 1 (kL .u8 bs)] raw)
 (hK:∀ h:Int,K ((s.row d ⟨(s.rw d).ver + 1,.box t [.sl false 1 (kL .u8 bs),.v (.int .i64 ((0:Nat):Int)),.v (.int .i64 h)]⟩).put (some d) (.ref d ((s.rw d).ver + 1) 0))):zh4 P f lents Ka (zuM P f lents raw (some d) (kk s us) (kk K u)):=by
 refine zCF hc _ _ hl ⟨fun _ h=>(by cases h),fun _ _ _ h=>(by cases h),fun _ _ h=>(by cases h)⟩ fun R1 p ⟨k,v,h,hp,hr⟩=>?_
 subst hp
 refine ⟨fun a=>if a = k then some d else none,fun _=>(s.rw d).ver + 1,true,⟨fun _ h=>(by cases h),fun a b x ha hb=>?_,fun _ _ _ h=>(by cases h),fun a x ha _=>?_,fun _ _ h=>h⟩,fun S hS=>?_⟩
 ·have ha:(if a = k then some d else none) = some x:=ha
  have hb:(if b = k then some d else none) = some x:=hb
  by_cases h1:a = k
  ·by_cases h2:b = k
   ·rw [h1,h2]
   ·rw [if_neg h2] at hb;cases hb
  ·rw [if_neg h1] at ha;cases ha
 ·have ha:(if a = k then some d else none) = some x:=ha
  split at ha
  ·cases ha;exact Nat.lt_succ_self _
  ·cases ha
 ·have e:S = (s.row d ⟨(s.rw d).ver + 1,.box t [.sl false 1 (kL .u8 bs),.v (.int .i64 ((0:Nat):Int)),.v (.int .i64 h)]⟩).put (some d) (.ref d ((s.rw d).ver + 1) 0):=by
   refine St.ext2 (fun i=>?_) fun a=>?_
   ·rw [hS.sl]
    have hr2:zB8 (fun a=>if a = k then some d else none) R1 (fun _=>(s.rw d).ver + 1) true (.ref k v 0) = .ref d ((s.rw d).ver + 1) 0:=by
     unfold zB8 ren1
     simp only [zud,if_pos,hr,beq_self_eq_true]
    rw [hr2]
    by_cases e:i = d
    ·subst e;rw [zaH,zaH]
    ·rw [za7 _ _ _ _ e,za7 _ _ _ _ e];rfl
   ·rw [zfp]
    by_cases e:a = d
    ·subst e;rw [zaI,hS.row k a (if_pos rfl),hr];rfl
    ·rw [zas _ _ _ _ e]
     refine hS.off a fun b hb=>?_
     have hb:(if b = k then some d else none) = some a:=hb
     split at hb
     ·cases hb;exact e rfl
     ·cases hb
  rw [e];exact hK h
theorem zk0 [zai] {P:Program} {T:Tab} {s:St} {K:St→Prop} {dst:Option Nat} {ty:TypeId} {pos:String} {af:Array Edge} {g:Option (Nat × Bool)}:opK P T s ⟨dst,.assign (.const (.pointer none)),ty,pos,af,g⟩ K = K (s.put dst (.v (.pointer none))):=(rfl)
theorem zcz {k v:Nat} {oj:Option Nat} {Ln:Nat→Prop} {t:TypeId} {bs:List Int} {i h:Int} {L:Row} {R:Nat→Row} (hv:(R k).ver = v):GvA (zhY k oj) Ln (zuD t bs i h L) R (.ref 1000000 1 0) (.ref k v 0) :=
 .ref (zaN _ _) (by rw [zbX]) hv (by rw [zbX];rfl)
theorem zkD {k j v e sz:Nat} {c:List PV} {Ln:Nat→Prop} {t:TypeId} {bs:List Int} {i h:Int} {R:Nat→Row} (hv:(R j).ver = v):GvA (zhY k (some j)) Ln (zuD t bs i h ⟨1,.sli e sz false c⟩) R (.own 1000500 1) (.own j v) :=
 .own (zbi _ _) (by rw [zcV]) hv (by rw [zcV];rfl)
def zAU (t:TypeId) (bs:List Int) (x:Value × Nat × Int) (R1:Nat→Row) (p:PV):Prop:=p = .v x.1∧R1 1000000 = ⟨1,zkC t bs x.2.1 x.2.2⟩∧R1 1000500 = ⟨0,.dead⟩
def znz [zai] (P:Program) (f:FuncId) (t:TypeId) (bs:List Int) (args:List PV) (F:Nat→Int→Value × Nat × Int):Prop :=
 ∀ (i:Nat) (h:Int),AG P f (.ref 1000000 1 0 :: args) (zuD t bs i h ⟨0,.dead⟩) (zAU t bs (F i h))
theorem znz.toCur [zai] {P:Program} {f:FuncId} {t:TypeId} {bs:List Int} {args:List PV} {F:Nat→Int→Value × Nat × Int} {Q:RV→Prop} (hc:znz P f t bs args F) (hQ:∀ i h,Q (.im (.v (F i h).1))):zvV P f t bs ⟨0,.dead⟩ args Q:=fun i h=>by
 obtain ⟨h1,h2⟩:=hc i h
 refine ⟨h1,fun w M E vals hw hR hv=>(h2 w M E vals hw hR hv).mono ?_⟩
 rintro en w' ⟨E',p,v,e1,e2,e3,e4,e5,e6⟩
 exact ⟨E',p,v,e1,e2,e3,_,(F i h).2.1,(F i h).2.2,[],hQ i h,by rw [e4];exact .one (.lf (.im _)),List.nodup_nil,e5,e6⟩
theorem zqH {rho:Nat→Option Nat} {Ln:Nat→Prop} {R0 R:Nat→Row}:∀ {l:List PV},zb3 l→GvL rho Ln R0 R l l
 | [],_=>.nil
 | p :: l,h=>by
   have hp:=h p (by simp)
   cases p <;> first | exact .one (.v _) (zqH fun q hq=>h q (by simp [hq])) | (simp [isV] at hp)
def zAV (t:TypeId) (bs:List Int) (x:RV × Nat × Int) (R1:Nat→Row) (p:PV):Prop:=(∃ ids,G2 R1 x.1 p ids∧(ids.map (·.1)).Nodup)∧R1 1000000 = ⟨1,zkC t bs x.2.1 x.2.2⟩∧R1 1000500 = ⟨0,.dead⟩
def zDI [zai] (P:Program) (f:FuncId) (t:TypeId) (bs:List Int) (args:List PV) (F:Nat→Int→RV × Nat × Int):Prop :=
 ∀ (i:Nat) (h:Int),AG P f (.ref 1000000 1 0 :: args) (zuD t bs i h ⟨0,.dead⟩) (zAV t bs (F i h))
theorem zDI.askG [zai] {P:Program} {s:St} {K:St→Prop} {f:FuncId} {args:List PV} {d k v:Nat} {t:TypeId} {bs:List Int} {i:Nat} {h:Int} {fr:Bool} {F:Nat→Int→RV × Nat × Int} (hc:zDI P f t bs args F) (hp:zb3 args)
 (hk:s.rw k = ⟨v,.box t [.sl fr 1 (kL .u8 bs),.v (.int .i64 i),.v (.int .i64 h)]⟩) (hdk:(d % 1000 == k % 1000) = false)
 (hK:K (zam (s.row k ⟨v,.box t [.sl false 1 (kL .u8 bs),.v (.int .i64 (F i h).2.1),.v (.int .i64 (F i h).2.2)]⟩) d (F i h).1)):Go.Abs.askG P s f (.ref k v 0 :: args) (some d) K:=by
 refine zrR (hc i h) (zhY k none) (.one (zcz (by rw [hk])) (zqH hp)) ⟨fun a ha=>?_,fun a b x na nb ha hb=>?_,fun _ _ _ _ h=>h⟩ (fun a j ha hj=>?_) fun R1 p ⟨⟨ids,e1,en⟩,e2,e3⟩=>?_
 ·rcases zbU ha with rfl | ⟨_,hn⟩
  ·refine ⟨Nat.le_refl _,by rw [zbX];exact Nat.one_pos,k,zaN _ _,?_⟩
   rw [zbX,hk]
   exact ⟨rfl,.one (.sl _ _ _) (.one (.v _) (.one (.v _) .nil))⟩
  ·cases hn
 ·rcases zbU na with rfl | ⟨_,hn⟩
  ·rcases zbU nb with rfl | ⟨_,hn⟩
   ·rfl
   ·cases hn
  ·cases hn
 ·rcases zbU ha with rfl | ⟨_,hn⟩
  ·rw [zaN] at hj;cases hj;exact hdk
  ·cases hn
 ·refine ⟨(F i h).1,ids,s.row k ⟨v,.box t [.sl false 1 (kL .u8 bs),.v (.int .i64 (F i h).2.1),.v (.int .i64 (F i h).2.2)]⟩,e1,en,fun a ha=>?_,rfl,fun a j ha hj=>?_,fun j hj=>?_,hK⟩
  ·rcases zbU ha with rfl | ⟨_,hn⟩
   ·rw [e2,zbX];exact ⟨rfl,fun _ _=>rfl⟩
   ·cases hn
  ·rcases zbU ha with rfl | ⟨_,hn⟩
   ·rw [zaN] at hj;cases hj
    rw [zaI,hk,e2];rfl
   ·cases hn
  ·exact zas _ _ _ _ fun e=>hj 1000000 (by rw [zbX];rfl) (by rw [e];exact zaN _ _)
theorem znz.askG [zai] {P:Program} {s:St} {K:St→Prop} {f:FuncId} {args:List PV} {d k v:Nat} {t:TypeId} {bs:List Int} {i:Nat} {h:Int} {fr:Bool} {F:Nat→Int→Value × Nat × Int} (hc:znz P f t bs args F) (hp:zb3 args)
 (hk:s.rw k = ⟨v,.box t [.sl fr 1 (kL .u8 bs),.v (.int .i64 i),.v (.int .i64 h)]⟩) (hdk:(d % 1000 == k % 1000) = false)
 (hK:K ((s.row k ⟨v,.box t [.sl false 1 (kL .u8 bs),.v (.int .i64 (F i h).2.1),.v (.int .i64 (F i h).2.2)]⟩).put (some d) (.v (F i h).1))):Go.Abs.askG P s f (.ref k v 0 :: args) (some d) K :=
 zDI.askG (F:=fun i h=>(.im (.v (F i h).1),(F i h).2)) (fun i h=>(hc i h).imp id fun h2 w M E vals hw hR hv=>(h2 w M E vals hw hR hv).mono (by
  rintro en w' ⟨E',p,v,e1,e2,e3,e4,e5,e6⟩
  exact ⟨E',p,v,e1,e2,e3,⟨[],by rw [e4];exact .one (.lf (.im _)),List.nodup_nil⟩,e5,e6⟩)) hp hk hdk (by rw [zdz];exact hK)
theorem zvJ [zai] {P:Program} {s:St} {Ke:Ent→St→Prop} {f:FuncId} {args lents:List PV} {Ka:RV→Prop} {d k v:Nat} {t:TypeId} {bs:List Int} {i:Nat} {h:Int} {fr:Bool} {F:Nat→Int→Value × Nat × Int} {us:Dm s} {u:Dm Ke} (hc:znz P f t bs args F) (hp:zb3 args)
 (hk:s.rw k = ⟨v,.box t [.sl fr 1 (kL .u8 bs),.v (.int .i64 i),.v (.int .i64 h)]⟩) (hdk:(d % 1000 == k % 1000) = false)
 (hK:Ke ⟨[],.ids [d,k]⟩ ((s.row k ⟨v,.box t [.sl false 1 (kL .u8 bs),.v (.int .i64 (F i h).2.1),.v (.int .i64 (F i h).2.2)]⟩).put (some d) (.v (F i h).1))) :
 zh4 P f lents Ka (zBI P f (.ref k v 0 :: args) d (kk s us) (kk Ke u)) :=
 ztH [] (fun s' hs' _ _ hK'=>hc.askG hp (hs'.trans hk) hdk hK') (beq_eq_false_iff_ne.1 hdk) hK
theorem zek [zai] {P:Program} {s:St} {K:St→Prop} {f:FuncId} {args lents:List PV} {Ka:RV→Prop} {d k v:Nat} {t:TypeId} {bs:List Int} {i:Nat} {h:Int} {fr:Bool} {F:Nat→Int→Value × Nat × Int} {us:Dm s} {u:Dm K} (hc:znz P f t bs args F) (hp:zb3 args)
 (hk:s.rw k = ⟨v,.box t [.sl fr 1 (kL .u8 bs),.v (.int .i64 i),.v (.int .i64 h)]⟩) (hdk:(d % 1000 == k % 1000) = false)
 (hK:K ((s.row k ⟨v,.box t [.sl false 1 (kL .u8 bs),.v (.int .i64 (F i h).2.1),.v (.int .i64 (F i h).2.2)]⟩).put (some d) (.v (F i h).1))) :
 zh4 P f lents Ka (zuM P f lents (.ref k v 0 :: args) (some d) (kk s us) (kk K u)):=.inr (.inr (.inr (.inr (hc.askG hp hk hdk hK))))
def zAW (t:TypeId) (bs:List Int) (L:Row) (x:Value × Nat × Int) (R1:Nat→Row) (p:PV):Prop:=p = .v x.1∧R1 1000000 = ⟨1,zkC t bs x.2.1 x.2.2⟩∧R1 1000500 = L
def zvK [zai] (P:Program) (f:FuncId) (t:TypeId) (bs:List Int) (e:TypeId) (c:List PV) (F:Nat→Int→Value × Nat × Int):Prop :=
 ∀ (i:Nat) (h:Int),AG P f [.ref 1000000 1 0,.own 1000500 1] (zuD t bs i h ⟨1,.sli e 1 false c⟩) (zAW t bs ⟨1,.sli e 1 false c⟩ (F i h))
theorem zvK.toCur [zai] {P:Program} {f:FuncId} {t:TypeId} {bs:List Int} {e:TypeId} {c:List PV} {F:Nat→Int→Value × Nat × Int} {Q:RV→Prop} (hc:zvK P f t bs e c F) (hQ:∀ i h,Q (.im (.v (F i h).1))):zvV P f t bs ⟨1,.sli e 1 false c⟩ [.own 1000500 1] Q:=fun i h=>by
 obtain ⟨h1,h2⟩:=hc i h
 refine ⟨h1,fun w M E vals hw hR hv=>(h2 w M E vals hw hR hv).mono ?_⟩
 rintro en w' ⟨E',p,v,e1,e2,e3,e4,e5,e6⟩
 exact ⟨E',p,v,e1,e2,e3,_,(F i h).2.1,(F i h).2.2,[],hQ i h,by rw [e4];exact .one (.lf (.im _)),List.nodup_nil,e5,e6⟩
theorem zvK.askG [zai] {P:Program} {s:St} {K:St→Prop} {f:FuncId} {d k v j vj:Nat} {t e:TypeId} {c:List PV} {bs:List Int} {i:Nat} {h:Int} {fr:Bool} {F:Nat→Int→Value × Nat × Int} (hc:zvK P f t bs e c F) (hp:zb3 c)
 (hk:s.rw k = ⟨v,.box t [.sl fr 1 (kL .u8 bs),.v (.int .i64 i),.v (.int .i64 h)]⟩) (hj:s.rw j = ⟨vj,.sli e 1 false c⟩) (hdk:(d % 1000 == k % 1000) = false) (hdj:(d % 1000 == j % 1000) = false) (hkj:(k % 1000 == j % 1000) = false)
 (hK:K ((s.row k ⟨v,.box t [.sl false 1 (kL .u8 bs),.v (.int .i64 (F i h).2.1),.v (.int .i64 (F i h).2.2)]⟩).put (some d) (.v (F i h).1))):Go.Abs.askG P s f [.ref k v 0,.own j vj] (some d) K:=by
 have hkj':k ≠ j:=fun e=>beq_eq_false_iff_ne.1 hkj (by rw [e])
 refine zrR (hc i h) (zhY k (some j)) (.one (zcz (by rw [hk])) (.one (zkD (by rw [hj])) .nil)) ⟨fun a ha=>?_,fun a b x na nb ha hb=>?_,fun _ _ _ _ h=>h⟩ (fun a x ha hx=>?_) fun R1 p ⟨e1,e2,e3⟩=>?_
 ·rcases zbU ha with rfl | ⟨rfl,_⟩
  ·refine ⟨Nat.le_refl _,by rw [zbX];exact Nat.one_pos,k,zaN _ _,?_⟩
   rw [zbX,hk]
   exact ⟨rfl,.one (.sl _ _ _) (.one (.v _) (.one (.v _) .nil))⟩
  ·refine ⟨by decide,by rw [zcV];exact Nat.one_pos,j,zbi _ _,?_⟩
   rw [zcV,hj]
   exact ⟨rfl,rfl,rfl,hp⟩
 ·rcases zbU na with rfl | ⟨rfl,_⟩ <;> rcases zbU nb with rfl | ⟨rfl,_⟩
  ·rfl
  ·rw [zaN] at ha;rw [zbi] at hb;cases ha;cases hb;exact absurd rfl hkj'
  ·rw [zaN] at hb;rw [zbi] at ha;cases ha;cases hb;exact absurd rfl hkj'
  ·rfl
 ·rcases zbU ha with rfl | ⟨rfl,_⟩
  ·rw [zaN] at hx;cases hx;exact hdk
  ·rw [zbi] at hx;cases hx;exact hdj
 ·refine ⟨.im (.v (F i h).1),[],s.row k ⟨v,.box t [.sl false 1 (kL .u8 bs),.v (.int .i64 (F i h).2.1),.v (.int .i64 (F i h).2.2)]⟩,by rw [e1];exact .one (.lf (.im _)),List.nodup_nil,fun a ha=>?_,rfl,fun a x ha hx=>?_,fun x hx=>?_,by rw [zdz];exact hK⟩
  ·rcases zbU ha with rfl | ⟨rfl,_⟩
   ·rw [e2,zbX];exact ⟨rfl,fun _ _=>rfl⟩
   ·rw [e3,zcV];exact ⟨rfl,fun _ _=>rfl⟩
  ·rcases zbU ha with rfl | ⟨rfl,_⟩
   ·rw [zaN] at hx;cases hx
    rw [zaI,hk,e2];rfl
   ·rw [zbi] at hx;cases hx
    rw [zas _ _ _ _ (Ne.symm hkj'),hj,e3]
  ·exact zas _ _ _ _ fun e=>hx 1000000 (by rw [zbX];rfl) (by rw [e];exact zaN _ _)
theorem zrS [zai] {P:Program} {s:St} {Ke:Ent→St→Prop} {f:FuncId} {lents:List PV} {Ka:RV→Prop} {d k v j vj:Nat} {t e:TypeId} {c:List PV} {bs:List Int} {i:Nat} {h:Int} {fr:Bool} {F:Nat→Int→Value × Nat × Int} {us:Dm s} {u:Dm Ke} (hc:zvK P f t bs e c F) (hp:zb3 c)
 (hk:s.rw k = ⟨v,.box t [.sl fr 1 (kL .u8 bs),.v (.int .i64 i),.v (.int .i64 h)]⟩) (hj:s.rw j = ⟨vj,.sli e 1 false c⟩) (hdk:(d % 1000 == k % 1000) = false) (hdj:(d % 1000 == j % 1000) = false) (hkj:(k % 1000 == j % 1000) = false)
 (hK:Ke ⟨[j],.ids [d,k]⟩ ((s.row k ⟨v,.box t [.sl false 1 (kL .u8 bs),.v (.int .i64 (F i h).2.1),.v (.int .i64 (F i h).2.2)]⟩).put (some d) (.v (F i h).1))) :
 zh4 P f lents Ka (zBI P f [.ref k v 0,.own j vj] d (kk s us) (kk Ke u)) :=
 ztH [j] (fun s' hs' ha _ hK'=>hc.askG hp (hs'.trans hk) ((ha j (by simp)).trans hj) hdk hdj hkj hK') (beq_eq_false_iff_ne.1 hdk) hK
theorem znA (T:Tab) (s:St) (r1 r2:ResultVar) (post:(Nat→Row)→PV→Prop):zxS T s [r1,r2] post = zvR T s [r1,r2] (kk fun ps=>post s.rw (.tup ps)):=(rfl)
end Go.Abs

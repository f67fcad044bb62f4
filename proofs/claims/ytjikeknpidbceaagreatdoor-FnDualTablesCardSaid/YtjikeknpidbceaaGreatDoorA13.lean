/- DERIVED by an AI agent. -/
import Derived.Test.YtjikeknpidbceaaGreatDoorA12
import Derived.Shelf.Strings.OnBuilder
import Derived.Shelf.Strconv.Itoa3
import Derived.Lib.LaidU8
/- DERIVED by an AI agent. Tables whose rows are appended to. No program in sight. -/
namespace Go.Abs
set_option linter.unusedSimpArgs false
set_option linter.unusedVariables false
def zdw (k n:Nat) (g:Nat→Nat):List PV:=(List.range n).map fun j=>.own (sid k j) (g j)
theorem zhi (k n:Nat) (g:Nat→Nat):(zdw k n g).length = n:=by simp [zdw]
structure TabF (rw:Nat→Row) (k v e e2 n:Nat) (g:Nat→Nat) (M:Nat→List Int):Prop where
 top:rw k = ⟨v,.tab e (zdw k n g)⟩
 row:∀ j,j < n→rw (sid k j) = ⟨g j,.sli e2 1 false (iL (M j))⟩
section
variable {s:St} {rw rw':Nat→Row} {k v e e2 n:Nat} {g:Nat→Nat} {M:Nat→List Int}
theorem TabF.same (h:TabF rw k v e e2 n g M) (h1:rw' k = rw k) (h2:∀ x,rw' (sid k x) = rw (sid k x)):TabF rw' k v e e2 n g M:=⟨h1.trans h.top,fun j hj=>(h2 j).trans (h.row j hj)⟩
theorem TabF.add (h:TabF rw k v e e2 n g M) {o:Nat} (ho:o < n) {r:List Int} {g':Nat→Nat} {M':Nat→List Int} (h1:rw' k = ⟨v,.tab e (spl (zdw k n g) o [.own (sid k o) (g o + 1)])⟩) (h2:rw' (sid k o) = ⟨g o + 1,.sli e2 1 false (iL r)⟩)
 (h3:∀ x,¬ x = o→rw' (sid k x) = rw (sid k x)) (hg:∀ j,j < n→g' j = if j = o then g o + 1 else g j) (hM:∀ j,j < n→M' j = if j = o then r else M j):TabF rw' k v e e2 n g' M':=by
 refine ⟨?_,fun j hj=>?_⟩
 ·rw [h1]
  congr 2
  show (zdw k n g).set o _ = _
  refine List.ext_getElem (by simp [zdw]) fun j a b=>?_
  have hj:j < n:=by simpa [zdw] using b
  rw [List.getElem_set]
  simp only [zdw,List.getElem_map,List.getElem_range,hg j hj]
  by_cases e:o = j
  ·subst e;simp
  ·rw [if_neg e,if_neg (Ne.symm e)]
 ·rw [hg j hj,hM j hj]
  by_cases e:j = o
  ·subst e;rw [if_pos rfl,if_pos rfl,h2]
  ·rw [if_neg e,if_neg e,h3 j e,h.row j hj]
theorem zz2 [zad] {T:Tab} {Kp:PV→Prop} (k n:Nat) (g:Nat→Nat) {t:TypeId} (o:Nat) (h0:(T t).k.agg = false) (h1:0 < (T t).size):ldK T t .asis (zdw k n g) o Kp = (o < n∧Kp (.own (sid k o) (g o))):=by
 have:=zeQ (T:=T) (Kp:=Kp) (fun j=>PV.own (sid k j) (g j)) 0 (List.range n) (t:=t) (m:=.asis) o (fun j=>.own (sid k j) (g j)) (fun _=>rfl) h0 h1
 refine (show ldK T t .asis (zdw k n g) o Kp = _ from this).trans ?_
 rw [List.length_range]
 refine propext ⟨fun ⟨a,b⟩=>⟨a,?_⟩,fun ⟨a,b⟩=>⟨a,?_⟩⟩
 ·have e1:(List.range n).getD o 0 = o:=by simp [List.getD,a]
  rwa [e1] at b
 ·have e1:(List.range n).getD o 0 = o:=by simp [List.getD,a]
  rwa [e1]
theorem TabF.init [zad] (e2:Nat) (hk:s.rw k = ⟨v,.sli e 1 false (List.replicate n (.v (.slice none 0 0)))⟩) (hd:∀ j,s.rw (sid k j) = ⟨0,.dead⟩) :
 ∃ s',Wk s s'∧TabF s'.rw k v e e2 n (fun _=>1) (fun _=>[])∧s'.sl = s.sl∧∀ j,(j % 1000 == k % 1000) = false→s'.rw j = s.rw j:=by
 let R':(Nat→Row)→Nat→Row:=fun R j=>if j = k then ⟨v,.tab e (zdw k n fun _=>1)⟩ else if k < j∧(j - k) % 1000 = 0∧(j - k) / 1000 - 1 < n then ⟨1,.sli e2 1 false []⟩ else R j
 have Rk:∀ R,R' R k = ⟨v,.tab e (zdw k n fun _=>1)⟩:=fun R=>by simp only [R',if_true]
 have Rs:∀ R j,j < n→R' R (sid k j) = ⟨1,.sli e2 1 false []⟩:=fun R j hj=>by
  have h1:¬ sid k j = k:=zc5 k j
  have h2:k < sid k j∧(sid k j - k) % 1000 = 0∧(sid k j - k) / 1000 - 1 < n:=by rw [zbq];omega
  simp only [R',if_neg h1,if_pos h2]
 have Ro:∀ R j,¬ (j = k ∨ ∃ i,i < n∧j = sid k i)→R' R j = R j:=fun R j hj=>by
  have h1:¬ j = k:=fun h=>hj (.inl h)
  have h2:¬ (k < j∧(j - k) % 1000 = 0∧(j - k) / 1000 - 1 < n):=fun h=>hj (.inr ⟨_,h.2.2,by rw [zbq];omega⟩)
  simp only [R',if_neg h1,if_neg h2]
 refine ⟨{ s with rw:=R' s.rw },?_,⟨Rk _,fun j hj=>Rs _ j hj⟩,rfl,fun j hj=>?_⟩
 ·intro G a w ⟨E,hs⟩
  have hR:E.R k = ⟨v,.sli e 1 false (List.replicate n (.v (.slice none 0 0)))⟩:=by rw [hs.rw];exact hk
  have hD:∀ j,E.R (sid k j) = ⟨0,.dead⟩:=fun j=>by rw [hs.rw];exact hd j
  let rm':Nat→Option Nat:=fun j=>if j = k then E.rm k else if k < j∧(j - k) % 1000 = 0∧(j - k) / 1000 - 1 < n then none else E.rm j
  let rv':Nat→Value:=fun j=>if j = k then E.rv k else if k < j∧(j - k) % 1000 = 0∧(j - k) / 1000 - 1 < n then .slice none 0 0 else E.rv j
  have Mk:rm' k = E.rm k:=by simp only [rm',if_true]
  have Vk:rv' k = E.rv k:=by simp only [rv',if_true]
  have cond:∀ j,j < n→¬ sid k j = k∧(k < sid k j∧(sid k j - k) % 1000 = 0∧(sid k j - k) / 1000 - 1 < n):=fun j hj=>⟨zc5 k j,by rw [zbq];omega⟩
  have Ms:∀ j,j < n→rm' (sid k j) = none:=fun j hj=>by simp only [rm',if_neg (cond j hj).1,if_pos (cond j hj).2]
  have Vs:∀ j,j < n→rv' (sid k j) = .slice none 0 0:=fun j hj=>by simp only [rv',if_neg (cond j hj).1,if_pos (cond j hj).2]
  have out:∀ j,¬ (j = k ∨ ∃ i,i < n∧j = sid k i)→rm' j = E.rm j∧rv' j = E.rv j:=fun j hj=>by
   have h1:¬ j = k:=fun h=>hj (.inl h)
   have h2:¬ (k < j∧(j - k) % 1000 = 0∧(j - k) / 1000 - 1 < n):=fun h=>hj (.inr ⟨_,h.2.2,by rw [zbq];omega⟩)
   simp only [rm',rv',if_neg h1,if_neg h2,and_self]
  let E':Env:={ R:=R' E.R,rm:=rm',rv:=rv',L:=mkL E.X (R' E.R) rm',B:=E.B,X:=E.X }
  have ht:Turn G E E' w w (fun j=>j = k ∨ ∃ i,i < n∧j = sid k i):=by
   refine ⟨rfl,rfl,rfl,fun j hj=>⟨Ro _ j hj,(out j hj).1,(out j hj).2⟩,fun _ _ _=>rfl,fun j b hj hb hn=>?_,fun j hj=>?_,fun j hj he hsl=>?_,fun j hj he hsl=>?_,fun j hj hn=>?_,fun j j' b hj hj' h1 h2 e1 e2=>?_,Nat.le_refl _,rfl,rfl,⟨rfl,fun _=>by first | exact Nat.le_refl _ | exact Nat.le_succ _⟩⟩
   ·rcases hj with rfl | ⟨i,hi,rfl⟩
    ·have hb:rm' j = some b:=hb
     rw [Mk] at hb
     exact .inr ⟨hb,by rw [hR];rfl,fun _=>by rw [hR];rfl⟩
    ·have hb:rm' (sid k i) = some b:=hb
     rw [Ms i hi] at hb;cases hb
   ·show _ ≤ (R' E.R j).ver
    rcases hj with rfl | ⟨i,hi,rfl⟩
    ·rw [Rk,hR];exact Nat.le_refl _
    ·rw [Rs _ i hi,hD];exact Nat.zero_le _
   ·have he:(R' E.R j).ver = (E.R j).ver:=he
    rcases hj with rfl | ⟨i,hi,rfl⟩
    ·exact ⟨by rw [hR];rfl,Vk⟩
    ·rw [Rs _ i hi,hD] at he;cases he
   ·have he:(R' E.R j).ver = (E.R j).ver:=he
    rcases hj with rfl | ⟨i,hi,rfl⟩
    ·exact ⟨by rw [hR];rfl,Mk⟩
    ·rw [Rs _ i hi,hD] at he;cases he
   ·show 0 < (R' E.R j).ver
    rcases hj with rfl | ⟨i,hi,rfl⟩
    ·have:=hs.wok.pos j (by rw [hR];rfl)
     rw [hR] at this
     rw [Rk];exact this
    ·rw [Rs _ i hi];exact Nat.one_pos
   ·have e1:rm' j = some b:=e1
    have e2:rm' j' = some b:=e2
    rcases hj with rfl | ⟨i,hi,rfl⟩
    ·rcases hj' with rfl | ⟨i',hi',rfl⟩
     ·rfl
     ·rw [Ms i' hi'] at e2;cases e2
    ·rw [Ms i hi] at e1;cases e1
  have hrows:∀ j,(j = k ∨ ∃ i,i < n∧j = sid k i)→zau w E' G.C j:=by
   intro j hj
   unfold zau
   show match (R' E.R j).kind with | .dead=>True | .nil=>_ | .box t cells=>_ | .sli e sz _ cells=>_ | .tab e cells=>_
   rcases hj with rfl | ⟨i,hi,rfl⟩
   ·have hrow:=hs.wok.rows j
    unfold zau at hrow
    rw [hR] at hrow
    rw [Rk]
    show (rm' j = none∧rv' j = _∧_) ∨ _
    rw [Mk,Vk]
    rcases hrow with ⟨h1,h2,h3⟩ | ⟨b,m,cap,vs,rest,h1,h2,h3,h4,h5,h6,h7,h8,h9⟩
    ·refine .inl ⟨h1,h2,?_⟩
     have:n = 0:=by simpa using congrArg List.length h3
     subst this;rfl
    ·refine .inr ⟨b,m,cap,vs,rest,Mk.trans h1,h2,Vk.trans h3,h4,by omega,h6,h7,by omega,by rw [zhi,← h9.1];simp,fun i a' b'=>?_⟩
     have hi:i < n:=by simpa [zdw] using a'
     have h0:=h9.2 i (by simpa using hi) b'
     have e1:(zdw j n fun _=>1)[i] = .own (sid j i) 1:=by simp [zdw]
     have hv:vs[i] = .slice none 0 0:=by
      simp only [List.getElem_replicate] at h0
      exact h0.v_eq
     rw [e1,hv]
     refine .own ?_ fun _ _=>?_
     ·show 1 ≤ (R' E.R (sid j i)).ver
      rw [Rs _ i hi];exact Nat.le_refl _
     ·exact (Vs i hi).symm
   ·rw [Rs _ i hi]
    exact .inl ⟨Ms i hi,Vs i hi,rfl⟩
  have key:SimE G E' ({ s with rw:=R' E.R }:St) a w:=ht.sim hs hrows
  rw [hs.rw] at key
  exact ⟨_,key⟩
 ·have hj:=beq_eq_false_iff_ne.1 hj
  refine Ro _ j fun h=>hj ?_
  rcases h with rfl | ⟨i,_,rfl⟩
  ·rfl
  ·exact zcn _ _
variable {Q:AX→St→Prop}
theorem zz3 [zad] {α:Type} (hk:s.rw k = ⟨v,.sli e 1 false (List.replicate n (.v (.slice none 0 0)))⟩) (hd:∀ j,s.rw (sid k j) = ⟨0,.dead⟩) (I:α→St→Prop) (μ:α→Nat) (x0:α) {b:(AX→St→Prop)→St→Prop} {u:Dm b} {w:Dm Q}
 (h0:∀ s',TabF s'.rw k v e e2 n (fun _=>1) (fun _=>[])→s'.sl = s.sl→(∀ j,(j % 1000 == k % 1000) = false→s'.rw j = s.rw j)→I x0 s') (h:∀ x s1,I x s1→b (AX.seq (ziO I μ (μ x)) Q) s1):zqU (kk b u) (kk Q w) s:=by
 obtain ⟨s',hw,ht,hsl,ho⟩:=TabF.init e2 hk hd
 exact ⟨α,I,μ,⟨x0,s',hw,h0 s' ht hsl ho⟩,h⟩
theorem zBV {ids:List Nat}:∀ (l:List Nat) (rows:List (List PV)) (K:List Nat→Prop),rows.length = l.length→(∀ i (a:i < l.length) (b:i < rows.length),sid k l[i] < lent∧rw (sid k l[i]) = ⟨g l[i],.sli e2 1 false rows[i]⟩)→K (l.map (sid k)) →
 zqS rw e2 (l.map fun j=>.own (sid k j) (g j)) rows K:=by
 intro l
 induction l with
 | nil=>intro rows K h _ hk;cases rows with | nil=>exact hk | cons r rs=>simp at h
 | cons j l ih =>
   intro rows K h hr hk
   cases rows with
   | nil=>simp at h
   | cons r rs =>
     have h0:=hr 0 (by simp) (by simp)
     exact ⟨h0.1,h0.2,ih rs _ (by simpa using h) (fun i a b=>hr (i + 1) (by simpa using a) (by simpa using b)) hk⟩
theorem zz4 [zad] (h:TabF rw k v e e2 n g M) (hk:k < 1000) (hn:n ≤ 900):znX rw (.own k v) (.tb e e2 ((List.range n).map fun j=>iL (M j))) List.Nodup:=by
 have hkl:k < lent:=by unfold lent;omega
 show ziP rw (.own k v) (.tb e e2 _) List.Nodup
 unfold ziP
 simp only [h.top]
 refine ⟨hkl,trivial,trivial,zBV (ids:=[]) (List.range n) _ _ (by simp) (fun i a b=>?_) ?_⟩
 ·have hi:i < n:=by simpa using a
  simp only [List.getElem_range,List.getElem_map]
  exact ⟨zjn hk (by omega),h.row i hi⟩
 ·refine List.nodup_cons.2 ⟨fun hm=>?_,?_⟩
  ·obtain ⟨j,_,hj⟩:=List.mem_map.1 hm
   rw [zbq] at hj;omega
  ·refine List.Pairwise.map _ (fun a b hab=>?_) List.nodup_range
   rw [Ne,zeY];exact hab
end
end Go.Abs

/- DERIVED by an AI agent. Functions that are given a table and hand it back longer. No program in sight. -/
namespace Go.Abs
set_option linter.unusedSimpArgs false
set_option linter.unusedVariables false
structure TabU (rw:Nat→Row) (k v e e2:Nat) (ids:List (Nat × Nat)) (M:Mat):Prop where
 top:rw k = ⟨v,.tab e (ids.map fun x=>.own x.1 x.2)⟩
 len:ids.length = M.length
 row:∀ i (h:i < ids.length),rw ids[i].1 = ⟨ids[i].2,.sli e2 1 false (iL (M.getD i []))⟩
 nd:(k :: ids.map (·.1)).Nodup
def zve (e e2 n:Nat) (M':Mat) (R1:Nat→Row) (p:PV):Prop :=
 ∃ (v:Nat) (ids:List (Nat × Nat)),p = .own lent v∧TabU R1 lent v e e2 ids M'∧n ≤ ids.length∧∀ i (_:i < n) (h:i < ids.length),ids[i] = (sid lent i,1)
def AGr [zad] (P:Program) (f:FuncId) (args:List PV) (e e2:Nat) (M M':Mat):Prop:=AG P f args (inT e e2 (M.map iL)) (zve e e2 M.length M')
theorem zGI {l:List Nat} (h:l.Nodup) {i j:Nat} (hi:i < l.length) (hj:j < l.length) (e:l[i] = l[j]):i = j:=(List.getElem_inj (h₀:=hi) (h₁:=hj) h).1 e
section
variable {R1:Nat→Row} {k v e e2 n:Nat} {ids:List (Nat × Nat)} {M:Mat}
theorem TabU.inj [zad] (h:TabU R1 k v e e2 ids M) {i j:Nat} (hi:i < ids.length) (hj:j < ids.length) (he:ids[i].1 = ids[j].1):i = j :=
 zGI (List.nodup_cons.1 h.nd).2 (by simpa using hi) (by simpa using hj) (by simpa using he)
theorem TabU.ne (h:TabU R1 k v e e2 ids M) {i:Nat} (hi:i < ids.length):ids[i].1 ≠ k:=fun he =>
 (List.nodup_cons.1 h.nd).1 (List.mem_map.2 ⟨_,List.getElem_mem hi,he⟩)
def zDI (k n j:Nat):Option Nat:=if j = lent then some k else if lent < j∧(j - lent) % 1000 = 0∧(j - lent) / 1000 - 1 < n then some (sid k ((j - lent) / 1000 - 1)) else none
theorem zBU (k n:Nat):zDI k n lent = some k:=by unfold zDI;rw [if_pos rfl]
theorem zvf [zad] (k:Nat) {n i:Nat} (h:i < n):zDI k n (sid lent i) = some (sid k i):=by
 obtain ⟨h1,h2,h3⟩:=zkB i
 unfold zDI;rw [if_neg (by omega),if_pos ⟨h1,h2,by omega⟩,h3]
theorem zkR [zad] {k n j i:Nat} (h:zDI k n j = some i):(j = lent∧i = k) ∨ ∃ x,x < n∧j = sid lent x∧i = sid k x:=by
 unfold zDI at h
 split at h
 ·cases h;exact .inl ⟨‹_›,rfl⟩
 ·split at h
  ·rename_i h2
   cases h
   exact .inr ⟨_,h2.2.2,by rw [zbq];omega,rfl⟩
  ·cases h
structure TabH (rw:Nat→Row) (k v e e2 n:Nat) (M:Mat):Prop where
 top:rw k = ⟨v,.tab e (zav k (List.range n))⟩ ∨ (n = 0∧rw k = ⟨v,.sli e 1 false []⟩)
 len:M.length = n
 row:∀ j,j < n→rw (sid k j) = ⟨1,.sli e2 1 false (iL (M.getD j []))⟩
 rest:∀ j,n ≤ j→rw (sid k j) = ⟨0,.dead⟩
theorem TabH.ver {rw:Nat→Row} (h:TabH rw k v e e2 n M):(rw k).ver = v:=by rcases h.top with h | ⟨_,h⟩ <;> rw [h]
theorem TabH.give [zad] {rw:Nat→Row} {Ln:Nat→Prop} (h:TabH rw k v e e2 M.length M) (hl:∀ j,Ln j→(j % 1000 == k % 1000) = false):Give (zDI k M.length) Ln (inT e e2 (M.map iL)) rw:=by
 have hlm:(M.map iL).length = M.length:=List.length_map _
 have hcells:∀ l:List Nat,(∀ j ∈ l,j < M.length)→GvL (zDI k M.length) Ln (inT e e2 (M.map iL)) rw (zav lent l) (zav k l):=by
  intro l
  induction l with
  | nil=>intro _;exact .nil
  | cons j l ih =>
    intro hj
    have h1:=hj j (by simp)
    refine .one (.own (zvf k h1) ?_ ?_ ?_) (ih fun x hx=>hj x (by simp [hx]))
    ·rw [zdq (by rw [hlm];exact h1)]
    ·rw [h.row j h1]
    ·rw [zdq (by rw [hlm];exact h1)];rfl
 refine ⟨fun j hj=>?_,fun j j' i n1 n2 h1 h2=>?_,fun j i hj hr hln=>?_⟩
 ·rcases zq5 hj with rfl | ⟨i,hi,rfl⟩
  ·refine ⟨Nat.le_refl _,by rw [zc0];exact Nat.one_pos,k,zBU _ _,?_⟩
   rw [zc0,hlm]
   rcases h.top with ht | ⟨h0,ht⟩
   ·rw [ht]
    exact ⟨rfl,hcells _ fun j hj=>List.mem_range.1 hj⟩
   ·rw [ht]
    exact ⟨rfl,rfl,by rw [h0];rfl,rfl⟩
  ·rw [hlm] at hi
   refine ⟨Nat.le_of_lt (zkB i).1,by rw [zdq (by rw [hlm];exact hi)];exact Nat.one_pos,_,zvf k hi,?_⟩
   rw [zdq (by rw [hlm];exact hi),h.row i hi,zcp]
   exact ⟨rfl,rfl,rfl,zc8 _⟩
 ·rcases zkR h1 with ⟨a1,a2⟩ | ⟨x,_,a1,a2⟩ <;> rcases zkR h2 with ⟨b1,b2⟩ | ⟨y,_,b1,b2⟩
  ·rw [a1,b1]
  ·rw [a2] at b2;exact absurd b2.symm (zc5 k y)
  ·rw [a2] at b2;exact absurd b2 (zc5 k x)
  ·rw [a2] at b2;have:=zc9 b2;subst this;rw [a1,b1]
 ·have hm:=beq_eq_false_iff_ne.1 (hl i hln)
  rcases zkR hr with ⟨_,rfl⟩ | ⟨x,_,_,rfl⟩
  ·exact hm rfl
  ·exact hm (zcn _ _)
end
def zz1 (wrap:PV→PV) (e e2:Nat) (M:Mat) (R1:Nat→Row) (p:PV):Prop:=∃ (k v:Nat) (ids:List (Nat × Nat)),p = wrap (.own k v)∧TabU R1 k v e e2 ids M
def ANw [zad] (P:Program) (f:FuncId) (args:List PV) (wrap:PV→PV) (e e2:Nat) (M:Mat):Prop:=AG P f args (fun _=>⟨0,.dead⟩) (zz1 wrap e e2 M)
theorem ANw.go [zad] {P:Program} {T:Tab} {f:FuncId} {fn:Func} {c:Code} {rs:List ResultVar} {args:List PV} {wrap:PV→PV} {e e2:Nat} {M:Mat} (hT:T.Ok P) (hm:P.follows .mixedOrders = true) (hf:P.funcs[f]? = some fn) (hname:(fn.name == "runtime.NumGoroutine") = false)
 (hb:fn.body = some c) (hr:fn.results.toList = rs) (hfit:(fits fn.ntmps c && decide (args.length ≤ fn.ntmps) && decide (fn.results.toList.length ≤ 4)) = true)
 (h:zBA args→∀ s:St,(∀ i,s.sl i = args.getD i .junk)→(∀ j,s.rw j = ⟨0,.dead⟩)→cwp P T c (zDB T rs (zz1 wrap e e2 M)) s):ANw P f args wrap e e2 M :=
 AG.go hT hm hf hname hb hr hfit fun h1 h2 s hs hrw=>h h1 s hs hrw
theorem AGr.go [zad] {P:Program} {T:Tab} {f:FuncId} {fn:Func} {c:Code} {rs:List ResultVar} {args:List PV} {e e2:Nat} {M M':Mat} (hT:T.Ok P) (hm:P.follows .mixedOrders = true) (hf:P.funcs[f]? = some fn) (hname:(fn.name == "runtime.NumGoroutine") = false)
 (hb:fn.body = some c) (hr:fn.results.toList = rs) (hfit:(fits fn.ntmps c && decide (args.length ≤ fn.ntmps) && decide (fn.results.toList.length ≤ 4)) = true)
 (h:zBA args→M.length ≤ 9223372036854775807→∀ s:St,(∀ i,s.sl i = args.getD i .junk)→(∀ j,j < 1000000→s.rw j = ⟨0,.dead⟩)→TabG s.rw 1000000 1 e e2 M.length M→cwp P T c (zDB T rs (zve e e2 M.length M')) s):AGr P f args e e2 M M':=by
 have hlm:(M.map iL).length = M.length:=List.length_map _
 refine AG.go hT hm hf hname hb hr hfit fun h1 h2 s hs hrw=>h h1 ?_ s hs (fun j hj=>?_) ⟨?_,rfl,fun j hj=>?_,fun j hj=>?_⟩
 ·have:=h2 lent
  rw [zc0] at this
  have:(zav lent (List.range (M.map iL).length)).length ≤ 9223372036854775807:=this
  rwa [zaj,List.length_range,hlm] at this
 ·rw [hrw,zzC (by unfold lent;exact hj)]
 ·rw [hrw]
  have:=zc0 (e:=e) (e2:=e2) (rows:=M.map iL)
  rw [hlm] at this
  exact this
 ·rw [hrw]
  have:=zdq (e:=e) (e2:=e2) (rows:=M.map iL) (i:=j) (by rw [hlm];exact hj)
  rw [zcp] at this
  exact this
 ·rw [hrw]
  by_cases hn:(inT e e2 (M.map iL) (sid lent j)).kind.nd = true
  ·rcases zq5 hn with h | ⟨i,hi,h⟩
   ·exact absurd h (zc5 _ _)
   ·have:=zc9 h;rw [hlm] at hi;omega
  ·show inT e e2 (M.map iL) (sid lent j) = _
   unfold inT at hn ⊢
   split
   ·rename_i h;exact absurd h (zc5 _ _)
   ·split
    ·rename_i h1 h2;rw [if_neg h1,if_pos h2] at hn;exact absurd rfl hn
    ·rfl
end Go.Abs

/- DERIVED by an AI agent. A nil slice seen as a row of nothing, to be appended to. No program in sight. -/
namespace Go.Abs
set_option linter.unusedSimpArgs false
set_option linter.unusedVariables false
theorem OutR.flat [zad] {w':World} {N e e2:Nat} {rows:List (List PV)} {v:Value} {lv:List (Value × Option Nat)} (hout:OutR w' (Env.out N (blk lv)) (.tb e e2 rows) v lv) (hn:(blk lv).Nodup) :
 ∃ lv',OutR w' (Env.out N (blk lv')) (.fr e 1 (rows.map fun r=>.sl false 1 r)) v lv'∧(blk lv').Nodup:=by
 cases hout with
 | tbn=>exact ⟨_,.nil,by simp [blk]⟩
 | @tb _ _ b n cap _ vs rest lvs hB hh hnn hc hm hl h1 h2 hvv hin =>
   refine ⟨[(.slice (some ⟨b,0,none⟩) n cap,some b)],.fr hB hh (by omega) hc hm (by omega) ⟨by simp [h1,hnn],fun i a b'=>?_⟩,by simp [blk]⟩
   have hi:i < rows.length:=by simpa using a
   have h0:=hin i hi b' (by omega)
   simp only [List.getElem_map]
   have hbl:blk ((Value.slice (some ⟨b,0,none⟩) n cap,some b) :: lvs) = b :: blk lvs:=rfl
   have e1:blk [(Value.slice (some ⟨b,0,none⟩) n cap,some b)] = [b]:=rfl
   rw [e1]
   rw [hbl] at hn h0
   generalize hri:rows[i] = ri at *
   generalize hvi:vs[i] = vi at *
   generalize hli:lvs[i]'(by omega) = li at *
   cases h0 with
   | nil=>exact zdt _ _ _ _ _
   | @fr _ _ b2 n2 cap2 _ vs2 rest2 hB2 hh2 hn2 hc2 hm2 hl2 hr2 =>
     have hb2:b2 ∈ blk lvs:=by
      simp only [blk,List.mem_filterMap]
      exact ⟨_,List.getElem_mem (by omega:i < lvs.length),by rw [hli]⟩
     have hne:b2 ≠ b:=fun e=>(List.nodup_cons.1 hn).1 (e ▸ hb2)
     have hB3:N ≤ b2:=hB2
     refine .sl (fun j=>vs2.getD j undef) (hr2.1.trans hn2) hc2 hm2 (fun j hj=>⟨b2,0,rfl,?_,fun hL=>?_,?_⟩) (fun j hj=>?_)
     ·show max N (if false = true then _ else 0) ≤ b2
      simp;exact hB3
     ·rcases hL with hL | hL
      ·have:b2 < N:=hL
       omega
      ·exact hne (List.mem_singleton.1 hL)
     ·have hj':j < vs2.length:=by rw [← hr2.1];exact hj
      rw [Nat.zero_add,zaz hh2 (by simp;omega)]
      simp [List.getElem_append_left hj',List.getD,hj']
     ·have hj':j < vs2.length:=by rw [← hr2.1];exact hj
      have e2':vs2.getD j undef = vs2[j]:=by simp [List.getD,hj']
      rw [e2']
      have h3:=hr2.2 j hj hj'
      have h4:Rep w' (Env.out N [b]).bare.bare N ri[j] vs2[j]:=by
       refine Rep.above (E:=(Env.out N (b :: blk lvs)).bare) h3 (fun _=>rfl) (fun _=>rfl) rfl rfl fun x hx' hL hL'=>?_
       rcases hL' with hL' | hL'
       ·exact hL (.inl hL')
       ·exact hL (.inr (by rw [List.mem_singleton.1 hL'];exact List.mem_cons_self))
      refine h4.low ?_
      show max N (if false = true then _ else 0) ≤ N
      simp
section
variable {Q:AX→St→Prop} {s:St} {k e e2:Nat}
end
end Go.Abs

/- DERIVED by an AI agent. A function that is given a slice of its own and hands back that or another one, with a word whether it did. No program in sight. -/
namespace Go.Abs
set_option linter.unusedSimpArgs false
set_option linter.unusedVariables false
variable {P:Program} {s:St} {K:St→Prop}
end Go.Abs

/- DERIVED by an AI agent. Functions that are given a cursor and draw from it: what they hand back is told by what holds of it. No program in sight. -/
namespace Go.Abs
set_option linter.unusedSimpArgs false
set_option linter.unusedVariables false
abbrev zbJ:=Nat × (TypeId × Option Nat × List PV)
inductive LfG (R:Nat→Row):RV→PV→List zbJ→Prop
 | im (x:Value):LfG R (.im (.v x)) (.v x) []
 | sl (fr:Bool) (sz:Nat) (c:List PV):LfG R (.im (.sl fr sz c)) (.sl true sz c) []
 | fr {e sz k v:Nat} {c:List PV} (h:R k = ⟨v,.sli e sz false c⟩) (hk:k < 1000000):LfG R (.fr e sz c) (.own k v) [(k,(e,some sz,c))]
inductive LfsG (R:Nat→Row):List RV→List PV→List zbJ→Prop
 | nil:LfsG R [] [] []
 | cons {a:RV} {p:PV} {i:List zbJ} {l:List RV} {ps:List PV} {is:List zbJ} (h:LfG R a p i) (t:LfsG R l ps is):LfsG R (a :: l) (p :: ps) (i ++ is)
inductive G1 (R:Nat→Row):RV→PV→List zbJ→Prop
 | lf {a:RV} {p:PV} {i:List zbJ} (h:LfG R a p i):G1 R a p i
 | ag {l:List RV} {ps:List PV} {i:List zbJ} (h:LfsG R l ps i):G1 R (.ag l) (.ag ps) i
inductive G1s (R:Nat→Row):List RV→List PV→List zbJ→Prop
 | nil:G1s R [] [] []
 | cons {a:RV} {p:PV} {i:List zbJ} {l:List RV} {ps:List PV} {is:List zbJ} (h:G1 R a p i) (t:G1s R l ps is):G1s R (a :: l) (p :: ps) (i ++ is)
inductive G2 (R:Nat→Row):RV→PV→List zbJ→Prop
 | one {a:RV} {p:PV} {i:List zbJ} (h:G1 R a p i):G2 R a p i
 | tup {l:List RV} {ps:List PV} {i:List zbJ} (h:G1s R l ps i):G2 R (.tup l) (.tup ps) i
section
variable {R:Nat→Row} {rho1:Nat→Option Nat} {nv:Nat→Nat} {vr:Nat→Nat} {d:Nat}
def Fits (R:Nat→Row) (rho1:Nat→Option Nat) (nv vr:Nat→Nat) (d i:Nat) (ids:List zbJ):Prop :=
 ∀ j (h:j < ids.length),rho1 ids[j].1 = some (zah d (i + j))∧nv ids[j].1 = vr (zah d (i + j)) + 1
theorem Fits.left {i:Nat} {a b:List zbJ} (h:Fits R rho1 nv vr d i (a ++ b)):Fits R rho1 nv vr d i a:=fun j hj=>by
 have:=h j (by rw [List.length_append];omega)
 rwa [List.getElem_append_left hj] at this
theorem Fits.right {i:Nat} {a b:List zbJ} (h:Fits R rho1 nv vr d i (a ++ b)):Fits R rho1 nv vr d (i + a.length) b:=fun j hj=>by
 have:=h (a.length + j) (by rw [List.length_append];omega)
 rw [List.getElem_append_right (by omega)] at this
 simpa [Nat.add_assoc] using this
theorem LfG.leaves [zad] {a:RV} {p:PV} {i:List zbJ} (h:LfG R a p i):Go.Abs.leaves a = i.map (·.2):=by
 cases h <;> simp [Go.Abs.leaves]
theorem LfsG.leaves [zad] {l:List RV} {ps:List PV} {i:List zbJ} (h:LfsG R l ps i):(l.map Go.Abs.leaves).flatten = i.map (·.2):=by
 induction h with
 | nil=>rfl
 | cons h t ih=>simp [ih,h.leaves]
theorem G1.leaves [zad] {a:RV} {p:PV} {i:List zbJ} (h:G1 R a p i):Go.Abs.leaves a = i.map (·.2):=by
 cases h with
 | lf h=>exact h.leaves
 | ag h=>rw [zcb];exact h.leaves
theorem G1s.leaves [zad] {l:List RV} {ps:List PV} {i:List zbJ} (h:G1s R l ps i):(l.map Go.Abs.leaves).flatten = i.map (·.2):=by
 induction h with
 | nil=>rfl
 | cons h t ih=>simp [ih,h.leaves]
theorem G2.leaves [zad] {a:RV} {p:PV} {i:List zbJ} (h:G2 R a p i):Go.Abs.leaves a = i.map (·.2):=by
 cases h with
 | one h=>exact h.leaves
 | tup h=>rw [zbu];exact h.leaves
theorem LfG.row {a:RV} {p:PV} {i:List zbJ} (h:LfG R a p i):∀ x ∈ i,x.1 < 1000000∧∃ v sz,x.2.2.1 = some sz∧R x.1 = ⟨v,.sli x.2.1 sz false x.2.2.2⟩:=by
 cases h with
 | im=>simp
 | sl=>simp
 | fr h hk=>intro x hx;rw [List.mem_singleton.1 hx];exact ⟨hk,_,_,rfl,h⟩
theorem LfsG.row {l:List RV} {ps:List PV} {i:List zbJ} (h:LfsG R l ps i):∀ x ∈ i,x.1 < 1000000∧∃ v sz,x.2.2.1 = some sz∧R x.1 = ⟨v,.sli x.2.1 sz false x.2.2.2⟩:=by
 induction h with
 | nil=>simp
 | cons h t ih=>intro x hx;exact (List.mem_append.1 hx).elim (h.row x) (ih x)
theorem G1.row {a:RV} {p:PV} {i:List zbJ} (h:G1 R a p i):∀ x ∈ i,x.1 < 1000000∧∃ v sz,x.2.2.1 = some sz∧R x.1 = ⟨v,.sli x.2.1 sz false x.2.2.2⟩:=by
 cases h with
 | lf h=>exact h.row
 | ag h=>exact h.row
theorem G1s.row {l:List RV} {ps:List PV} {i:List zbJ} (h:G1s R l ps i):∀ x ∈ i,x.1 < 1000000∧∃ v sz,x.2.2.1 = some sz∧R x.1 = ⟨v,.sli x.2.1 sz false x.2.2.2⟩:=by
 induction h with
 | nil=>simp
 | cons h t ih=>intro x hx;exact (List.mem_append.1 hx).elim (h.row x) (ih x)
theorem G2.row {a:RV} {p:PV} {i:List zbJ} (h:G2 R a p i):∀ x ∈ i,x.1 < 1000000∧∃ v sz,x.2.2.1 = some sz∧R x.1 = ⟨v,.sli x.2.1 sz false x.2.2.2⟩:=by
 cases h with
 | one h=>exact h.row
 | tup h=>exact h.row
theorem LfG.ren [zad] {a:RV} {p:PV} {ids:List zbJ} {i:Nat} (h:LfG R a p ids) (hf:Fits R rho1 nv vr d i ids):zwD rho1 R nv true p = zbB vr d a i:=by
 cases h with
 | im x=>rfl
 | sl=>rfl
 | fr h hk =>
   have:=hf 0 (by simp)
   simp only [List.getElem_cons_zero,Nat.add_zero] at this
   rw [zjr,this.1,h]
   simp only [beq_self_eq_true]
   rw [this.2];rfl
theorem LfG.ren1 [zad] {a:RV} {p:PV} {ids:List zbJ} {i:Nat} (h:LfG R a p ids) (hf:Fits R rho1 nv vr d i ids):Go.Abs.ren1 rho1 R nv true p = zbL vr d a i:=by
 have:=h.ren hf
 cases h with
 | im x=>rfl
 | sl=>rfl
 | fr h hk=>exact this
theorem LfsG.ren [zad] {l:List RV} {ps:List PV} {ids:List zbJ} (h:LfsG R l ps ids):∀ {i:Nat},Fits R rho1 nv vr d i ids→ps.map (zwD rho1 R nv true) = za9 (zbB vr d) l i:=by
 induction h with
 | nil=>intro i _;rfl
 | cons h t ih =>
   intro i hf
   rw [List.map_cons,za9,h.ren hf.left,ih hf.right,h.leaves,List.length_map]
theorem G1.ren [zad] {a:RV} {p:PV} {ids:List zbJ} {i:Nat} (h:G1 R a p ids) (hf:Fits R rho1 nv vr d i ids):Go.Abs.ren1 rho1 R nv true p = zbL vr d a i:=by
 cases h with
 | lf h=>exact h.ren1 hf
 | ag h=>show PV.ag _ = PV.ag _;rw [h.ren hf]
theorem G1s.ren [zad] {l:List RV} {ps:List PV} {ids:List zbJ} (h:G1s R l ps ids):∀ {i:Nat},Fits R rho1 nv vr d i ids→ps.map (Go.Abs.ren1 rho1 R nv true) = za9 (zbL vr d) l i:=by
 induction h with
 | nil=>intro i _;rfl
 | cons h t ih =>
   intro i hf
   rw [List.map_cons,za9,h.ren hf.left,ih hf.right,h.leaves,List.length_map]
theorem LfsG.ren' [zad] {l:List RV} {ps:List PV} {ids:List zbJ} (h:LfsG R l ps ids):∀ {i:Nat},Fits R rho1 nv vr d i ids→ps.map (zwD rho1 R nv true) = za9 (zbL vr d) l i:=by
 induction h with
 | nil=>intro i _;rfl
 | @cons a p _ _ _ _ h t ih =>
   intro i hf
   have e:zwD rho1 R nv true p = zbL vr d a i:=by
    rw [h.ren hf.left]
    cases h <;> rfl
   rw [List.map_cons,za9,e,ih hf.right,h.leaves,List.length_map]
theorem G2.ren [zad] {a:RV} {p:PV} {ids:List zbJ} (h:G2 R a p ids) (hf:Fits R rho1 nv vr d 0 ids):zDG rho1 R nv true p = zaQ vr d a 0:=by
 cases h with
 | one h =>
   cases h with
   | lf h =>
     have:=h.ren hf
     cases h with
     | im x=>rfl
     | sl=>rfl
     | fr h hk=>exact this
   | ag h=>show PV.ag _ = PV.ag _;rw [h.ren' hf]
 | tup h=>show PV.tup _ = PV.tup _;rw [h.ren hf]
end
theorem zw1 [zad] (d i:Nat):zah d i % 1000 = d % 1000:=by unfold zah;omega
theorem zsS [zad] {P:Program} {s:St} {K:St→Prop} {f:FuncId} {args raw:List PV} {d:Nat} {R0:Nat→Row} {post:(Nat→Row)→PV→Prop}
 (hc:AG P f args R0 post) (rho:Nat→Option Nat) (hl:GvL rho (fun _=>False) R0 s.rw args raw) (hg:Give rho (fun _=>False) R0 s.rw)
 (hd:∀ a j,(R0 a).kind.nd = true→rho a = some j→(d % 1000 == j % 1000) = false)
 (hpost:∀ R1 p,post R1 p→∃ (rv:RV) (ids:List zbJ) (s':St),G2 R1 rv p ids∧(ids.map (·.1)).Nodup∧(∀ a,(R0 a).kind.nd = true→(R1 a).ver = (R0 a).ver∧∀ rho1 nv,zob rho1 R1 nv true (R1 a).kind = (R1 a).kind)∧s'.sl = s.sl ∧
  (∀ a j,(R0 a).kind.nd = true→rho a = some j→s'.rw j = ⟨(s.rw j).ver,(R1 a).kind⟩)∧(∀ j,(∀ a,(R0 a).kind.nd = true→rho a ≠ some j)→s'.rw j = s.rw j)∧K (zai s' d rv)) :
 askG P s f raw (some d) K:=by
 refine ⟨args,R0,post,rho,_,hc,hl,hg,fun R1 p hp=>?_⟩
 obtain ⟨rv,ids,s',hG,hnd,hver,hsl,hgiv,hoth,hK⟩:=hpost R1 p hp
 have hrow:=hG.row
 have hlow:∀ a,(R0 a).kind.nd = true→1000000 ≤ a:=fun a ha=>(hg.row a ha).1
 have hsm:∀ n (hn:n < ids.length),¬ (R0 ids[n].1).kind.nd = true:=fun n hn h=>by
  have:=(hrow _ (List.getElem_mem hn)).1;have:=hlow _ h;omega
 let rho1:Nat→Option Nat:=fun a=>if (R0 a).kind.nd = true then rho a else (ids.findIdx? (fun x=>x.1 == a)).map (zah d)
 let nv:Nat→Nat:=fun a=>if (R0 a).kind.nd = true then ((rho a).map fun j=>(s.rw j).ver).getD 0 else (match ids.findIdx? (fun x=>x.1 == a) with | some n=>(s.rw (zah d n)).ver + 1 | none=>0)
 have hfi:∀ n (hn:n < ids.length),ids.findIdx? (fun x=>x.1 == ids[n].1) = some n:=fun n hn=>by
  rw [List.findIdx?_eq_some_iff_getElem]
  refine ⟨hn,by simp,fun j hj=>?_⟩
  simp only [beq_iff_eq]
  intro e
  have h1:(ids.map (·.1))[j]'(by simp;omega) = (ids.map (·.1))[n]'(by simpa using hn):=by simpa using e
  exact absurd ((List.getElem_inj hnd).1 h1) (by omega)
 have r1:∀ a,(R0 a).kind.nd = true→rho1 a = rho a:=fun a h=>if_pos h
 have r3:∀ n (hn:n < ids.length),rho1 ids[n].1 = some (zah d n):=fun n hn=>by
  show (if (R0 ids[n].1).kind.nd = true then _ else _) = _
  rw [if_neg (hsm n hn),hfi n hn];rfl
 have n1:∀ a j,(R0 a).kind.nd = true→rho a = some j→nv a = (s.rw j).ver:=fun a j h hj=>by
  show (if (R0 a).kind.nd = true then _ else _) = _
  rw [if_pos h,hj];rfl
 have n3:∀ n (hn:n < ids.length),nv ids[n].1 = (s.rw (zah d n)).ver + 1:=fun n hn=>by
  show (if (R0 ids[n].1).kind.nd = true then _ else _) = _
  rw [if_neg (hsm n hn),hfi n hn]
 have inv:∀ a x,rho1 a = some x→((R0 a).kind.nd = true∧rho a = some x) ∨ ∃ n,∃ hn:n < ids.length,a = ids[n].1∧x = zah d n:=fun a x ha=>by
  by_cases h1:(R0 a).kind.nd = true
  ·exact .inl ⟨h1,(r1 a h1).symm.trans ha⟩
  ·have ha:(if (R0 a).kind.nd = true then rho a else (ids.findIdx? (fun x=>x.1 == a)).map (zah d)) = some x:=ha
   rw [if_neg h1] at ha
   cases hf:ids.findIdx? (fun x=>x.1 == a) with
   | none=>rw [hf] at ha;cases ha
   | some n =>
     rw [hf] at ha;cases ha
     rw [List.findIdx?_eq_some_iff_getElem] at hf
     obtain ⟨hn,e,_⟩:=hf
     exact .inr ⟨n,hn,(beq_iff_eq.1 e).symm,rfl⟩
 have lj:∀ n a j,(R0 a).kind.nd = true→rho a = some j→zah d n ≠ j:=fun n a j h hj e=>beq_eq_false_iff_ne.1 (hd a j h hj) (by rw [← e,zw1])
 refine ⟨rho1,nv,true,⟨r1,fun a b x ha hb=>?_,fun a x ha hn hv=>?_,fun a x ha hn=>?_,fun _ _ h=>h⟩,fun S hS=>?_⟩
 ·rcases inv a x ha with ⟨a1,a2⟩ | ⟨n,hn,a1,a2⟩ <;> rcases inv b x hb with ⟨b1,b2⟩ | ⟨m,hm,b1,b2⟩
  ·exact hg.inj a b x a1 b1 a2 b2
  ·exact absurd b2.symm (lj m a x a1 a2)
  ·exact absurd a2.symm (lj n b x b1 b2)
  ·have:=znc (a2.symm.trans b2)
   subst this;rw [a1,b1]
 ·rcases inv a x ha with ⟨_,a2⟩ | ⟨n,hn',rfl,_⟩
  ·exact n1 a x hn a2
  ·exact absurd hn (hsm n hn')
 ·rcases inv a x ha with ⟨a1,a2⟩ | ⟨n,hn',rfl,rfl⟩
  ·exact absurd (hver a a1).1 (hn a1)
  ·rw [n3 n hn'];exact Nat.lt_succ_self _
 ·have hsr:∀ n,s'.rw (zah d n) = s.rw (zah d n):=fun n=>hoth _ fun a h e=>lj n a _ h e rfl
  have hfits:Fits R1 rho1 nv (fun i=>(s'.rw i).ver) d 0 ids:=fun n hn=>by
   rw [Nat.zero_add]
   exact ⟨r3 n hn,by show _ = (s'.rw (zah d n)).ver + 1;rw [hsr,n3 n hn]⟩
  have hlv:=hG.leaves
  have hS2:S = zai s' d rv:=by
   refine St.ext2 (fun i=>?_) fun a=>?_
   ·rw [hS.sl,hG.ren hfits]
    unfold zai
    by_cases e:i = d
    ·subst e;rw [zaI,zaI]
    ·rw [zbb _ _ _ _ e,zbb _ _ _ _ e];exact (congrFun hsl i).symm
   ·unfold zai
    rw [zeC]
    show S.rw a = zas _ d (leaves rv) 0 a
    rw [zcz,hlv]
    by_cases hex:∃ n,n < ids.length∧a = zah d n
    ·obtain ⟨n,hn,rfl⟩:=hex
     have hm:n < (ids.map fun x:zbJ=>x.2).length:=by simpa using hn
     have hm':n < (zbi s'.rw d (ids.map (·.2)) 0).length:=by rw [zaX];exact hm
     have h1:=zds s'.rw d _ 0 n hm'
     rw [Nat.zero_add] at h1
     rw [h1,zdj _ _ _ _ _ hm hm',Nat.zero_add,hsr,hS.row _ _ (r3 n hn),n3 n hn]
     obtain ⟨_,v1,sz,e1,e2⟩:=hrow _ (List.getElem_mem hn)
     rw [e2]
     have e3:((ids.map fun x:zbJ=>x.2)[n]'hm).2.1 = some sz:=by simpa using e1
     simp only [zbE,e3]
     simp [zob]
    ·rw [zch _ _ _ _ _ fun n hn e=>hex ⟨n,by rw [zaX] at hn;simpa using hn,by rw [e,Nat.zero_add]⟩]
     by_cases hgv:∃ b,(R0 b).kind.nd = true∧rho b = some a
     ·obtain ⟨b,h1,h2⟩:=hgv
      rw [hS.row _ _ ((r1 b h1).trans h2),hgiv b a h1 h2,n1 b a h1 h2,(hver b h1).2]
     ·rw [hoth a fun b h1 h2=>hgv ⟨b,h1,h2⟩]
      refine hS.off a fun b hb=>?_
      rcases inv b a hb with h | ⟨n,hn,_,e⟩
      ·exact hgv ⟨b,h⟩
      ·exact hex ⟨n,hn,e⟩
  rw [hS2]
  exact hK
theorem zrN [zad] {P:Program} {s:St} {K:St→Prop} {f:FuncId} {args raw lents:List PV} {Ka:RV→Prop} {d:Nat} {us:Dm s} {u:Dm K} {R0:Nat→Row} {post:(Nat→Row)→PV→Prop}
 (hc:AG P f args R0 post) (rho:Nat→Option Nat) (hl:GvL rho (fun _=>False) R0 s.rw args raw) (hg:Give rho (fun _=>False) R0 s.rw)
 (hd:∀ a j,(R0 a).kind.nd = true→rho a = some j→(d % 1000 == j % 1000) = false)
 (hpost:∀ R1 p,post R1 p→∃ (rv:RV) (ids:List zbJ) (s':St),G2 R1 rv p ids∧(ids.map (·.1)).Nodup∧(∀ a,(R0 a).kind.nd = true→(R1 a).ver = (R0 a).ver∧∀ rho1 nv,zob rho1 R1 nv true (R1 a).kind = (R1 a).kind)∧s'.sl = s.sl ∧
  (∀ a j,(R0 a).kind.nd = true→rho a = some j→s'.rw j = ⟨(s.rw j).ver,(R1 a).kind⟩)∧(∀ j,(∀ a,(R0 a).kind.nd = true→rho a ≠ some j)→s'.rw j = s.rw j)∧K (zai s' d rv)) :
 ziN P f lents Ka (ztE P f lents raw (some d) (kk s us) (kk K u)) :=
 .inr (.inr (.inr (.inr (zsS hc rho hl hg hd hpost))))
def zFh (Q:RV→Prop) (R1:Nat→Row) (p:PV):Prop:=∃ (rv:RV) (ids:List zbJ),Q rv∧G2 R1 rv p ids∧(ids.map (·.1)).Nodup
def ADr [zad] (P:Program) (f:FuncId) (args:List PV) (Q:RV→Prop):Prop:=AG P f args (fun _=>⟨0,.dead⟩) (zFh Q)
theorem zjy [zad] {P:Program} {s:St} {K:St→Prop} {f:FuncId} {args raw lents:List PV} {Ka:RV→Prop} {d:Nat} {us:Dm s} {u:Dm K} {Q:RV→Prop} (hc:ADr P f args Q)
 (hl:GvL (fun _=>none) (fun _=>False) (fun _=>⟨0,.dead⟩) s.rw args raw) (hK:∀ rv,Q rv→K (zai s d rv)):ziN P f lents Ka (ztE P f lents raw (some d) (kk s us) (kk K u)) :=
 zrN hc _ hl ⟨fun _ h=>(by cases h),fun _ _ _ h=>(by cases h),fun _ _ h=>(by cases h)⟩ (fun _ _ h=>(by cases h)) fun R1 p ⟨rv,ids,hq,h1,h2⟩ =>
  ⟨rv,ids,s,h1,h2,fun _ h=>(by cases h),rfl,fun _ _ h=>(by cases h),fun _ _=>rfl,hK rv hq⟩
def zls (t:TypeId) (bs:List Int) (i h:Int):RK:=.box t [.sl false 1 (kL .u8 bs),.v (.int .i64 i),.v (.int .i64 h)]
def zvI (t:TypeId) (bs:List Int) (i h:Int) (L:Row) (k:Nat):Row:=if k = 1000000 then ⟨1,zls t bs i h⟩ else if k = 1000500 then L else ⟨0,.dead⟩
def zFi (t:TypeId) (bs:List Int) (L:Row) (Q:RV→Prop) (R1:Nat→Row) (p:PV):Prop :=
 ∃ (rv:RV) (i:Nat) (h:Int) (ids:List zbJ),Q rv∧G2 R1 rv p ids∧(ids.map (·.1)).Nodup∧R1 1000000 = ⟨1,zls t bs i h⟩∧R1 1000500 = L
def zw2 [zad] (P:Program) (f:FuncId) (t:TypeId) (bs:List Int) (L:Row) (args:List PV) (Q:RV→Prop):Prop :=
 ∀ (i:Nat) (h:Int),AG P f (.ref 1000000 1 0 :: args) (zvI t bs i h L) (zFi t bs L Q)
inductive LRow (s:St):Row→Option Nat→Prop
 | none:LRow s ⟨0,.dead⟩ none
 | some {j v e sz:Nat} {c:List PV} (hj:s.rw j = ⟨v,.sli e sz false c⟩) (hp:zca c):LRow s ⟨1,.sli e sz false c⟩ (some j)
def ziE (k:Nat) (j:Option Nat) (a:Nat):Option Nat:=if a = 1000000 then some k else if a = 1000500 then j else none
theorem zaM (k:Nat) (j:Option Nat):ziE k j 1000000 = some k:=if_pos rfl
theorem zbf (k:Nat) (j:Option Nat):ziE k j 1000500 = j:=by unfold ziE;rw [if_neg (by decide),if_pos rfl]
theorem zbR {t:TypeId} {bs:List Int} {i h:Int} {L:Row}:zvI t bs i h L 1000000 = ⟨1,zls t bs i h⟩:=if_pos rfl
theorem zcW {t:TypeId} {bs:List Int} {i h:Int} {L:Row}:zvI t bs i h L 1000500 = L:=by unfold zvI;rw [if_neg (by decide),if_pos rfl]
theorem zlt {t:TypeId} {bs:List Int} {i h:Int} {L:Row} {k:Nat} (hk:k < 1000000):zvI t bs i h L k = ⟨0,.dead⟩:=by unfold zvI;rw [if_neg (by omega),if_neg (by omega)]
theorem zbP {t:TypeId} {bs:List Int} {i h:Int} {L:Row} {k:Nat} (hn:(zvI t bs i h L k).kind.nd = true):k = 1000000 ∨ (k = 1000500∧L.kind.nd = true):=by
 unfold zvI at hn
 split at hn
 ·exact .inl ‹_›
 ·split at hn
  ·exact .inr ⟨‹_›,hn⟩
  ·cases hn
theorem zaG [zad] {P:Program} {s:St} {K:St→Prop} {f:FuncId} {args raw lents:List PV} {Ka:RV→Prop} {d k v:Nat} {t:TypeId} {bs:List Int} {i:Nat} {h:Int} {us:Dm s} {u:Dm K} {L:Row} {oj:Option Nat} {fr:Bool} {Q:RV→Prop}
 (hc:zw2 P f t bs L args Q) (hL:LRow s L oj) (hk:s.rw k = ⟨v,.box t [.sl fr 1 (kL .u8 bs),.v (.int .i64 i),.v (.int .i64 h)]⟩)
 (hl:GvL (ziE k oj) (fun _=>False) (zvI t bs i h L) s.rw (.ref 1000000 1 0 :: args) raw) (hdk:(d % 1000 == k % 1000) = false) (hoj:∀ j,oj = some j→(d % 1000 == j % 1000) = false∧(k % 1000 == j % 1000) = false)
 (hK:∀ (rv:RV) (i':Nat) (h':Int),Q rv→K (zai (s.row k ⟨v,.box t [.sl false 1 (kL .u8 bs),.v (.int .i64 i'),.v (.int .i64 h')]⟩) d rv)) :
 ziN P f lents Ka (ztE P f lents raw (some d) (kk s us) (kk K u)):=by
 have hkj:∀ j,oj = some j→k ≠ j:=fun j hj e=>beq_eq_false_iff_ne.1 (hoj j hj).2 (by rw [e])
 have hlr:∀ j,oj = some j→∃ vj e sz c,s.rw j = ⟨vj,.sli e sz false c⟩∧L = ⟨1,.sli e sz false c⟩∧zca c:=fun j hj=>by
  cases hL with
  | none=>cases hj
  | some h1 h2=>cases hj;exact ⟨_,_,_,_,h1,rfl,h2⟩
 have hLn:L.kind.nd = true→∃ j,oj = some j:=fun hn=>by
  cases hL with
  | none=>cases hn
  | some h1 h2=>exact ⟨_,rfl⟩
 refine zrN (hc i h) _ hl ⟨fun a ha=>?_,fun a b x na nb ha hb=>?_,fun _ _ _ _ h=>h⟩ (fun a j ha hj=>?_) fun R1 p ⟨rv,i',h',ids,hq,hg,hnd,ht1,hl1⟩=>?_
 ·rcases zbP ha with rfl | ⟨rfl,hn⟩
  ·refine ⟨Nat.le_refl _,by rw [zbR];exact Nat.one_pos,k,zaM _ _,?_⟩
   rw [zbR,hk]
   exact ⟨rfl,.one (.sl _ _ _) (.one (.v _) (.one (.v _) .nil))⟩
  ·obtain ⟨j,hj⟩:=hLn hn
   obtain ⟨vj,e,sz,c,h1,h2,h3⟩:=hlr j hj
   refine ⟨by decide,by rw [zcW,h2];exact Nat.one_pos,j,by rw [zbf];exact hj,?_⟩
   rw [zcW,h1,h2]
   exact ⟨rfl,rfl,rfl,h3⟩
 ·rcases zbP na with rfl | ⟨rfl,_⟩ <;> rcases zbP nb with rfl | ⟨rfl,_⟩
  ·rfl
  ·rw [zaM] at ha;rw [zbf] at hb;cases ha;exact absurd rfl (hkj _ hb)
  ·rw [zaM] at hb;rw [zbf] at ha;cases hb;exact absurd rfl (hkj _ ha)
  ·rfl
 ·rcases zbP ha with rfl | ⟨rfl,hn⟩
  ·rw [zaM] at hj;cases hj;exact hdk
  ·rw [zbf] at hj;exact (hoj j hj).1
 ·refine ⟨rv,ids,s.row k ⟨v,.box t [.sl false 1 (kL .u8 bs),.v (.int .i64 i'),.v (.int .i64 h')]⟩,hg,hnd,fun a ha=>?_,rfl,fun a j ha hj=>?_,fun j hj=>?_,hK rv i' h' hq⟩
  ·rcases zbP ha with rfl | ⟨rfl,hn⟩
   ·rw [ht1,zbR];exact ⟨rfl,fun _ _=>rfl⟩
   ·obtain ⟨j,hj⟩:=hLn hn
    obtain ⟨_,_,_,_,_,e,_⟩:=hlr j hj
    rw [hl1,zcW,e];exact ⟨rfl,fun _ _=>rfl⟩
  ·rcases zbP ha with rfl | ⟨rfl,hn⟩
   ·rw [zaM] at hj;cases hj
    rw [zaH,hk,ht1];rfl
   ·rw [zbf] at hj
    obtain ⟨vj,e,sz,c,h1,h2,_⟩:=hlr j hj
    rw [zao _ _ _ _ (Ne.symm (hkj j hj)),h1,hl1,h2]
  ·refine zao _ _ _ _ fun e=>hj 1000000 (by rw [zbR];rfl) (by rw [e];exact zaM _ _)
def zw3 (t:TypeId) (bs:List Int) (R1:Nat→Row) (p:PV):Prop:=∃ (k v:Nat) (h:Int),p = .ref k v 0∧R1 k = ⟨v,zls t bs 0 h⟩
def zA6 [zad] (P:Program) (f:FuncId) (t:TypeId) (bs:List Int):Prop:=AG P f [.sl false 1 (kL .u8 bs)] (fun _=>⟨0,.dead⟩) (zw3 t bs)
theorem ziF [zad] {P:Program} {s:St} {K:St→Prop} {f:FuncId} {raw lents:List PV} {Ka:RV→Prop} {d:Nat} {us:Dm s} {u:Dm K} {t:TypeId} {bs:List Int} (hc:zA6 P f t bs)
 (hl:GvL (fun _=>none) (fun _=>False) (fun _=>⟨0,.dead⟩) s.rw [.sl false 1 (kL .u8 bs)] raw)
 (hK:∀ h:Int,K ((s.row d ⟨(s.rw d).ver + 1,.box t [.sl false 1 (kL .u8 bs),.v (.int .i64 ((0:Nat):Int)),.v (.int .i64 h)]⟩).put (some d) (.ref d ((s.rw d).ver + 1) 0))):ziN P f lents Ka (ztE P f lents raw (some d) (kk s us) (kk K u)):=by
 refine zEb hc _ _ hl ⟨fun _ h=>(by cases h),fun _ _ _ h=>(by cases h),fun _ _ h=>(by cases h)⟩ fun R1 p ⟨k,v,h,hp,hr⟩=>?_
 subst hp
 refine ⟨fun a=>if a = k then some d else none,fun _=>(s.rw d).ver + 1,true,⟨fun _ h=>(by cases h),fun a b x ha hb=>?_,fun _ _ _ h=>(by cases h),fun a x ha _=>?_,fun _ _ h=>h⟩,fun S hS=>?_⟩
 ·have ha:(if a = k then some d else none) = some x:=ha
  have hb:(if b = k then some d else none) = some x:=hb
  by_cases h1:a = k
  ·by_cases h2:b = k
   ·rw [h1,h2]
   ·rw [if_neg h2] at hb;cases hb
  ·rw [if_neg h1] at ha;cases ha
 ·have ha:(if a = k then some d else none) = some x:=ha
  split at ha
  ·cases ha;exact Nat.lt_succ_self _
  ·cases ha
 ·have e:S = (s.row d ⟨(s.rw d).ver + 1,.box t [.sl false 1 (kL .u8 bs),.v (.int .i64 ((0:Nat):Int)),.v (.int .i64 h)]⟩).put (some d) (.ref d ((s.rw d).ver + 1) 0):=by
   refine St.ext2 (fun i=>?_) fun a=>?_
   ·rw [hS.sl]
    have hr2:zDG (fun a=>if a = k then some d else none) R1 (fun _=>(s.rw d).ver + 1) true (.ref k v 0) = .ref d ((s.rw d).ver + 1) 0:=by
     unfold zDG ren1
     simp only [zvc,if_pos,hr,beq_self_eq_true]
    rw [hr2]
    by_cases e:i = d
    ·subst e;rw [zaI,zaI]
    ·rw [zbb _ _ _ _ e,zbb _ _ _ _ e];rfl
   ·rw [zeC]
    by_cases e:a = d
    ·subst e;rw [zaH,hS.row k a (if_pos rfl),hr];rfl
    ·rw [zao _ _ _ _ e]
     refine hS.off a fun b hb=>?_
     have hb:(if b = k then some d else none) = some a:=hb
     split at hb
     ·cases hb;exact e rfl
     ·cases hb
  rw [e];exact hK h
theorem zlW [zad] {P:Program} {T:Tab} {s:St} {K:St→Prop} {dst:Option Nat} {ty:TypeId} {pos:String} {af:Array Edge} {g:Option (Nat × Bool)}:opK P T s ⟨dst,.assign (.const (.pointer none)),ty,pos,af,g⟩ K = K (s.put dst (.v (.pointer none))):=(rfl)
theorem zbS {k v:Nat} {oj:Option Nat} {Ln:Nat→Prop} {t:TypeId} {bs:List Int} {i h:Int} {L:Row} {R:Nat→Row} (hv:(R k).ver = v):GvA (ziE k oj) Ln (zvI t bs i h L) R (.ref 1000000 1 0) (.ref k v 0) :=
 .ref (zaM _ _) (by rw [zbR]) hv (by rw [zbR];rfl)
theorem zlu {k j v e sz:Nat} {c:List PV} {Ln:Nat→Prop} {t:TypeId} {bs:List Int} {i h:Int} {R:Nat→Row} (hv:(R j).ver = v):GvA (ziE k (some j)) Ln (zvI t bs i h ⟨1,.sli e sz false c⟩) R (.own 1000500 1) (.own j v) :=
 .own (zbf _ _) (by rw [zcW]) hv (by rw [zcW];rfl)
def zCv (t:TypeId) (bs:List Int) (x:Value × Nat × Int) (R1:Nat→Row) (p:PV):Prop:=p = .v x.1∧R1 1000000 = ⟨1,zls t bs x.2.1 x.2.2⟩∧R1 1000500 = ⟨0,.dead⟩
def zoN [zad] (P:Program) (f:FuncId) (t:TypeId) (bs:List Int) (args:List PV) (F:Nat→Int→Value × Nat × Int):Prop :=
 ∀ (i:Nat) (h:Int),AG P f (.ref 1000000 1 0 :: args) (zvI t bs i h ⟨0,.dead⟩) (zCv t bs (F i h))
theorem zoN.toCur [zad] {P:Program} {f:FuncId} {t:TypeId} {bs:List Int} {args:List PV} {F:Nat→Int→Value × Nat × Int} {Q:RV→Prop} (hc:zoN P f t bs args F) (hQ:∀ i h,Q (.im (.v (F i h).1))):zw2 P f t bs ⟨0,.dead⟩ args Q:=fun i h=>by
 obtain ⟨h1,h2⟩:=hc i h
 refine ⟨h1,fun w M E vals hw hR hv=>(h2 w M E vals hw hR hv).mono ?_⟩
 rintro en w' ⟨E',p,v,e1,e2,e3,e4,e5,e6⟩
 exact ⟨E',p,v,e1,e2,e3,_,(F i h).2.1,(F i h).2.2,[],hQ i h,by rw [e4];exact .one (.lf (.im _)),List.nodup_nil,e5,e6⟩
theorem zrO {rho:Nat→Option Nat} {Ln:Nat→Prop} {R0 R:Nat→Row}:∀ {l:List PV},zca l→GvL rho Ln R0 R l l
 | [],_=>.nil
 | p :: l,h=>by
   have hp:=h p (by simp)
   cases p <;> first | exact .one (.v _) (zrO fun q hq=>h q (by simp [hq])) | (simp [isV] at hp)
def zCw (t:TypeId) (bs:List Int) (x:RV × Nat × Int) (R1:Nat→Row) (p:PV):Prop:=(∃ ids,G2 R1 x.1 p ids∧(ids.map (·.1)).Nodup)∧R1 1000000 = ⟨1,zls t bs x.2.1 x.2.2⟩∧R1 1000500 = ⟨0,.dead⟩
def zFj [zad] (P:Program) (f:FuncId) (t:TypeId) (bs:List Int) (args:List PV) (F:Nat→Int→RV × Nat × Int):Prop :=
 ∀ (i:Nat) (h:Int),AG P f (.ref 1000000 1 0 :: args) (zvI t bs i h ⟨0,.dead⟩) (zCw t bs (F i h))
theorem zFj.askG [zad] {P:Program} {s:St} {K:St→Prop} {f:FuncId} {args:List PV} {d k v:Nat} {t:TypeId} {bs:List Int} {i:Nat} {h:Int} {fr:Bool} {F:Nat→Int→RV × Nat × Int} (hc:zFj P f t bs args F) (hp:zca args)
 (hk:s.rw k = ⟨v,.box t [.sl fr 1 (kL .u8 bs),.v (.int .i64 i),.v (.int .i64 h)]⟩) (hdk:(d % 1000 == k % 1000) = false)
 (hK:K (zai (s.row k ⟨v,.box t [.sl false 1 (kL .u8 bs),.v (.int .i64 (F i h).2.1),.v (.int .i64 (F i h).2.2)]⟩) d (F i h).1)):Go.Abs.askG P s f (.ref k v 0 :: args) (some d) K:=by
 refine zsS (hc i h) (ziE k none) (.one (zbS (by rw [hk])) (zrO hp)) ⟨fun a ha=>?_,fun a b x na nb ha hb=>?_,fun _ _ _ _ h=>h⟩ (fun a j ha hj=>?_) fun R1 p ⟨⟨ids,e1,en⟩,e2,e3⟩=>?_
 ·rcases zbP ha with rfl | ⟨_,hn⟩
  ·refine ⟨Nat.le_refl _,by rw [zbR];exact Nat.one_pos,k,zaM _ _,?_⟩
   rw [zbR,hk]
   exact ⟨rfl,.one (.sl _ _ _) (.one (.v _) (.one (.v _) .nil))⟩
  ·cases hn
 ·rcases zbP na with rfl | ⟨_,hn⟩
  ·rcases zbP nb with rfl | ⟨_,hn⟩
   ·rfl
   ·cases hn
  ·cases hn
 ·rcases zbP ha with rfl | ⟨_,hn⟩
  ·rw [zaM] at hj;cases hj;exact hdk
  ·cases hn
 ·refine ⟨(F i h).1,ids,s.row k ⟨v,.box t [.sl false 1 (kL .u8 bs),.v (.int .i64 (F i h).2.1),.v (.int .i64 (F i h).2.2)]⟩,e1,en,fun a ha=>?_,rfl,fun a j ha hj=>?_,fun j hj=>?_,hK⟩
  ·rcases zbP ha with rfl | ⟨_,hn⟩
   ·rw [e2,zbR];exact ⟨rfl,fun _ _=>rfl⟩
   ·cases hn
  ·rcases zbP ha with rfl | ⟨_,hn⟩
   ·rw [zaM] at hj;cases hj
    rw [zaH,hk,e2];rfl
   ·cases hn
  ·exact zao _ _ _ _ fun e=>hj 1000000 (by rw [zbR];rfl) (by rw [e];exact zaM _ _)
theorem zoN.askG [zad] {P:Program} {s:St} {K:St→Prop} {f:FuncId} {args:List PV} {d k v:Nat} {t:TypeId} {bs:List Int} {i:Nat} {h:Int} {fr:Bool} {F:Nat→Int→Value × Nat × Int} (hc:zoN P f t bs args F) (hp:zca args)
 (hk:s.rw k = ⟨v,.box t [.sl fr 1 (kL .u8 bs),.v (.int .i64 i),.v (.int .i64 h)]⟩) (hdk:(d % 1000 == k % 1000) = false)
 (hK:K ((s.row k ⟨v,.box t [.sl false 1 (kL .u8 bs),.v (.int .i64 (F i h).2.1),.v (.int .i64 (F i h).2.2)]⟩).put (some d) (.v (F i h).1))):Go.Abs.askG P s f (.ref k v 0 :: args) (some d) K :=
 zFj.askG (F:=fun i h=>(.im (.v (F i h).1),(F i h).2)) (fun i h=>(hc i h).imp id fun h2 w M E vals hw hR hv=>(h2 w M E vals hw hR hv).mono (by
  rintro en w' ⟨E',p,v,e1,e2,e3,e4,e5,e6⟩
  exact ⟨E',p,v,e1,e2,e3,⟨[],by rw [e4];exact .one (.lf (.im _)),List.nodup_nil⟩,e5,e6⟩)) hp hk hdk (by rw [zdL];exact hK)
theorem znA [zad] {P:Program} {s:St} {Ke:Ent→St→Prop} {f:FuncId} {args lents:List PV} {Ka:RV→Prop} {d k v:Nat} {t:TypeId} {bs:List Int} {i:Nat} {h:Int} {fr:Bool} {F:Nat→Int→Value × Nat × Int} {us:Dm s} {u:Dm Ke} (hc:zoN P f t bs args F) (hp:zca args)
 (hk:s.rw k = ⟨v,.box t [.sl fr 1 (kL .u8 bs),.v (.int .i64 i),.v (.int .i64 h)]⟩) (hdk:(d % 1000 == k % 1000) = false)
 (hK:Ke ⟨[],.ids [d,k]⟩ ((s.row k ⟨v,.box t [.sl false 1 (kL .u8 bs),.v (.int .i64 (F i h).2.1),.v (.int .i64 (F i h).2.2)]⟩).put (some d) (.v (F i h).1))) :
 ziN P f lents Ka (zEg P f (.ref k v 0 :: args) d (kk s us) (kk Ke u)) :=
 zuH [] (fun s' hs' _ _ hK'=>hc.askG hp (hs'.trans hk) hdk hK') (beq_eq_false_iff_ne.1 hdk) hK
theorem zeA [zad] {P:Program} {s:St} {K:St→Prop} {f:FuncId} {args lents:List PV} {Ka:RV→Prop} {d k v:Nat} {t:TypeId} {bs:List Int} {i:Nat} {h:Int} {fr:Bool} {F:Nat→Int→Value × Nat × Int} {us:Dm s} {u:Dm K} (hc:zoN P f t bs args F) (hp:zca args)
 (hk:s.rw k = ⟨v,.box t [.sl fr 1 (kL .u8 bs),.v (.int .i64 i),.v (.int .i64 h)]⟩) (hdk:(d % 1000 == k % 1000) = false)
 (hK:K ((s.row k ⟨v,.box t [.sl false 1 (kL .u8 bs),.v (.int .i64 (F i h).2.1),.v (.int .i64 (F i h).2.2)]⟩).put (some d) (.v (F i h).1))) :
 ziN P f lents Ka (ztE P f lents (.ref k v 0 :: args) (some d) (kk s us) (kk K u)):=.inr (.inr (.inr (.inr (hc.askG hp hk hdk hK))))
def zCx (t:TypeId) (bs:List Int) (L:Row) (x:Value × Nat × Int) (R1:Nat→Row) (p:PV):Prop:=p = .v x.1∧R1 1000000 = ⟨1,zls t bs x.2.1 x.2.2⟩∧R1 1000500 = L
def zw4 [zad] (P:Program) (f:FuncId) (t:TypeId) (bs:List Int) (e:TypeId) (c:List PV) (F:Nat→Int→Value × Nat × Int):Prop :=
 ∀ (i:Nat) (h:Int),AG P f [.ref 1000000 1 0,.own 1000500 1] (zvI t bs i h ⟨1,.sli e 1 false c⟩) (zCx t bs ⟨1,.sli e 1 false c⟩ (F i h))
theorem zw4.toCur [zad] {P:Program} {f:FuncId} {t:TypeId} {bs:List Int} {e:TypeId} {c:List PV} {F:Nat→Int→Value × Nat × Int} {Q:RV→Prop} (hc:zw4 P f t bs e c F) (hQ:∀ i h,Q (.im (.v (F i h).1))):zw2 P f t bs ⟨1,.sli e 1 false c⟩ [.own 1000500 1] Q:=fun i h=>by
 obtain ⟨h1,h2⟩:=hc i h
 refine ⟨h1,fun w M E vals hw hR hv=>(h2 w M E vals hw hR hv).mono ?_⟩
 rintro en w' ⟨E',p,v,e1,e2,e3,e4,e5,e6⟩
 exact ⟨E',p,v,e1,e2,e3,_,(F i h).2.1,(F i h).2.2,[],hQ i h,by rw [e4];exact .one (.lf (.im _)),List.nodup_nil,e5,e6⟩
theorem zw4.askG [zad] {P:Program} {s:St} {K:St→Prop} {f:FuncId} {d k v j vj:Nat} {t e:TypeId} {c:List PV} {bs:List Int} {i:Nat} {h:Int} {fr:Bool} {F:Nat→Int→Value × Nat × Int} (hc:zw4 P f t bs e c F) (hp:zca c)
 (hk:s.rw k = ⟨v,.box t [.sl fr 1 (kL .u8 bs),.v (.int .i64 i),.v (.int .i64 h)]⟩) (hj:s.rw j = ⟨vj,.sli e 1 false c⟩) (hdk:(d % 1000 == k % 1000) = false) (hdj:(d % 1000 == j % 1000) = false) (hkj:(k % 1000 == j % 1000) = false)
 (hK:K ((s.row k ⟨v,.box t [.sl false 1 (kL .u8 bs),.v (.int .i64 (F i h).2.1),.v (.int .i64 (F i h).2.2)]⟩).put (some d) (.v (F i h).1))):Go.Abs.askG P s f [.ref k v 0,.own j vj] (some d) K:=by
 have hkj':k ≠ j:=fun e=>beq_eq_false_iff_ne.1 hkj (by rw [e])
 refine zsS (hc i h) (ziE k (some j)) (.one (zbS (by rw [hk])) (.one (zlu (by rw [hj])) .nil)) ⟨fun a ha=>?_,fun a b x na nb ha hb=>?_,fun _ _ _ _ h=>h⟩ (fun a x ha hx=>?_) fun R1 p ⟨e1,e2,e3⟩=>?_
 ·rcases zbP ha with rfl | ⟨rfl,_⟩
  ·refine ⟨Nat.le_refl _,by rw [zbR];exact Nat.one_pos,k,zaM _ _,?_⟩
   rw [zbR,hk]
   exact ⟨rfl,.one (.sl _ _ _) (.one (.v _) (.one (.v _) .nil))⟩
  ·refine ⟨by decide,by rw [zcW];exact Nat.one_pos,j,zbf _ _,?_⟩
   rw [zcW,hj]
   exact ⟨rfl,rfl,rfl,hp⟩
 ·rcases zbP na with rfl | ⟨rfl,_⟩ <;> rcases zbP nb with rfl | ⟨rfl,_⟩
  ·rfl
  ·rw [zaM] at ha;rw [zbf] at hb;cases ha;cases hb;exact absurd rfl hkj'
  ·rw [zaM] at hb;rw [zbf] at ha;cases ha;cases hb;exact absurd rfl hkj'
  ·rfl
 ·rcases zbP ha with rfl | ⟨rfl,_⟩
  ·rw [zaM] at hx;cases hx;exact hdk
  ·rw [zbf] at hx;cases hx;exact hdj
 ·refine ⟨.im (.v (F i h).1),[],s.row k ⟨v,.box t [.sl false 1 (kL .u8 bs),.v (.int .i64 (F i h).2.1),.v (.int .i64 (F i h).2.2)]⟩,by rw [e1];exact .one (.lf (.im _)),List.nodup_nil,fun a ha=>?_,rfl,fun a x ha hx=>?_,fun x hx=>?_,by rw [zdL];exact hK⟩
  ·rcases zbP ha with rfl | ⟨rfl,_⟩
   ·rw [e2,zbR];exact ⟨rfl,fun _ _=>rfl⟩
   ·rw [e3,zcW];exact ⟨rfl,fun _ _=>rfl⟩
  ·rcases zbP ha with rfl | ⟨rfl,_⟩
   ·rw [zaM] at hx;cases hx
    rw [zaH,hk,e2];rfl
   ·rw [zbf] at hx;cases hx
    rw [zao _ _ _ _ (Ne.symm hkj'),hj,e3]
  ·exact zao _ _ _ _ fun e=>hx 1000000 (by rw [zbR];rfl) (by rw [e];exact zaM _ _)
theorem zlv [zad] {P:Program} {s:St} {Ke:Ent→St→Prop} {f:FuncId} {lents:List PV} {Ka:RV→Prop} {d k v j vj:Nat} {t e:TypeId} {c:List PV} {bs:List Int} {i:Nat} {h:Int} {fr:Bool} {F:Nat→Int→Value × Nat × Int} {us:Dm s} {u:Dm Ke} (hc:zw4 P f t bs e c F) (hp:zca c)
 (hk:s.rw k = ⟨v,.box t [.sl fr 1 (kL .u8 bs),.v (.int .i64 i),.v (.int .i64 h)]⟩) (hj:s.rw j = ⟨vj,.sli e 1 false c⟩) (hdk:(d % 1000 == k % 1000) = false) (hdj:(d % 1000 == j % 1000) = false) (hkj:(k % 1000 == j % 1000) = false)
 (hK:Ke ⟨[j],.ids [d,k]⟩ ((s.row k ⟨v,.box t [.sl false 1 (kL .u8 bs),.v (.int .i64 (F i h).2.1),.v (.int .i64 (F i h).2.2)]⟩).put (some d) (.v (F i h).1))) :
 ziN P f lents Ka (zEg P f [.ref k v 0,.own j vj] d (kk s us) (kk Ke u)) :=
 zuH [j] (fun s' hs' ha _ hK'=>hc.askG hp (hs'.trans hk) ((ha j (by simp)).trans hj) hdk hdj hkj hK') (beq_eq_false_iff_ne.1 hdk) hK
theorem zsT (T:Tab) (s:St) (r1 r2:ResultVar) (post:(Nat→Row)→PV→Prop):zxb T s [r1,r2] post = zv5 T s [r1,r2] (kk fun ps=>post s.rw (.tup ps)):=(rfl)
end Go.Abs

/- DERIVED by an AI agent. Texts joined: the library's contract as one of the layer. No program in sight. -/
namespace Go.Abs
set_option linter.unusedSimpArgs false
open Go.Proofs Go.Shelf Go.RowKit
def zoU (l:List ByteArray) (sep:ByteArray):ByteArray:=⟨(Go.Lib.join (l.map (·.data.toList)) sep.data.toList).toArray⟩
theorem zFq [zad] {P:Program} {ρ:Ren} (L:Lays.n156 P ρ) (X:Builder.Extra P ρ) (hE:zkI P (ρ.f 156)) (hdr:¬ zad.dr) (l:List ByteArray) (sep:ByteArray) (hN:l.length ≤ 140737488355328) (hlen:(zoU l sep).size ≤ 140737488355328) :
 AC P (ρ.f 156) [.sl false 1 (sL l),.v (.string sep)] (.im (.v (.string (zoU l sep)))):=by
 refine ⟨hE,fun w vals _ hv=>?_⟩
 obtain ⟨hl,hr⟩:=hv
 obtain ⟨x,y,rfl⟩:∃ x y,vals = [x,y]:=by
  match vals,hl with
  | [x,y],_=>exact ⟨x,y,rfl⟩
 have h0:=hr 0 (by simp) (by simp)
 have h1:=hr 1 (by simp) (by simp)
 simp only [List.getElem_cons_zero,List.getElem_cons_succ] at h0 h1
 obtain rfl:=h1.v_eq
 have hsL:(sL l).length = l.length:=by simp [sL]
 have key:Calls P (ρ.f 156) #[x,.string sep] w fun e w'=>e = .returned (.string (zoU l sep))∧Below w.heap.size w w':=by
  cases h0 with
  | @sl _ _ _ _ len cap _ a cs q1 q2 q3 q4 q5 =>
    rw [Nat.mul_one,hsL] at q1
    subst q1
    have hcs:∀ (j:Nat) t,l[j]? = some t→∃ b o,a = some ⟨b,o,none⟩∧b < w.heap.size∧w.cell? ⟨b,o + j,none⟩ = some (.string t):=fun j t hj=>by
     obtain ⟨hlt,rfl⟩:=List.getElem?_eq_some_iff.1 hj
     obtain ⟨b,o,e1,_,e3,e4⟩:=q4 j (by rw [hsL];exact hlt)
     have h5:=q5 j (by rw [hsL];exact hlt)
     have:(sL l)[j]'(by rw [hsL];exact hlt) = .v (.string l[j]):=by simp [sL]
     rw [this] at h5
     have h6:=h5.v_eq
     refine ⟨b,o,e1,?_,by rw [e4,h6]⟩
     rcases Nat.lt_or_ge b w.heap.size with h | h
     ·exact h
     ·have:w.cell? ⟨b,o + j,none⟩ = none:=by simp [World.cell?,h]
      rw [this] at e4;cases e4
    rcases l with _ | ⟨t,l⟩
    ·exact (Any.strings_Join_none L X a cap sep w).mono fun e w' ⟨he,hw⟩=>⟨he,hw ▸ Below.refl _ _⟩
    ·obtain ⟨b,o,rfl,hb,_⟩:=hcs 0 t rfl
     have:=Any.strings_Join L X b o cap (t :: l) sep w (fun j t' hj=>by
      obtain ⟨b',o',e,_,h⟩:=hcs j t' hj
      cases e;exact h) hb hN q2 (by simpa [zoU,ByteArray.size] using hlen)
     exact this
 exact key.mono fun e w' ⟨he,hw⟩=>⟨_,[],he,⟨hw.os,hw.tape,⟨hw.output,fun h=>absurd h hdr⟩,hw.size,hw.block⟩,.im (.v _),List.nodup_nil⟩
end Go.Abs

/- DERIVED by an AI agent. A number's text: the library's contract as one of the layer, where its table of powers is laid. No program in sight. -/
namespace Go.Abs
set_option linter.unusedSimpArgs false
open Go.Proofs Go.Shelf Go.RowKit
abbrev zhh (P:Program) (w:World):Prop:=Go.Lib.TabIs P w "internal/strconv.uint64pow10" .u64 Go.Lib.pow10Tab
theorem zsv {P:Program} {g:Nat} (hg:P.globalNamed "internal/strconv.uint64pow10" = some g) {w w':World} (h:zhh P w) (hb:∀ b,b = g→w'.heap[b]? = w.heap[b]?):zhh P w':=by
 unfold zhh Go.Lib.TabIs World.var? at *
 rw [hg] at h ⊢
 simp only [Option.bind_some] at h ⊢
 rw [hb g rfl];exact h
theorem zwE {P:Program} {g:Nat} (hg:P.globalNamed "internal/strconv.uint64pow10" = some g) {w:World} {b:Nat} (h:zhh P w) (hb:b = g):b < w.heap.size:=by
 subst hb
 unfold zhh Go.Lib.TabIs World.var? at h
 rw [hg] at h
 simp only [Option.bind_some] at h
 cases hq:w.heap[b]? with
 | none=>rw [hq] at h;cases h
 | some o=>exact ze6 hq
theorem zEF [zad] {P:Program} {ρ:Ren} (L:LaysM.n171 P ρ) (hE:zkI P (ρ.f 171)) (hH:∀ w,zad.Φ w→zhh P w) {n:Int} (h0:-9223372036854775808 ≤ n) (h1:n ≤ 9223372036854775807) :
 AC P (ρ.f 171) [.v (.int .i64 n)] (.im (.v (.string ⟨(Go.Lib.itoa n).toArray⟩))):=by
 refine ⟨hE,fun w vals hp hv=>?_⟩
 obtain ⟨hl,hr⟩:=hv
 obtain ⟨x,rfl⟩:∃ x,vals = [x]:=by
  match vals,hl with
  | [x],_=>exact ⟨x,rfl⟩
 have h:=hr 0 (by simp) (by simp)
 simp only [List.getElem_cons_zero] at h
 obtain rfl:=h.v_eq
 refine (Any.strconv_Itoa L n h0 h1 w (hH w hp)).mono fun e w' ⟨he,k,os,hw⟩=>?_
 subst hw
 refine ⟨_,[],he,⟨rfl,rfl,⟨rfl,fun _=>Nat.le_add_right _ _⟩,?_,fun b hb=>?_⟩,.im (.v _),List.nodup_nil⟩
 ·show w.heap.size ≤ (w.heap ++ os).size
  rw [Array.size_append];exact Nat.le_add_right _ _
 ·show (w.heap ++ os)[b]? = w.heap[b]?
  rw [Array.getElem?_append_left hb]
theorem zz0 {P:Program} {W:World} {l:List (String × DataW Unit)} {g:Nat} {t e:TypeId} {n:Nat} (hg:P.globalNamed "internal/strconv.uint64pow10" = some g) (hty:(P.globals[g]?).map (·.type) = some t) (ht:P.underlying t = some (.array n e)) (he:P.underlying e = some (.int .u64))
 (hce:P.cellsOf e = 1) (hct:P.cellsOf t = n) (h:laidMet P l W) (hm:("internal/strconv.uint64pow10",Go.Lib.tabData .u64 Go.Lib.pow10Tab) ∈ l):zhh P W:=by
 obtain ⟨g',t',cs,fuel,p,hg',ht',hvar,hd⟩:=Go.Lib.laidMet.reads h hm
 obtain rfl:=Option.some.inj (hg.symm.trans hg')
 obtain rfl:=Option.some.inj (hty.symm.trans ht')
 unfold zhh Go.Lib.TabIs
 rw [hvar,← Go.Lib.cells_of_tab ht he hce hct hd]
end Go.Abs

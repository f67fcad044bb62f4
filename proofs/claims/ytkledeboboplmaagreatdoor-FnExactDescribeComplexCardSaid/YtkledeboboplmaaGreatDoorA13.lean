/- DERIVED by an AI agent. -/
import Derived.Test.YtkledeboboplmaaGreatDoorA12
import Derived.Shelf.Strings.OnBuilder
import Derived.Shelf.Strconv.Itoa3
import Derived.Lib.LaidU8
/- DERIVED by an AI agent. Tables whose rows are appended to. No program in sight. -/
namespace Go.Abs
set_option linter.unusedSimpArgs false
set_option linter.unusedVariables false
def zdD (k n:Nat) (g:Nat→Nat):List PV:=(List.range n).map fun j=>.own (sid k j) (g j)
theorem zhF (k n:Nat) (g:Nat→Nat):(zdD k n g).length = n:=by simp [zdD]
structure TabF (rw:Nat→Row) (k v e e2 n:Nat) (g:Nat→Nat) (M:Nat→List Int):Prop where
 top:rw k = ⟨v,.tab e (zdD k n g)⟩
 row:∀ j,j < n→rw (sid k j) = ⟨g j,.sli e2 1 false (iL (M j))⟩
section
variable {s:St} {rw rw':Nat→Row} {k v e e2 n:Nat} {g:Nat→Nat} {M:Nat→List Int}
theorem TabF.same (h:TabF rw k v e e2 n g M) (h1:rw' k = rw k) (h2:∀ x,rw' (sid k x) = rw (sid k x)):TabF rw' k v e e2 n g M:=⟨h1.trans h.top,fun j hj=>(h2 j).trans (h.row j hj)⟩
theorem TabF.add (h:TabF rw k v e e2 n g M) {o:Nat} (ho:o < n) {r:List Int} {g':Nat→Nat} {M':Nat→List Int} (h1:rw' k = ⟨v,.tab e (spl (zdD k n g) o [.own (sid k o) (g o + 1)])⟩) (h2:rw' (sid k o) = ⟨g o + 1,.sli e2 1 false (iL r)⟩)
 (h3:∀ x,¬ x = o→rw' (sid k x) = rw (sid k x)) (hg:∀ j,j < n→g' j = if j = o then g o + 1 else g j) (hM:∀ j,j < n→M' j = if j = o then r else M j):TabF rw' k v e e2 n g' M':=by
 refine ⟨?_,fun j hj=>?_⟩
 ·rw [h1]
  congr 2
  show (zdD k n g).set o _ = _
  refine List.ext_getElem (by simp [zdD]) fun j a b=>?_
  have hj:j < n:=by simpa [zdD] using b
  rw [List.getElem_set]
  simp only [zdD,List.getElem_map,List.getElem_range,hg j hj]
  by_cases e:o = j
  ·subst e;simp
  ·rw [if_neg e,if_neg (Ne.symm e)]
 ·rw [hg j hj,hM j hj]
  by_cases e:j = o
  ·subst e;rw [if_pos rfl,if_pos rfl,h2]
  ·rw [if_neg e,if_neg e,h3 j e,h.row j hj]
theorem zAS [zae] {T:Tab} {Kp:PV→Prop} (k n:Nat) (g:Nat→Nat) {t:TypeId} (o:Nat) (h0:(T t).k.agg = false) (h1:0 < (T t).size):ldK T t .asis (zdD k n g) o Kp = (o < n∧Kp (.own (sid k o) (g o))):=by
 have:=zfo (T:=T) (Kp:=Kp) (fun j=>PV.own (sid k j) (g j)) 0 (List.range n) (t:=t) (m:=.asis) o (fun j=>.own (sid k j) (g j)) (fun _=>rfl) h0 h1
 refine (show ldK T t .asis (zdD k n g) o Kp = _ from this).trans ?_
 rw [List.length_range]
 refine propext ⟨fun ⟨a,b⟩=>⟨a,?_⟩,fun ⟨a,b⟩=>⟨a,?_⟩⟩
 ·have e1:(List.range n).getD o 0 = o:=by simp [List.getD,a]
  rwa [e1] at b
 ·have e1:(List.range n).getD o 0 = o:=by simp [List.getD,a]
  rwa [e1]
theorem TabF.init [zae] (e2:Nat) (hk:s.rw k = ⟨v,.sli e 1 false (List.replicate n (.v (.slice none 0 0)))⟩) (hd:∀ j,s.rw (sid k j) = ⟨0,.dead⟩) :
 ∃ s',Wk s s'∧TabF s'.rw k v e e2 n (fun _=>1) (fun _=>[])∧s'.sl = s.sl∧∀ j,(j % 1000 == k % 1000) = false→s'.rw j = s.rw j:=by
 let R':(Nat→Row)→Nat→Row:=fun R j=>if j = k then ⟨v,.tab e (zdD k n fun _=>1)⟩ else if k < j∧(j - k) % 1000 = 0∧(j - k) / 1000 - 1 < n then ⟨1,.sli e2 1 false []⟩ else R j
 have Rk:∀ R,R' R k = ⟨v,.tab e (zdD k n fun _=>1)⟩:=fun R=>by simp only [R',if_true]
 have Rs:∀ R j,j < n→R' R (sid k j) = ⟨1,.sli e2 1 false []⟩:=fun R j hj=>by
  have h1:¬ sid k j = k:=ze0 k j
  have h2:k < sid k j∧(sid k j - k) % 1000 = 0∧(sid k j - k) / 1000 - 1 < n:=by rw [zbE];omega
  simp only [R',if_neg h1,if_pos h2]
 have Ro:∀ R j,¬ (j = k ∨ ∃ i,i < n∧j = sid k i)→R' R j = R j:=fun R j hj=>by
  have h1:¬ j = k:=fun h=>hj (.inl h)
  have h2:¬ (k < j∧(j - k) % 1000 = 0∧(j - k) / 1000 - 1 < n):=fun h=>hj (.inr ⟨_,h.2.2,by rw [zbE];omega⟩)
  simp only [R',if_neg h1,if_neg h2]
 refine ⟨{ s with rw:=R' s.rw },?_,⟨Rk _,fun j hj=>Rs _ j hj⟩,rfl,fun j hj=>?_⟩
 ·intro G a w ⟨E,hs⟩
  have hR:E.R k = ⟨v,.sli e 1 false (List.replicate n (.v (.slice none 0 0)))⟩:=by rw [hs.rw];exact hk
  have hD:∀ j,E.R (sid k j) = ⟨0,.dead⟩:=fun j=>by rw [hs.rw];exact hd j
  let rm':Nat→Option Nat:=fun j=>if j = k then E.rm k else if k < j∧(j - k) % 1000 = 0∧(j - k) / 1000 - 1 < n then none else E.rm j
  let rv':Nat→Value:=fun j=>if j = k then E.rv k else if k < j∧(j - k) % 1000 = 0∧(j - k) / 1000 - 1 < n then .slice none 0 0 else E.rv j
  have Mk:rm' k = E.rm k:=by simp only [rm',if_true]
  have Vk:rv' k = E.rv k:=by simp only [rv',if_true]
  have cond:∀ j,j < n→¬ sid k j = k∧(k < sid k j∧(sid k j - k) % 1000 = 0∧(sid k j - k) / 1000 - 1 < n):=fun j hj=>⟨ze0 k j,by rw [zbE];omega⟩
  have Ms:∀ j,j < n→rm' (sid k j) = none:=fun j hj=>by simp only [rm',if_neg (cond j hj).1,if_pos (cond j hj).2]
  have Vs:∀ j,j < n→rv' (sid k j) = .slice none 0 0:=fun j hj=>by simp only [rv',if_neg (cond j hj).1,if_pos (cond j hj).2]
  have out:∀ j,¬ (j = k ∨ ∃ i,i < n∧j = sid k i)→rm' j = E.rm j∧rv' j = E.rv j:=fun j hj=>by
   have h1:¬ j = k:=fun h=>hj (.inl h)
   have h2:¬ (k < j∧(j - k) % 1000 = 0∧(j - k) / 1000 - 1 < n):=fun h=>hj (.inr ⟨_,h.2.2,by rw [zbE];omega⟩)
   simp only [rm',rv',if_neg h1,if_neg h2,and_self]
  let E':Env:={ R:=R' E.R,rm:=rm',rv:=rv',L:=mkL E.X (R' E.R) rm',B:=E.B,X:=E.X }
  have ht:Turn G E E' w w (fun j=>j = k ∨ ∃ i,i < n∧j = sid k i):=by
   refine ⟨rfl,rfl,rfl,fun j hj=>⟨Ro _ j hj,(out j hj).1,(out j hj).2⟩,fun _ _ _=>rfl,fun j b hj hb hn=>?_,fun j hj=>?_,fun j hj he hsl=>?_,fun j hj he hsl=>?_,fun j hj hn=>?_,fun j j' b hj hj' h1 h2 e1 e2=>?_,Nat.le_refl _,rfl,rfl,⟨rfl,fun _=>by first | exact Nat.le_refl _ | exact Nat.le_succ _⟩⟩
   ·rcases hj with rfl | ⟨i,hi,rfl⟩
    ·have hb:rm' j = some b:=hb
     rw [Mk] at hb
     exact .inr ⟨hb,by rw [hR];rfl,fun _=>by rw [hR];rfl⟩
    ·have hb:rm' (sid k i) = some b:=hb
     rw [Ms i hi] at hb;cases hb
   ·show _ ≤ (R' E.R j).ver
    rcases hj with rfl | ⟨i,hi,rfl⟩
    ·rw [Rk,hR];exact Nat.le_refl _
    ·rw [Rs _ i hi,hD];exact Nat.zero_le _
   ·have he:(R' E.R j).ver = (E.R j).ver:=he
    rcases hj with rfl | ⟨i,hi,rfl⟩
    ·exact ⟨by rw [hR];rfl,Vk⟩
    ·rw [Rs _ i hi,hD] at he;cases he
   ·have he:(R' E.R j).ver = (E.R j).ver:=he
    rcases hj with rfl | ⟨i,hi,rfl⟩
    ·exact ⟨by rw [hR];rfl,Mk⟩
    ·rw [Rs _ i hi,hD] at he;cases he
   ·show 0 < (R' E.R j).ver
    rcases hj with rfl | ⟨i,hi,rfl⟩
    ·have:=hs.wok.pos j (by rw [hR];rfl)
     rw [hR] at this
     rw [Rk];exact this
    ·rw [Rs _ i hi];exact Nat.one_pos
   ·have e1:rm' j = some b:=e1
    have e2:rm' j' = some b:=e2
    rcases hj with rfl | ⟨i,hi,rfl⟩
    ·rcases hj' with rfl | ⟨i',hi',rfl⟩
     ·rfl
     ·rw [Ms i' hi'] at e2;cases e2
    ·rw [Ms i hi] at e1;cases e1
  have hrows:∀ j,(j = k ∨ ∃ i,i < n∧j = sid k i)→zav w E' G.C j:=by
   intro j hj
   unfold zav
   show match (R' E.R j).kind with | .dead=>True | .nil=>_ | .box t cells=>_ | .sli e sz _ cells=>_ | .tab e cells=>_ | .mp f=>_
   rcases hj with rfl | ⟨i,hi,rfl⟩
   ·have hrow:=hs.wok.rows j
    unfold zav at hrow
    rw [hR] at hrow
    rw [Rk]
    show (rm' j = none∧rv' j = _∧_) ∨ _
    rw [Mk,Vk]
    rcases hrow with ⟨h1,h2,h3⟩ | ⟨b,m,cap,vs,rest,h1,h2,h3,h4,h5,h6,h7,h8,h9⟩
    ·refine .inl ⟨h1,h2,?_⟩
     have:n = 0:=by simpa using congrArg List.length h3
     subst this;rfl
    ·refine .inr ⟨b,m,cap,vs,rest,Mk.trans h1,h2,Vk.trans h3,h4,by omega,h6,h7,by omega,by rw [zhF,← h9.1];simp,fun i a' b'=>?_⟩
     have hi:i < n:=by simpa [zdD] using a'
     have h0:=h9.2 i (by simpa using hi) b'
     have e1:(zdD j n fun _=>1)[i] = .own (sid j i) 1:=by simp [zdD]
     have hv:vs[i] = .slice none 0 0:=by
      simp only [List.getElem_replicate] at h0
      exact h0.v_eq
     rw [e1,hv]
     refine .own ?_ fun _ _=>?_
     ·show 1 ≤ (R' E.R (sid j i)).ver
      rw [Rs _ i hi];exact Nat.le_refl _
     ·exact (Vs i hi).symm
   ·rw [Rs _ i hi]
    exact .inl ⟨Ms i hi,Vs i hi,rfl⟩
  have key:SimE G E' ({ s with rw:=R' E.R }:St) a w:=ht.sim hs hrows
  rw [hs.rw] at key
  exact ⟨_,key⟩
 ·have hj:=beq_eq_false_iff_ne.1 hj
  refine Ro _ j fun h=>hj ?_
  rcases h with rfl | ⟨i,_,rfl⟩
  ·rfl
  ·exact zdg _ _
variable {Q:AX→St→Prop}
theorem zAT [zae] {α:Type} (hk:s.rw k = ⟨v,.sli e 1 false (List.replicate n (.v (.slice none 0 0)))⟩) (hd:∀ j,s.rw (sid k j) = ⟨0,.dead⟩) (I:α→St→Prop) (μ:α→Nat) (x0:α) {b:(AX→St→Prop)→St→Prop} {u:Dm b} {w:Dm Q}
 (h0:∀ s',TabF s'.rw k v e e2 n (fun _=>1) (fun _=>[])→s'.sl = s.sl→(∀ j,(j % 1000 == k % 1000) = false→s'.rw j = s.rw j)→I x0 s') (h:∀ x s1,I x s1→b (AX.seq (zmt I μ (μ x)) Q) s1):zrA (kk b u) (kk Q w) s:=by
 obtain ⟨s',hw,ht,hsl,ho⟩:=TabF.init e2 hk hd
 exact ⟨α,I,μ,⟨x0,s',hw,h0 s' ht hsl ho⟩,h⟩
theorem zC6 {ids:List Nat}:∀ (l:List Nat) (rows:List (List PV)) (K:List Nat→Prop),rows.length = l.length→(∀ i (a:i < l.length) (b:i < rows.length),sid k l[i] < lent∧rw (sid k l[i]) = ⟨g l[i],.sli e2 1 false rows[i]⟩)→K (l.map (sid k)) →
 zrx rw e2 (l.map fun j=>.own (sid k j) (g j)) rows K:=by
 intro l
 induction l with
 | nil=>intro rows K h _ hk;cases rows with | nil=>exact hk | cons r rs=>simp at h
 | cons j l ih =>
   intro rows K h hr hk
   cases rows with
   | nil=>simp at h
   | cons r rs =>
     have h0:=hr 0 (by simp) (by simp)
     exact ⟨h0.1,h0.2,ih rs _ (by simpa using h) (fun i a b=>hr (i + 1) (by simpa using a) (by simpa using b)) hk⟩
theorem zAU [zae] (h:TabF rw k v e e2 n g M) (hk:k < 1000) (hn:n ≤ 900):zry rw (.own k v) (.tb e e2 ((List.range n).map fun j=>iL (M j))) List.Nodup:=by
 have hkl:k < lent:=by unfold lent;omega
 show zmu rw (.own k v) (.tb e e2 _) List.Nodup
 unfold zmu
 simp only [h.top]
 refine ⟨hkl,trivial,trivial,zC6 (ids:=[]) (List.range n) _ _ (by simp) (fun i a b=>?_) ?_⟩
 ·have hi:i < n:=by simpa using a
  simp only [List.getElem_range,List.getElem_map]
  exact ⟨zoU hk (by omega),h.row i hi⟩
 ·refine List.nodup_cons.2 ⟨fun hm=>?_,?_⟩
  ·obtain ⟨j,_,hj⟩:=List.mem_map.1 hm
   rw [zbE] at hj;omega
  ·refine List.Pairwise.map _ (fun a b hab=>?_) List.nodup_range
   rw [Ne,zgD];exact hab
end
end Go.Abs

/- DERIVED by an AI agent. Functions that are given a table and hand it back longer. No program in sight. -/
namespace Go.Abs
set_option linter.unusedSimpArgs false
set_option linter.unusedVariables false
structure TabU (rw:Nat→Row) (k v e e2:Nat) (ids:List (Nat × Nat)) (M:Mat):Prop where
 top:rw k = ⟨v,.tab e (ids.map fun x=>.own x.1 x.2)⟩
 len:ids.length = M.length
 row:∀ i (h:i < ids.length),rw ids[i].1 = ⟨ids[i].2,.sli e2 1 false (iL (M.getD i []))⟩
 nd:(k :: ids.map (·.1)).Nodup
section
variable {R1:Nat→Row} {k v e e2 n:Nat} {ids:List (Nat × Nat)} {M:Mat}
structure TabH (rw:Nat→Row) (k v e e2 n:Nat) (M:Mat):Prop where
 top:rw k = ⟨v,.tab e (zaI k (List.range n))⟩ ∨ (n = 0∧rw k = ⟨v,.sli e 1 false []⟩)
 len:M.length = n
 row:∀ j,j < n→rw (sid k j) = ⟨1,.sli e2 1 false (iL (M.getD j []))⟩
 rest:∀ j,n ≤ j→rw (sid k j) = ⟨0,.dead⟩
end
end Go.Abs

/- DERIVED by an AI agent. A nil slice seen as a row of nothing, to be appended to. No program in sight. -/
namespace Go.Abs
set_option linter.unusedSimpArgs false
set_option linter.unusedVariables false
theorem SimE.nilRow [zae] {G:Ghost} {E:Env} {s:St} {a:Act} {w:World} (hs:SimE G E s a w) (k e:Nat) :
 ∃ E',SimE G E' (s.row k ⟨(s.rw k).ver + 1,.sli e 1 false []⟩) a w∧Rep w E' 0 (.own k ((s.rw k).ver + 1)) (.slice none 0 0):=by
 have ht:=zfZ (G:=G) (E:=E) (k:=k) (kd:=.sli e 1 false []) (m:=none) (v:=.slice none 0 0) (Ext.refl w) (fun b h=>by cases h)
 have hrows:∀ j,j = k→zav w (E.row k ⟨(E.R k).ver + 1,.sli e 1 false []⟩ none (.slice none 0 0)) G.C j:=fun j hj=>by
  subst hj
  unfold zav
  simp only [Env.row,zaf]
  exact .inl ⟨trivial,trivial,trivial⟩
 have h:=ht.sim hs hrows
 have e1:({ s with rw:=(E.row k ⟨(E.R k).ver + 1,.sli e 1 false []⟩ none (.slice none 0 0)).R }:St) = s.row k ⟨(s.rw k).ver + 1,.sli e 1 false []⟩:=by
  show ({ s with rw:=zcB E.R k _ }:St) = _
  rw [hs.rw];rfl
 rw [e1] at h
 refine ⟨_,h,.own ?_ fun _ _=>?_⟩
 ·simp [Env.row,zaf,hs.rw]
 ·simp [Env.row,zaf]
theorem Wk.nilBox [zae] {s:St} {j v t o:Nat} {c:List PV} (k e:Nat) (hj:s.rw j = ⟨v,.box t c⟩) (ho:c[o]? = some (.v (.slice none 0 0))) (hjk:j ≠ k):Wk s ((s.row k ⟨(s.rw k).ver + 1,.sli e 1 false []⟩).row j ⟨v,.box t (c.set o (.own k ((s.rw k).ver + 1)))⟩):=by
 intro G a w ⟨E,hs⟩
 obtain ⟨E',h,hr⟩:=hs.nilRow k e
 have hRj:E'.R j = ⟨v,.box t c⟩:=by
  rw [h.rw]
  show (if j = k then _ else s.rw j) = _
  rw [if_neg hjk,hj]
 let E3:Env:={ R:=zcB E'.R j ⟨v,.box t (c.set o (.own k ((s.rw k).ver + 1)))⟩,rm:=E'.rm,rv:=E'.rv,L:=mkL E'.X (zcB E'.R j ⟨v,.box t (c.set o (.own k ((s.rw k).ver + 1)))⟩) E'.rm,B:=E'.B,X:=E'.X }
 have ht:Turn G E' E3 w w (· = j):=by
  refine ⟨rfl,rfl,rfl,fun i hi=>⟨zal _ _ hi,rfl,rfl⟩,fun _ _ _=>rfl,fun i b hi hb _=>?_,fun i hi=>?_,fun i hi _ hsl=>?_,fun i hi _ _=>?_,fun i hi _=>?_,fun i i' b hi hi' _ _ _ _=>by rw [hi,hi'],Nat.le_refl _,rfl,rfl,⟨rfl,fun _=>by first | exact Nat.le_refl _ | exact Nat.le_succ _⟩⟩
  ·subst hi;exact .inr ⟨hb,by rw [hRj];rfl,fun _=>by rw [hRj];rfl⟩
  ·subst hi
   show _ ≤ (zcB E'.R i _ i).ver
   rw [zaf,hRj];exact Nat.le_refl _
  ·subst hi
   have:(zcB E'.R i ⟨v,.box t (c.set o (.own k ((s.rw k).ver + 1)))⟩ i).kind.slice = true:=hsl
   rw [zaf] at this;cases this
  ·subst hi;exact ⟨by rw [hRj];rfl,rfl⟩
  ·subst hi
   show 0 < (zcB E'.R i _ i).ver
   rw [zaf]
   have:=h.wok.pos i (by rw [hRj];rfl)
   rw [hRj] at this;exact this
 have hl:=ht.lasts h.wok
 have hrows:∀ i,i = j→zav w E3 G.C i:=fun i hi=>by
  subst hi
  have hrow:=h.wok.rows i
  unfold zav at hrow ⊢
  rw [hRj] at hrow
  obtain ⟨b,vs,h1,h2,h3,h4⟩:=hrow
  show match (zcB E'.R i ⟨v,.box t (c.set o (.own k ((s.rw k).ver + 1)))⟩ i).kind with | .dead=>True | .nil=>_ | .box t cells=>_ | .sli e sz _ cells=>_ | .tab e cells=>_ | .mp f=>_
  rw [zaf]
  refine ⟨b,vs,h1,h2,h3,by simp [h4.1],fun x a' b'=>?_⟩
  have hx:x < c.length:=by simpa using a'
  rw [List.getElem_set]
  by_cases hxo:o = x
  ·subst hxo
   rw [if_pos rfl]
   have h0:=h4.2 o hx b'
   have:c[o] = .v (.slice none 0 0):=by
    have:=List.getElem?_eq_some_iff.1 ho
    exact this.2
   rw [this] at h0
   rw [h0.v_eq]
   exact hr.mono hl (Nat.le_refl _)
  ·rw [if_neg hxo]
   exact (h4.2 x hx b').mono hl (Nat.le_refl _)
 have key:=ht.sim h hrows
 have e1:({ (s.row k ⟨(s.rw k).ver + 1,.sli e 1 false []⟩) with rw:=E3.R }:St) = (s.row k ⟨(s.rw k).ver + 1,.sli e 1 false []⟩).row j ⟨v,.box t (c.set o (.own k ((s.rw k).ver + 1)))⟩:=by
  show ({ (s.row k ⟨(s.rw k).ver + 1,.sli e 1 false []⟩) with rw:=zcB E'.R j _ }:St) = _
  rw [h.rw];rfl
 rw [e1] at key
 exact ⟨_,key⟩
section
variable {Q:AX→St→Prop} {s:St} {k e e2:Nat}
end
end Go.Abs

/- DERIVED by an AI agent. A function that is given a slice of its own and hands back that or another one, with a word whether it did. No program in sight. -/
namespace Go.Abs
set_option linter.unusedSimpArgs false
set_option linter.unusedVariables false
variable {P:Program} {s:St} {K:St→Prop}
theorem zAR [zae] {f:FuncId} {pre pre' raw head out lent:List PV} {e:Nat} {ok:Bool} {Ka:RV→Prop} {j vj d:Nat} {us:Dm s} {u:Dm K} (h:AF P f pre head e out ok)
 (hq:∀ (rho:Nat→Option Nat) (R0:Nat→Row),GvL rho (fun i=>i ≠ j) R0 s.rw pre pre') (hraw:raw = pre' ++ [.own j vj]) (hj:s.rw j = ⟨vj,.sli e 1 false head⟩) (hp:zbM head) (hdj:d ≠ j)
 (hk:∀ (S:St) (v r:Nat),(r = j ∨ r = d)→S.sl d = .tup [.own r v,.v (.bool ok)]→S.rw r = ⟨v,.sli e 1 false out⟩→(∀ t,t ≠ d→S.sl t = s.sl t)→(∀ i,i ≠ j→i ≠ d→S.rw i = s.rw i)→K S) :
 ziS P f lent Ka (zsO P f lent raw (some d) (kk s us) (kk K u)):=by
 subst hraw
 have hG:askG P s f (pre' ++ [.own j vj]) (some d) K:=h.askG hq hj hp hdj fun S v r hr hsl hrow hoff=>by
  refine hk S v r (hr.imp (·.1) (·.1)) ?_ hrow (fun t ht=>?_) hoff
  ·rw [hsl,zay]
  ·rw [hsl,zaO _ _ _ _ ht]
 exact .inr (.inr (.inr (.inr hG)))
theorem AG.goW [zae] {P:Program} {T:Tab} {f:FuncId} {fn:Func} {c:Code} {rs:List ResultVar} {args:List PV} {R0:Nat→Row} {post:(Nat→Row)→PV→Prop} (hT:T.Ok P) (hm:P.follows .mixedOrders = true) (hf:P.funcs[f]? = some fn) (hname:(fn.name == "runtime.NumGoroutine") = false)
 (hb:fn.body = some c) (hr:fn.results.toList = rs) (hfit:(fits fn.ntmps c && decide (args.length ≤ fn.ntmps) && decide (fn.results.toList.length ≤ 4)) = true)
 (h:zE9 args→(∀ k,zk6 (R0 k).kind)→∀ s:St,(∀ i,s.sl i = args.getD i .junk)→(∀ k,s.rw k = R0 k)→∃ s',Wk s s'∧cwp P T c (zF5 T rs post) s'):AG P f args R0 post:=by
 subst hr
 refine ⟨⟨fn,hf,hname,by rw [hb];rfl⟩,fun w M E vals hw hR hv=>?_⟩
 exact (AG.ofW hT hm hf hname hb hfit (fun hl=>h (zsS hv) hl _ (fun _=>rfl) (fun _=>rfl))).2 w M E vals hw hR hv
end Go.Abs

/- DERIVED by an AI agent. Functions that are given a cursor and draw from it: what they hand back is told by what holds of it. No program in sight. -/
namespace Go.Abs
set_option linter.unusedSimpArgs false
set_option linter.unusedVariables false
abbrev ziy:=Nat × (TypeId × Option Nat × List PV)
inductive LfG (R:Nat→Row):RV→PV→List ziy→Prop
 | im (x:Value):LfG R (.im (.v x)) (.v x) []
 | sl (fr:Bool) (sz:Nat) (c:List PV):LfG R (.im (.sl fr sz c)) (.sl true sz c) []
 | fr {e sz k v:Nat} {c:List PV} (h:R k = ⟨v,.sli e sz false c⟩) (hk:k < 1000000):LfG R (.fr e sz c) (.own k v) [(k,(e,some sz,c))]
inductive LfsG (R:Nat→Row):List RV→List PV→List ziy→Prop
 | nil:LfsG R [] [] []
 | cons {a:RV} {p:PV} {i:List ziy} {l:List RV} {ps:List PV} {is:List ziy} (h:LfG R a p i) (t:LfsG R l ps is):LfsG R (a :: l) (p :: ps) (i ++ is)
inductive G1 (R:Nat→Row):RV→PV→List ziy→Prop
 | lf {a:RV} {p:PV} {i:List ziy} (h:LfG R a p i):G1 R a p i
 | ag {l:List RV} {ps:List PV} {i:List ziy} (h:LfsG R l ps i):G1 R (.ag l) (.ag ps) i
inductive G1s (R:Nat→Row):List RV→List PV→List ziy→Prop
 | nil:G1s R [] [] []
 | cons {a:RV} {p:PV} {i:List ziy} {l:List RV} {ps:List PV} {is:List ziy} (h:G1 R a p i) (t:G1s R l ps is):G1s R (a :: l) (p :: ps) (i ++ is)
inductive G2 (R:Nat→Row):RV→PV→List ziy→Prop
 | one {a:RV} {p:PV} {i:List ziy} (h:G1 R a p i):G2 R a p i
 | tup {l:List RV} {ps:List PV} {i:List ziy} (h:G1s R l ps i):G2 R (.tup l) (.tup ps) i
section
variable {R:Nat→Row} {rho1:Nat→Option Nat} {nv:Nat→Nat} {vr:Nat→Nat} {d:Nat}
end
inductive LRow (s:St):Row→Option Nat→Prop
 | none:LRow s ⟨0,.dead⟩ none
 | some {j v e sz:Nat} {c:List PV} (hj:s.rw j = ⟨v,.sli e sz false c⟩) (hp:zbM c):LRow s ⟨1,.sli e sz false c⟩ (some j)
theorem zhI {rho:Nat→Option Nat} {Ln:Nat→Prop} {R0 R:Nat→Row}:∀ {l:List PV},zbM l→GvL rho Ln R0 R l l
 | [],_=>.nil
 | p :: l,h=>by
   have hp:=h p (by simp)
   cases p <;> first | exact .one (.v _) (zhI fun q hq=>h q (by simp [hq])) | (simp [isV] at hp)
end Go.Abs

/- DERIVED by an AI agent. Texts joined: the library's contract as one of the layer. No program in sight. -/
namespace Go.Abs
set_option linter.unusedSimpArgs false
open Go.Proofs Go.Shelf Go.RowKit
def zgU (l:List ByteArray) (sep:ByteArray):ByteArray:=⟨(Go.Lib.join (l.map (·.data.toList)) sep.data.toList).toArray⟩
theorem zHv [zae] {P:Program} {ρ:Ren} (L:Lays.n156 P ρ) (X:Builder.Extra P ρ) (hE:zlo P (ρ.f 156)) (hdr:¬ zae.dr) (l:List ByteArray) (sep:ByteArray) (hN:l.length ≤ 140737488355328) (hlen:(zgU l sep).size ≤ 140737488355328) :
 AC P (ρ.f 156) [.sl false 1 (sL l),.v (.string sep)] (.im (.v (.string (zgU l sep)))):=by
 refine ⟨hE,fun w vals _ hv=>?_⟩
 obtain ⟨hl,hr⟩:=hv
 obtain ⟨x,y,rfl⟩:∃ x y,vals = [x,y]:=by
  match vals,hl with
  | [x,y],_=>exact ⟨x,y,rfl⟩
 have h0:=hr 0 (by simp) (by simp)
 have h1:=hr 1 (by simp) (by simp)
 simp only [List.getElem_cons_zero,List.getElem_cons_succ] at h0 h1
 obtain rfl:=h1.v_eq
 have hsL:(sL l).length = l.length:=by simp [sL]
 have key:Calls P (ρ.f 156) #[x,.string sep] w fun e w'=>e = .returned (.string (zgU l sep))∧Below w.heap.size w w':=by
  cases h0 with
  | @sl _ _ _ _ len cap _ a cs q1 q2 q3 q4 q5 =>
    rw [Nat.mul_one,hsL] at q1
    subst q1
    have hcs:∀ (j:Nat) t,l[j]? = some t→∃ b o,a = some ⟨b,o,none⟩∧b < w.heap.size∧w.cell? ⟨b,o + j,none⟩ = some (.string t):=fun j t hj=>by
     obtain ⟨hlt,rfl⟩:=List.getElem?_eq_some_iff.1 hj
     obtain ⟨b,o,e1,_,e3,e4⟩:=q4 j (by rw [hsL];exact hlt)
     have h5:=q5 j (by rw [hsL];exact hlt)
     have:(sL l)[j]'(by rw [hsL];exact hlt) = .v (.string l[j]):=by simp [sL]
     rw [this] at h5
     have h6:=h5.v_eq
     refine ⟨b,o,e1,?_,by rw [e4,h6]⟩
     rcases Nat.lt_or_ge b w.heap.size with h | h
     ·exact h
     ·have:w.cell? ⟨b,o + j,none⟩ = none:=by simp [World.cell?,h]
      rw [this] at e4;cases e4
    rcases l with _ | ⟨t,l⟩
    ·exact (Any.strings_Join_none L X a cap sep w).mono fun e w' ⟨he,hw⟩=>⟨he,hw ▸ Below.refl _ _⟩
    ·obtain ⟨b,o,rfl,hb,_⟩:=hcs 0 t rfl
     have:=Any.strings_Join L X b o cap (t :: l) sep w (fun j t' hj=>by
      obtain ⟨b',o',e,_,h⟩:=hcs j t' hj
      cases e;exact h) hb hN q2 (by simpa [zgU,ByteArray.size] using hlen)
     exact this
 exact key.mono fun e w' ⟨he,hw⟩=>⟨_,[],he,⟨hw.os,hw.tape,⟨hw.output,fun h=>absurd h hdr⟩,hw.size,hw.block⟩,.im (.v _),List.nodup_nil⟩
end Go.Abs

/- DERIVED by an AI agent. A number's text: the library's contract as one of the layer, where its table of powers is laid. No program in sight. -/
namespace Go.Abs
set_option linter.unusedSimpArgs false
open Go.Proofs Go.Shelf Go.RowKit
abbrev zhE (P:Program) (w:World):Prop:=Go.Lib.TabIs P w "internal/strconv.uint64pow10" .u64 Go.Lib.pow10Tab
theorem ztm {P:Program} {g:Nat} (hg:P.globalNamed "internal/strconv.uint64pow10" = some g) {w w':World} (h:zhE P w) (hb:∀ b,b = g→w'.heap[b]? = w.heap[b]?):zhE P w':=by
 unfold zhE Go.Lib.TabIs World.var? at *
 rw [hg] at h ⊢
 simp only [Option.bind_some] at h ⊢
 rw [hb g rfl];exact h
theorem zxz {P:Program} {g:Nat} (hg:P.globalNamed "internal/strconv.uint64pow10" = some g) {w:World} {b:Nat} (h:zhE P w) (hb:b = g):b < w.heap.size:=by
 subst hb
 unfold zhE Go.Lib.TabIs World.var? at h
 rw [hg] at h
 simp only [Option.bind_some] at h
 cases hq:w.heap[b]? with
 | none=>rw [hq] at h;cases h
 | some o=>exact ze2 hq
theorem zGr [zae] {P:Program} {ρ:Ren} (L:LaysM.n171 P ρ) (hE:zlo P (ρ.f 171)) (hH:∀ w,zae.Φ w→zhE P w) {n:Int} (h0:-9223372036854775808 ≤ n) (h1:n ≤ 9223372036854775807) :
 AC P (ρ.f 171) [.v (.int .i64 n)] (.im (.v (.string ⟨(Go.Lib.itoa n).toArray⟩))):=by
 refine ⟨hE,fun w vals hp hv=>?_⟩
 obtain ⟨hl,hr⟩:=hv
 obtain ⟨x,rfl⟩:∃ x,vals = [x]:=by
  match vals,hl with
  | [x],_=>exact ⟨x,rfl⟩
 have h:=hr 0 (by simp) (by simp)
 simp only [List.getElem_cons_zero] at h
 obtain rfl:=h.v_eq
 refine (Any.strconv_Itoa L n h0 h1 w (hH w hp)).mono fun e w' ⟨he,k,os,hw⟩=>?_
 subst hw
 refine ⟨_,[],he,⟨rfl,rfl,⟨rfl,fun _=>Nat.le_add_right _ _⟩,?_,fun b hb=>?_⟩,.im (.v _),List.nodup_nil⟩
 ·show w.heap.size ≤ (w.heap ++ os).size
  rw [Array.size_append];exact Nat.le_add_right _ _
 ·show (w.heap ++ os)[b]? = w.heap[b]?
  rw [Array.getElem?_append_left hb]
theorem zAQ {P:Program} {W:World} {l:List (String × DataW Unit)} {g:Nat} {t e:TypeId} {n:Nat} (hg:P.globalNamed "internal/strconv.uint64pow10" = some g) (hty:(P.globals[g]?).map (·.type) = some t) (ht:P.underlying t = some (.array n e)) (he:P.underlying e = some (.int .u64))
 (hce:P.cellsOf e = 1) (hct:P.cellsOf t = n) (h:laidMet P l W) (hm:("internal/strconv.uint64pow10",Go.Lib.tabData .u64 Go.Lib.pow10Tab) ∈ l):zhE P W:=by
 obtain ⟨g',t',cs,fuel,p,hg',ht',hvar,hd⟩:=Go.Lib.laidMet.reads h hm
 obtain rfl:=Option.some.inj (hg.symm.trans hg')
 obtain rfl:=Option.some.inj (hty.symm.trans ht')
 unfold zhE Go.Lib.TabIs
 rw [hvar,← Go.Lib.cells_of_tab ht he hce hct hd]
end Go.Abs

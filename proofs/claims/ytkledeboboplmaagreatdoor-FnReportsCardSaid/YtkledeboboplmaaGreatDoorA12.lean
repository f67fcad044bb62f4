/- DERIVED by an AI agent. -/
import Derived.Test.YtkledeboboplmaaGreatDoorA11
import Derived.Shelf.Strings.OnBuilder
import Derived.Shelf.Strconv.Itoa3
import Derived.Lib.LaidU8
namespace Go.Abs
set_option linter.unusedSimpArgs false
set_option linter.unusedVariables false
def zdY (k n:Nat) (g:Nat->Nat):List PV:=(List.range n).map fun j=>.own (sid k j) (g j)
theorem ziy (k n:Nat) (g:Nat->Nat):(zdY k n g).length = n:=by simp [zdY]
structure TabF (rw:Nat->Row) (k v e e2 n:Nat) (g:Nat->Nat) (M:Nat->List Int):Prop where
 top:rw k = ⟨v,.tab e (zdY k n g)⟩
 row:∀ j,j < n->rw (sid k j) = ⟨g j,.sli e2 1 false (iL (M j))⟩
section
variable {s:St} {rw rw':Nat->Row} {k v e e2 n:Nat} {g:Nat->Nat} {M:Nat->List Int}
theorem TabF.same (h:TabF rw k v e e2 n g M) (h1:rw' k = rw k) (h2:∀ x,rw' (sid k x) = rw (sid k x)):TabF rw' k v e e2 n g M:=⟨h1.trans h.top,fun j hj=>(h2 j).trans (h.row j hj)⟩
theorem TabF.add (h:TabF rw k v e e2 n g M) {o:Nat} (ho:o < n) {r:List Int} {g':Nat->Nat} {M':Nat->List Int} (h1:rw' k = ⟨v,.tab e (spl (zdY k n g) o [.own (sid k o) (g o + 1)])⟩) (h2:rw' (sid k o) = ⟨g o + 1,.sli e2 1 false (iL r)⟩)
 (h3:∀ x,¬ x = o->rw' (sid k x) = rw (sid k x)) (hg:∀ j,j < n->g' j = if j = o then g o + 1 else g j) (hM:∀ j,j < n->M' j = if j = o then r else M j):TabF rw' k v e e2 n g' M':=by
 refine ⟨?_,fun j hj=>?_⟩
 ·rw [h1]
  congr 2
  show (zdY k n g).set o _ = _
  refine List.ext_getElem (by simp [zdY]) fun j a b=>?_
  have hj:j < n:=by simpa [zdY] using b
  rw [List.getElem_set]
  simp only [zdY,List.getElem_map,List.getElem_range,hg j hj]
  by_cases e:o = j
  ·subst e;simp
  ·rw [if_neg e,if_neg (Ne.symm e)]
 ·rw [hg j hj,hM j hj]
  by_cases e:j = o
  ·subst e;rw [if_pos rfl,if_pos rfl,h2]
  ·rw [if_neg e,if_neg e,h3 j e,h.row j hj]
theorem zC8 [zae] {T:Tab} {Kp:PV->Prop} (k n:Nat) (g:Nat->Nat) {t:TypeId} (o:Nat) (h0:(T t).k.agg = false) (h1:0 < (T t).size):ldK T t .asis (zdY k n g) o Kp = (o < n/\Kp (.own (sid k o) (g o))):=by
 have:=zf1 (T:=T) (Kp:=Kp) (fun j=>PV.own (sid k j) (g j)) 0 (List.range n) (t:=t) (m:=.asis) o (fun j=>.own (sid k j) (g j)) (fun _=>rfl) h0 h1
 refine (show ldK T t .asis (zdY k n g) o Kp = _ from this).trans ?_
 rw [List.length_range]
 refine propext ⟨fun ⟨a,b⟩=>⟨a,?_⟩,fun ⟨a,b⟩=>⟨a,?_⟩⟩
 ·have e1:(List.range n).getD o 0 = o:=by simp [List.getD,a]
  rwa [e1] at b
 ·have e1:(List.range n).getD o 0 = o:=by simp [List.getD,a]
  rwa [e1]
theorem TabF.init [zae] (e2:Nat) (hk:s.rw k = ⟨v,.sli e 1 false (List.replicate n (.v (.slice none 0 0)))⟩) (hd:∀ j,s.rw (sid k j) = ⟨0,.dead⟩) :
 ∃ s',Wk s s'/\TabF s'.rw k v e e2 n (fun _=>1) (fun _=>[])/\s'.sl = s.sl/\∀ j,(j % 1000 == k % 1000) = false->s'.rw j = s.rw j:=by
 let R':(Nat->Row)->Nat->Row:=fun R j=>if j = k then ⟨v,.tab e (zdY k n fun _=>1)⟩ else if k < j/\(j - k) % 1000 = 0/\(j - k) / 1000 - 1 < n then ⟨1,.sli e2 1 false []⟩ else R j
 have Rk:∀ R,R' R k = ⟨v,.tab e (zdY k n fun _=>1)⟩:=fun R=>by simp only [R',if_true]
 have Rs:∀ R j,j < n->R' R (sid k j) = ⟨1,.sli e2 1 false []⟩:=fun R j hj=>by
  have h1:¬ sid k j = k:=zfz k j
  have h2:k < sid k j/\(sid k j - k) % 1000 = 0/\(sid k j - k) / 1000 - 1 < n:=by rw [zbN];omega
  simp only [R',if_neg h1,if_pos h2]
 have Ro:∀ R j,¬ (j = k \/ ∃ i,i < n/\j = sid k i)->R' R j = R j:=fun R j hj=>by
  have h1:¬ j = k:=fun h=>hj (.inl h)
  have h2:¬ (k < j/\(j - k) % 1000 = 0/\(j - k) / 1000 - 1 < n):=fun h=>hj (.inr ⟨_,h.2.2,by rw [zbN];omega⟩)
  simp only [R',if_neg h1,if_neg h2]
 refine ⟨{ s with rw:=R' s.rw },?_,⟨Rk _,fun j hj=>Rs _ j hj⟩,rfl,fun j hj=>?_⟩
 ·intro G a w ⟨E,hs⟩
  have hR:E.R k = ⟨v,.sli e 1 false (List.replicate n (.v (.slice none 0 0)))⟩:=by rw [hs.rw];exact hk
  have hD:∀ j,E.R (sid k j) = ⟨0,.dead⟩:=fun j=>by rw [hs.rw];exact hd j
  let rm':Nat->Option Nat:=fun j=>if j = k then E.rm k else if k < j/\(j - k) % 1000 = 0/\(j - k) / 1000 - 1 < n then none else E.rm j
  let rv':Nat->Value:=fun j=>if j = k then E.rv k else if k < j/\(j - k) % 1000 = 0/\(j - k) / 1000 - 1 < n then .slice none 0 0 else E.rv j
  have Mk:rm' k = E.rm k:=by simp only [rm',if_true]
  have Vk:rv' k = E.rv k:=by simp only [rv',if_true]
  have cond:∀ j,j < n->¬ sid k j = k/\(k < sid k j/\(sid k j - k) % 1000 = 0/\(sid k j - k) / 1000 - 1 < n):=fun j hj=>⟨zfz k j,by rw [zbN];omega⟩
  have Ms:∀ j,j < n->rm' (sid k j) = none:=fun j hj=>by simp only [rm',if_neg (cond j hj).1,if_pos (cond j hj).2]
  have Vs:∀ j,j < n->rv' (sid k j) = .slice none 0 0:=fun j hj=>by simp only [rv',if_neg (cond j hj).1,if_pos (cond j hj).2]
  have out:∀ j,¬ (j = k \/ ∃ i,i < n/\j = sid k i)->rm' j = E.rm j/\rv' j = E.rv j:=fun j hj=>by
   have h1:¬ j = k:=fun h=>hj (.inl h)
   have h2:¬ (k < j/\(j - k) % 1000 = 0/\(j - k) / 1000 - 1 < n):=fun h=>hj (.inr ⟨_,h.2.2,by rw [zbN];omega⟩)
   simp only [rm',rv',if_neg h1,if_neg h2,and_self]
  let E':Env:={ R:=R' E.R,rm:=rm',rv:=rv',L:=mkL E.X (R' E.R) rm',B:=E.B,X:=E.X }
  have ht:Turn G E E' w w (fun j=>j = k \/ ∃ i,i < n/\j = sid k i):=by
   refine ⟨rfl,rfl,rfl,fun j hj=>⟨Ro _ j hj,(out j hj).1,(out j hj).2⟩,fun _ _ _=>rfl,fun j b hj hb hn=>?_,fun j hj=>?_,fun j hj he hsl=>?_,fun j hj he hsl=>?_,fun j hj hn=>?_,fun j j' b hj hj' h1 h2 e1 e2=>?_,Nat.le_refl _,rfl,rfl,⟨rfl,fun _=>by first | exact Nat.le_refl _ | exact Nat.le_succ _⟩⟩
   ·rcases hj with rfl | ⟨i,hi,rfl⟩
    ·have hb:rm' j = some b:=hb
     rw [Mk] at hb
     exact .inr ⟨hb,by rw [hR];rfl,fun _=>by rw [hR];rfl⟩
    ·have hb:rm' (sid k i) = some b:=hb
     rw [Ms i hi] at hb;cases hb
   ·show _ <= (R' E.R j).ver
    rcases hj with rfl | ⟨i,hi,rfl⟩
    ·rw [Rk,hR];exact Nat.le_refl _
    ·rw [Rs _ i hi,hD];exact Nat.zero_le _
   ·have he:(R' E.R j).ver = (E.R j).ver:=he
    rcases hj with rfl | ⟨i,hi,rfl⟩
    ·exact ⟨by rw [hR];rfl,Vk⟩
    ·rw [Rs _ i hi,hD] at he;cases he
   ·have he:(R' E.R j).ver = (E.R j).ver:=he
    rcases hj with rfl | ⟨i,hi,rfl⟩
    ·exact ⟨by rw [hR];rfl,Mk⟩
    ·rw [Rs _ i hi,hD] at he;cases he
   ·show 0 < (R' E.R j).ver
    rcases hj with rfl | ⟨i,hi,rfl⟩
    ·have:=hs.wok.pos j (by rw [hR];rfl)
     rw [hR] at this
     rw [Rk];exact this
    ·rw [Rs _ i hi];exact Nat.one_pos
   ·have e1:rm' j = some b:=e1
    have e2:rm' j' = some b:=e2
    rcases hj with rfl | ⟨i,hi,rfl⟩
    ·rcases hj' with rfl | ⟨i',hi',rfl⟩
     ·rfl
     ·rw [Ms i' hi'] at e2;cases e2
    ·rw [Ms i hi] at e1;cases e1
  have hrows:∀ j,(j = k \/ ∃ i,i < n/\j = sid k i)->zav w E' G.C j:=by
   intro j hj
   unfold zav
   show match (R' E.R j).kind with | .dead=>True | .nil=>_ | .box t cells=>_ | .sli e sz _ cells=>_ | .tab e cells=>_ | .mp f=>_
   rcases hj with rfl | ⟨i,hi,rfl⟩
   ·have hrow:=hs.wok.rows j
    unfold zav at hrow
    rw [hR] at hrow
    rw [Rk]
    show (rm' j = none/\rv' j = _/\_) \/ _
    rw [Mk,Vk]
    rcases hrow with ⟨h1,h2,h3⟩ | ⟨b,m,cap,vs,rest,h1,h2,h3,h4,h5,h6,h7,h8,h9⟩
    ·refine .inl ⟨h1,h2,?_⟩
     have:n = 0:=by simpa using congrArg List.length h3
     subst this;rfl
    ·refine .inr ⟨b,m,cap,vs,rest,Mk.trans h1,h2,Vk.trans h3,h4,om,h6,h7,om,by rw [ziy,<- h9.1];simp,fun i a' b'=>?_⟩
     have hi:i < n:=by simpa [zdY] using a'
     have h0:=h9.2 i (by simpa using hi) b'
     have e1:(zdY j n fun _=>1)[i] = .own (sid j i) 1:=by simp [zdY]
     have hv:vs[i] = .slice none 0 0:=by
      simp only [List.getElem_replicate] at h0
      exact h0.v_eq
     rw [e1,hv]
     refine .own ?_ fun _ _=>?_
     ·show 1 <= (R' E.R (sid j i)).ver
      rw [Rs _ i hi];exact Nat.le_refl _
     ·exact (Vs i hi).symm
   ·rw [Rs _ i hi]
    exact .inl ⟨Ms i hi,Vs i hi,rfl⟩
  have key:SimE G E' ({ s with rw:=R' E.R }:St) a w:=ht.sim hs hrows
  rw [hs.rw] at key
  exact ⟨_,key⟩
 ·have hj:=beq_eq_false_iff_ne.1 hj
  refine Ro _ j fun h=>hj ?_
  rcases h with rfl | ⟨i,_,rfl⟩
  ·rfl
  ·exact zdx _ _
variable {Q:AX->St->Prop}
theorem zC9 [zae] {α:Type} (hk:s.rw k = ⟨v,.sli e 1 false (List.replicate n (.v (.slice none 0 0)))⟩) (hd:∀ j,s.rw (sid k j) = ⟨0,.dead⟩) (I:α->St->Prop) (μ:α->Nat) (x0:α) {b:(AX->St->Prop)->St->Prop} {u:Dm b} {w:Dm Q}
 (h0:∀ s',TabF s'.rw k v e e2 n (fun _=>1) (fun _=>[])->s'.sl = s.sl->(∀ j,(j % 1000 == k % 1000) = false->s'.rw j = s.rw j)->I x0 s') (h:∀ x s1,I x s1->b (AX.seq (znE I μ (μ x)) Q) s1):zs8 (kk b u) (kk Q w) s:=by
 obtain ⟨s',hw,ht,hsl,ho⟩:=TabF.init e2 hk hd
 exact ⟨α,I,μ,⟨x0,s',hw,h0 s' ht hsl ho⟩,h⟩
theorem zFt {ids:List Nat}:∀ (l:List Nat) (rows:List (List PV)) (K:List Nat->Prop),rows.length = l.length->(∀ i (a:i < l.length) (b:i < rows.length),sid k l[i] < lent/\rw (sid k l[i]) = ⟨g l[i],.sli e2 1 false rows[i]⟩)->K (l.map (sid k)) ->
 zs5 rw e2 (l.map fun j=>.own (sid k j) (g j)) rows K:=by
 intro l
 induction l with
 | nil=>intro rows K h _ hk;cases rows with | nil=>exact hk | cons r rs=>simp at h
 | cons j l ih =>
   intro rows K h hr hk
   cases rows with
   | nil=>simp at h
   | cons r rs =>
     have h0:=hr 0 sp sp
     exact ⟨h0.1,h0.2,ih rs _ (by simpa using h) (fun i a b=>hr (i + 1) (by simpa using a) (by simpa using b)) hk⟩
theorem zDa [zae] (h:TabF rw k v e e2 n g M) (hk:k < 1000) (hn:n <= 900):zs6 rw (.own k v) (.tb e e2 ((List.range n).map fun j=>iL (M j))) List.Nodup:=by
 have hkl:k < lent:=by unfold lent;omega
 show znF rw (.own k v) (.tb e e2 _) List.Nodup
 unfold znF
 simp only [h.top]
 refine ⟨hkl,trivial,trivial,zFt (ids:=[]) (List.range n) _ _ sp (fun i a b=>?_) ?_⟩
 ·have hi:i < n:=by simpa using a
  simp only [List.getElem_range,List.getElem_map]
  exact ⟨zqm hk om,h.row i hi⟩
 ·refine List.nodup_cons.2 ⟨fun hm=>?_,?_⟩
  ·obtain ⟨j,_,hj⟩:=List.mem_map.1 hm
   rw [zbN] at hj;omega
  ·refine List.Pairwise.map _ (fun a b hab=>?_) List.nodup_range
   rw [Ne,zhr];exact hab
end
end Go.Abs

namespace Go.Abs
set_option linter.unusedSimpArgs false
set_option linter.unusedVariables false
structure TabU (rw:Nat->Row) (k v e e2:Nat) (ids:List (Nat × Nat)) (M:Mat):Prop where
 top:rw k = ⟨v,.tab e (ids.map fun x=>.own x.1 x.2)⟩
 len:ids.length = M.length
 row:∀ i (h:i < ids.length),rw ids[i].1 = ⟨ids[i].2,.sli e2 1 false (iL (M.getD i []))⟩
 nd:(k :: ids.map (·.1)).Nodup
section
variable {R1:Nat->Row} {k v e e2 n:Nat} {ids:List (Nat × Nat)} {M:Mat}
structure TabH (rw:Nat->Row) (k v e e2 n:Nat) (M:Mat):Prop where
 top:rw k = ⟨v,.tab e (zaJ k (List.range n))⟩ \/ (n = 0/\rw k = ⟨v,.sli e 1 false []⟩)
 len:M.length = n
 row:∀ j,j < n->rw (sid k j) = ⟨1,.sli e2 1 false (iL (M.getD j []))⟩
 rest:∀ j,n <= j->rw (sid k j) = ⟨0,.dead⟩
end
end Go.Abs

namespace Go.Abs
set_option linter.unusedSimpArgs false
set_option linter.unusedVariables false
theorem SimE.nilRow [zae] {G:Ghost} {E:Env} {s:St} {a:Act} {w:World} (hs:SimE G E s a w) (k e:Nat) :
 ∃ E',SimE G E' (s.row k ⟨(s.rw k).ver + 1,.sli e 1 false []⟩) a w/\Rep w E' 0 (.own k ((s.rw k).ver + 1)) (.slice none 0 0):=by
 have ht:=zgG (G:=G) (E:=E) (k:=k) (kd:=.sli e 1 false []) (m:=none) (v:=.slice none 0 0) (Ext.refl w) (fun b h=>by cases h)
 have hrows:∀ j,j = k->zav w (E.row k ⟨(E.R k).ver + 1,.sli e 1 false []⟩ none (.slice none 0 0)) G.C j:=fun j hj=>by
  subst hj
  unfold zav
  simp only [Env.row,zaf]
  exact .inl ⟨trivial,trivial,trivial⟩
 have h:=ht.sim hs hrows
 have e1:({ s with rw:=(E.row k ⟨(E.R k).ver + 1,.sli e 1 false []⟩ none (.slice none 0 0)).R }:St) = s.row k ⟨(s.rw k).ver + 1,.sli e 1 false []⟩:=by
  show ({ s with rw:=zcR E.R k _ }:St) = _
  rw [hs.rw];rfl
 rw [e1] at h
 refine ⟨_,h,.own ?_ fun _ _=>?_⟩
 ·simp [Env.row,zaf,hs.rw]
 ·simp [Env.row,zaf]
theorem Wk.nilBox [zae] {s:St} {j v t o:Nat} {c:List PV} (k e:Nat) (hj:s.rw j = ⟨v,.box t c⟩) (ho:c[o]? = some (.v (.slice none 0 0))) (hjk:j ≠ k):Wk s ((s.row k ⟨(s.rw k).ver + 1,.sli e 1 false []⟩).row j ⟨v,.box t (c.set o (.own k ((s.rw k).ver + 1)))⟩):=by
 intro G a w ⟨E,hs⟩
 obtain ⟨E',h,hr⟩:=hs.nilRow k e
 have hRj:E'.R j = ⟨v,.box t c⟩:=by
  rw [h.rw]
  show (if j = k then _ else s.rw j) = _
  rw [if_neg hjk,hj]
 let E3:Env:={ R:=zcR E'.R j ⟨v,.box t (c.set o (.own k ((s.rw k).ver + 1)))⟩,rm:=E'.rm,rv:=E'.rv,L:=mkL E'.X (zcR E'.R j ⟨v,.box t (c.set o (.own k ((s.rw k).ver + 1)))⟩) E'.rm,B:=E'.B,X:=E'.X }
 have ht:Turn G E' E3 w w (· = j):=by
  refine ⟨rfl,rfl,rfl,fun i hi=>⟨zam _ _ hi,rfl,rfl⟩,fun _ _ _=>rfl,fun i b hi hb _=>?_,fun i hi=>?_,fun i hi _ hsl=>?_,fun i hi _ _=>?_,fun i hi _=>?_,fun i i' b hi hi' _ _ _ _=>by rw [hi,hi'],Nat.le_refl _,rfl,rfl,⟨rfl,fun _=>by first | exact Nat.le_refl _ | exact Nat.le_succ _⟩⟩
  ·subst hi;exact .inr ⟨hb,by rw [hRj];rfl,fun _=>by rw [hRj];rfl⟩
  ·subst hi
   show _ <= (zcR E'.R i _ i).ver
   rw [zaf,hRj];exact Nat.le_refl _
  ·subst hi
   have:(zcR E'.R i ⟨v,.box t (c.set o (.own k ((s.rw k).ver + 1)))⟩ i).kind.slice = true:=hsl
   rw [zaf] at this;cases this
  ·subst hi;exact ⟨by rw [hRj];rfl,rfl⟩
  ·subst hi
   show 0 < (zcR E'.R i _ i).ver
   rw [zaf]
   have:=h.wok.pos i (by rw [hRj];rfl)
   rw [hRj] at this;exact this
 have hl:=ht.lasts h.wok
 have hrows:∀ i,i = j->zav w E3 G.C i:=fun i hi=>by
  subst hi
  have hrow:=h.wok.rows i
  unfold zav at hrow ⊢
  rw [hRj] at hrow
  obtain ⟨b,vs,h1,h2,h3,h4⟩:=hrow
  show match (zcR E'.R i ⟨v,.box t (c.set o (.own k ((s.rw k).ver + 1)))⟩ i).kind with | .dead=>True | .nil=>_ | .box t cells=>_ | .sli e sz _ cells=>_ | .tab e cells=>_ | .mp f=>_
  rw [zaf]
  refine ⟨b,vs,h1,h2,h3,by simp [h4.1],fun x a' b'=>?_⟩
  have hx:x < c.length:=by simpa using a'
  rw [List.getElem_set]
  by_cases hxo:o = x
  ·subst hxo
   rw [if_pos rfl]
   have h0:=h4.2 o hx b'
   have:c[o] = .v (.slice none 0 0):=by
    have:=List.getElem?_eq_some_iff.1 ho
    exact this.2
   rw [this] at h0
   rw [h0.v_eq]
   exact hr.mono hl (Nat.le_refl _)
  ·rw [if_neg hxo]
   exact (h4.2 x hx b').mono hl (Nat.le_refl _)
 have key:=ht.sim h hrows
 have e1:({ (s.row k ⟨(s.rw k).ver + 1,.sli e 1 false []⟩) with rw:=E3.R }:St) = (s.row k ⟨(s.rw k).ver + 1,.sli e 1 false []⟩).row j ⟨v,.box t (c.set o (.own k ((s.rw k).ver + 1)))⟩:=by
  show ({ (s.row k ⟨(s.rw k).ver + 1,.sli e 1 false []⟩) with rw:=zcR E'.R j _ }:St) = _
  rw [h.rw];rfl
 rw [e1] at key
 exact ⟨_,key⟩
section
variable {Q:AX->St->Prop} {s:St} {k e e2:Nat}
end
end Go.Abs

namespace Go.Abs
set_option linter.unusedSimpArgs false
set_option linter.unusedVariables false
variable {P:Program} {s:St} {K:St->Prop}
theorem zC7 [zae] {f:FuncId} {pre pre' raw head out lent:List PV} {e:Nat} {ok:Bool} {Ka:RV->Prop} {j vj d:Nat} {us:Dm s} {u:Dm K} (h:AF P f pre head e out ok)
 (hq:∀ (rho:Nat->Option Nat) (R0:Nat->Row),GvL rho (fun i=>i ≠ j) R0 s.rw pre pre') (hraw:raw = pre' ++ [.own j vj]) (hj:s.rw j = ⟨vj,.sli e 1 false head⟩) (hp:zbs head) (hdj:d ≠ j)
 (hk:∀ (S:St) (v r:Nat),(r = j \/ r = d)->S.sl d = .tup [.own r v,.v (.bool ok)]->S.rw r = ⟨v,.sli e 1 false out⟩->(∀ t,t ≠ d->S.sl t = s.sl t)->(∀ i,i ≠ j->i ≠ d->S.rw i = s.rw i)->K S) :
 zf0 P f lent Ka (znD P f lent raw (some d) (kk s us) (kk K u)):=by
 subst hraw
 have hG:askG P s f (pre' ++ [.own j vj]) (some d) K:=h.askG hq hj hp hdj fun S v r hr hsl hrow hoff=>by
  refine hk S v r (hr.imp (·.1) (·.1)) ?_ hrow (fun t ht=>?_) hoff
  ·rw [hsl,zau]
  ·rw [hsl,zaG _ _ _ _ ht]
 exact .inr (.inr (.inr (.inr hG)))
theorem AG.goW [zae] {P:Program} {T:Tab} {f:FuncId} {fn:Func} {c:Code} {rs:List ResultVar} {args:List PV} {R0:Nat->Row} {post:(Nat->Row)->PV->Prop} (hT:T.Ok P) (hm:P.follows .mixedOrders = true) (hf:P.funcs[f]? = some fn) (hname:(fn.name == "runtime.NumGoroutine") = false)
 (hb:fn.body = some c) (hr:fn.results.toList = rs) (hfit:(fits fn.ntmps c && decide (args.length <= fn.ntmps) && decide (fn.results.toList.length <= 4)) = true)
 (h:zEE args->(∀ k,zjR (R0 k).kind)->∀ s:St,(∀ i,s.sl i = args.getD i .junk)->(∀ k,s.rw k = R0 k)->∃ s',Wk s s'/\cwp P T c (zHA T rs post) s'):AG P f args R0 post:=by
 subst hr
 refine ⟨⟨fn,hf,hname,by rw [hb];rfl⟩,fun w M E vals hw hR hv=>?_⟩
 exact (AG.ofW hT hm hf hname hb hfit (fun hl=>h (zux hv) hl _ (fun _=>rfl) (fun _=>rfl))).2 w M E vals hw hR hv
end Go.Abs

namespace Go.Abs
set_option linter.unusedSimpArgs false
set_option linter.unusedVariables false
abbrev zb0:=Nat × (TypeId × Option Nat × List PV)
inductive LfG (R:Nat->Row):RV->PV->List zb0->Prop
 | im (x:Value):LfG R (.im (.v x)) (.v x) []
 | sl (fr:Bool) (sz:Nat) (c:List PV):LfG R (.im (.sl fr sz c)) (.sl true sz c) []
 | fr {e sz k v:Nat} {c:List PV} (h:R k = ⟨v,.sli e sz false c⟩) (hk:k < 1000000):LfG R (.fr e sz c) (.own k v) [(k,(e,some sz,c))]
inductive LfsG (R:Nat->Row):List RV->List PV->List zb0->Prop
 | nil:LfsG R [] [] []
 | cons {a:RV} {p:PV} {i:List zb0} {l:List RV} {ps:List PV} {is:List zb0} (h:LfG R a p i) (t:LfsG R l ps is):LfsG R (a :: l) (p :: ps) (i ++ is)
inductive G1 (R:Nat->Row):RV->PV->List zb0->Prop
 | lf {a:RV} {p:PV} {i:List zb0} (h:LfG R a p i):G1 R a p i
 | ag {l:List RV} {ps:List PV} {i:List zb0} (h:LfsG R l ps i):G1 R (.ag l) (.ag ps) i
inductive G1s (R:Nat->Row):List RV->List PV->List zb0->Prop
 | nil:G1s R [] [] []
 | cons {a:RV} {p:PV} {i:List zb0} {l:List RV} {ps:List PV} {is:List zb0} (h:G1 R a p i) (t:G1s R l ps is):G1s R (a :: l) (p :: ps) (i ++ is)
inductive G2 (R:Nat->Row):RV->PV->List zb0->Prop
 | one {a:RV} {p:PV} {i:List zb0} (h:G1 R a p i):G2 R a p i
 | tup {l:List RV} {ps:List PV} {i:List zb0} (h:G1s R l ps i):G2 R (.tup l) (.tup ps) i
section
variable {R:Nat->Row} {rho1:Nat->Option Nat} {nv:Nat->Nat} {vr:Nat->Nat} {d:Nat}
def Fits (R:Nat->Row) (rho1:Nat->Option Nat) (nv vr:Nat->Nat) (d i:Nat) (ids:List zb0):Prop :=
 ∀ j (h:j < ids.length),rho1 ids[j].1 = some (zak d (i + j))/\nv ids[j].1 = vr (zak d (i + j)) + 1
theorem Fits.left {i:Nat} {a b:List zb0} (h:Fits R rho1 nv vr d i (a ++ b)):Fits R rho1 nv vr d i a:=fun j hj=>by
 have:=h j (by rw [List.length_append];omega)
 rwa [List.getElem_append_left hj] at this
theorem Fits.right {i:Nat} {a b:List zb0} (h:Fits R rho1 nv vr d i (a ++ b)):Fits R rho1 nv vr d (i + a.length) b:=fun j hj=>by
 have:=h (a.length + j) (by rw [List.length_append];omega)
 rw [List.getElem_append_right om] at this
 simpa [Nat.add_assoc] using this
theorem LfG.leaves [zae] {a:RV} {p:PV} {i:List zb0} (h:LfG R a p i):Go.Abs.leaves a = i.map (·.2):=by
 cases h <;> simp [Go.Abs.leaves]
theorem LfsG.leaves [zae] {l:List RV} {ps:List PV} {i:List zb0} (h:LfsG R l ps i):(l.map Go.Abs.leaves).flatten = i.map (·.2):=by
 induction h with
 | nil=>rfl
 | cons h t ih=>simp [ih,h.leaves]
theorem G1.leaves [zae] {a:RV} {p:PV} {i:List zb0} (h:G1 R a p i):Go.Abs.leaves a = i.map (·.2):=by
 cases h with
 | lf h=>exact h.leaves
 | ag h=>rw [zce];exact h.leaves
theorem G1s.leaves [zae] {l:List RV} {ps:List PV} {i:List zb0} (h:G1s R l ps i):(l.map Go.Abs.leaves).flatten = i.map (·.2):=by
 induction h with
 | nil=>rfl
 | cons h t ih=>simp [ih,h.leaves]
theorem G2.leaves [zae] {a:RV} {p:PV} {i:List zb0} (h:G2 R a p i):Go.Abs.leaves a = i.map (·.2):=by
 cases h with
 | one h=>exact h.leaves
 | tup h=>rw [zby];exact h.leaves
theorem LfG.row {a:RV} {p:PV} {i:List zb0} (h:LfG R a p i):∀ x ∈ i,x.1 < 1000000/\∃ v sz,x.2.2.1 = some sz/\R x.1 = ⟨v,.sli x.2.1 sz false x.2.2.2⟩:=by
 cases h with
 | im=>simp
 | sl=>simp
 | fr h hk=>intro x hx;rw [List.mem_singleton.1 hx];exact ⟨hk,_,_,rfl,h⟩
theorem LfsG.row {l:List RV} {ps:List PV} {i:List zb0} (h:LfsG R l ps i):∀ x ∈ i,x.1 < 1000000/\∃ v sz,x.2.2.1 = some sz/\R x.1 = ⟨v,.sli x.2.1 sz false x.2.2.2⟩:=by
 induction h with
 | nil=>simp
 | cons h t ih=>intro x hx;exact (List.mem_append.1 hx).elim (h.row x) (ih x)
theorem G1.row {a:RV} {p:PV} {i:List zb0} (h:G1 R a p i):∀ x ∈ i,x.1 < 1000000/\∃ v sz,x.2.2.1 = some sz/\R x.1 = ⟨v,.sli x.2.1 sz false x.2.2.2⟩:=by
 cases h with
 | lf h=>exact h.row
 | ag h=>exact h.row
theorem G1s.row {l:List RV} {ps:List PV} {i:List zb0} (h:G1s R l ps i):∀ x ∈ i,x.1 < 1000000/\∃ v sz,x.2.2.1 = some sz/\R x.1 = ⟨v,.sli x.2.1 sz false x.2.2.2⟩:=by
 induction h with
 | nil=>simp
 | cons h t ih=>intro x hx;exact (List.mem_append.1 hx).elim (h.row x) (ih x)
theorem G2.row {a:RV} {p:PV} {i:List zb0} (h:G2 R a p i):∀ x ∈ i,x.1 < 1000000/\∃ v sz,x.2.2.1 = some sz/\R x.1 = ⟨v,.sli x.2.1 sz false x.2.2.2⟩:=by
 cases h with
 | one h=>exact h.row
 | tup h=>exact h.row
theorem LfG.ren [zae] {a:RV} {p:PV} {ids:List zb0} {i:Nat} (h:LfG R a p ids) (hf:Fits R rho1 nv vr d i ids):ztz rho1 R nv true p = zbI vr d a i:=by
 cases h with
 | im x=>rfl
 | sl=>rfl
 | fr h hk =>
   have:=hf 0 sp
   simp only [List.getElem_cons_zero,Nat.add_zero] at this
   rw [zek,this.1,h]
   simp only [beq_self_eq_true]
   rw [this.2];rfl
theorem LfG.ren1 [zae] {a:RV} {p:PV} {ids:List zb0} {i:Nat} (h:LfG R a p ids) (hf:Fits R rho1 nv vr d i ids):Go.Abs.ren1 rho1 R nv true p = zbO vr d a i:=by
 have:=h.ren hf
 cases h with
 | im x=>rfl
 | sl=>rfl
 | fr h hk=>exact this
theorem LfsG.ren [zae] {l:List RV} {ps:List PV} {ids:List zb0} (h:LfsG R l ps ids):∀ {i:Nat},Fits R rho1 nv vr d i ids->ps.map (ztz rho1 R nv true) = zbl (zbI vr d) l i:=by
 induction h with
 | nil=>intro i _;rfl
 | cons h t ih =>
   intro i hf
   rw [List.map_cons,zbl,h.ren hf.left,ih hf.right,h.leaves,List.length_map]
theorem G1.ren [zae] {a:RV} {p:PV} {ids:List zb0} {i:Nat} (h:G1 R a p ids) (hf:Fits R rho1 nv vr d i ids):Go.Abs.ren1 rho1 R nv true p = zbO vr d a i:=by
 cases h with
 | lf h=>exact h.ren1 hf
 | ag h=>show PV.ag _ = PV.ag _;rw [h.ren hf]
theorem G1s.ren [zae] {l:List RV} {ps:List PV} {ids:List zb0} (h:G1s R l ps ids):∀ {i:Nat},Fits R rho1 nv vr d i ids->ps.map (Go.Abs.ren1 rho1 R nv true) = zbl (zbO vr d) l i:=by
 induction h with
 | nil=>intro i _;rfl
 | cons h t ih =>
   intro i hf
   rw [List.map_cons,zbl,h.ren hf.left,ih hf.right,h.leaves,List.length_map]
theorem LfsG.ren' [zae] {l:List RV} {ps:List PV} {ids:List zb0} (h:LfsG R l ps ids):∀ {i:Nat},Fits R rho1 nv vr d i ids->ps.map (ztz rho1 R nv true) = zbl (zbO vr d) l i:=by
 induction h with
 | nil=>intro i _;rfl
 | @cons a p _ _ _ _ h t ih =>
   intro i hf
   have e:ztz rho1 R nv true p = zbO vr d a i:=by
    rw [h.ren hf.left]
    cases h <;> rfl
   rw [List.map_cons,zbl,e,ih hf.right,h.leaves,List.length_map]
theorem G2.ren [zae] {a:RV} {p:PV} {ids:List zb0} (h:G2 R a p ids) (hf:Fits R rho1 nv vr d 0 ids):zC1 rho1 R nv true p = zaY vr d a 0:=by
 cases h with
 | one h =>
   cases h with
   | lf h =>
     have:=h.ren hf
     cases h with
     | im x=>rfl
     | sl=>rfl
     | fr h hk=>exact this
   | ag h=>show PV.ag _ = PV.ag _;rw [h.ren' hf]
 | tup h=>show PV.tup _ = PV.tup _;rw [h.ren hf]
end
theorem zzm [zae] (d i:Nat):zak d i % 1000 = d % 1000:=by unfold zak;omega
theorem zDm [zae] {P:Program} {s:St} {K:St->Prop} {f:FuncId} {args raw:List PV} {d:Nat} {R0:Nat->Row} {post:(Nat->Row)->PV->Prop}
 (hc:AG P f args R0 post) (rho:Nat->Option Nat) (hl:GvL rho (fun _=>False) R0 s.rw args raw) (hg:Give rho (fun _=>False) R0 s.rw)
 (hd:∀ a j,(R0 a).kind.nd = true->rho a = some j->(d % 1000 == j % 1000) = false)
 (hpost:∀ R1 p,post R1 p->∃ (rv:RV) (ids:List zb0) (s':St),G2 R1 rv p ids/\(ids.map (·.1)).Nodup/\(∀ a,(R0 a).kind.nd = true->(R1 a).ver = (R0 a).ver/\∀ rho1 nv,zqv rho1 R1 nv true (R1 a).kind = (R1 a).kind)/\s'.sl = s.sl /\
  (∀ a j,(R0 a).kind.nd = true->rho a = some j->s'.rw j = ⟨(s.rw j).ver,(R1 a).kind⟩)/\(∀ j,(∀ a,(R0 a).kind.nd = true->rho a ≠ some j)->s'.rw j = s.rw j)/\K (zal s' d rv)) :
 askG P s f raw (some d) K:=by
 refine ⟨args,R0,post,rho,_,hc,hl,hg,fun R1 p hp=>?_⟩
 obtain ⟨rv,ids,s',hG,hnd,hver,hsl,hgiv,hoth,hK⟩:=hpost R1 p hp
 have hrow:=hG.row
 have hlow:∀ a,(R0 a).kind.nd = true->1000000 <= a:=fun a ha=>(hg.row a ha).1
 have hsm:∀ n (hn:n < ids.length),¬ (R0 ids[n].1).kind.nd = true:=fun n hn h=>by
  have:=(hrow _ (List.getElem_mem hn)).1;have:=hlow _ h;omega
 let rho1:Nat->Option Nat:=fun a=>if (R0 a).kind.nd = true then rho a else (ids.findIdx? (fun x=>x.1 == a)).map (zak d)
 let nv:Nat->Nat:=fun a=>if (R0 a).kind.nd = true then ((rho a).map fun j=>(s.rw j).ver).getD 0 else (match ids.findIdx? (fun x=>x.1 == a) with | some n=>(s.rw (zak d n)).ver + 1 | none=>0)
 have hfi:∀ n (hn:n < ids.length),ids.findIdx? (fun x=>x.1 == ids[n].1) = some n:=fun n hn=>by
  rw [List.findIdx?_eq_some_iff_getElem]
  refine ⟨hn,sp,fun j hj=>?_⟩
  simp only [beq_iff_eq]
  intro e
  have h1:(ids.map (·.1))[j]'(by simp;omega) = (ids.map (·.1))[n]'(by simpa using hn):=by simpa using e
  exact absurd ((List.getElem_inj hnd).1 h1) om
 have r1:∀ a,(R0 a).kind.nd = true->rho1 a = rho a:=fun a h=>if_pos h
 have r3:∀ n (hn:n < ids.length),rho1 ids[n].1 = some (zak d n):=fun n hn=>by
  show (if (R0 ids[n].1).kind.nd = true then _ else _) = _
  rw [if_neg (hsm n hn),hfi n hn];rfl
 have n1:∀ a j,(R0 a).kind.nd = true->rho a = some j->nv a = (s.rw j).ver:=fun a j h hj=>by
  show (if (R0 a).kind.nd = true then _ else _) = _
  rw [if_pos h,hj];rfl
 have n3:∀ n (hn:n < ids.length),nv ids[n].1 = (s.rw (zak d n)).ver + 1:=fun n hn=>by
  show (if (R0 ids[n].1).kind.nd = true then _ else _) = _
  rw [if_neg (hsm n hn),hfi n hn]
 have inv:∀ a x,rho1 a = some x->((R0 a).kind.nd = true/\rho a = some x) \/ ∃ n,∃ hn:n < ids.length,a = ids[n].1/\x = zak d n:=fun a x ha=>by
  by_cases h1:(R0 a).kind.nd = true
  ·exact .inl ⟨h1,(r1 a h1).symm.trans ha⟩
  ·have ha:(if (R0 a).kind.nd = true then rho a else (ids.findIdx? (fun x=>x.1 == a)).map (zak d)) = some x:=ha
   rw [if_neg h1] at ha
   cases hf:ids.findIdx? (fun x=>x.1 == a) with
   | none=>rw [hf] at ha;cases ha
   | some n =>
     rw [hf] at ha;cases ha
     rw [List.findIdx?_eq_some_iff_getElem] at hf
     obtain ⟨hn,e,_⟩:=hf
     exact .inr ⟨n,hn,(beq_iff_eq.1 e).symm,rfl⟩
 have lj:∀ n a j,(R0 a).kind.nd = true->rho a = some j->zak d n ≠ j:=fun n a j h hj e=>beq_eq_false_iff_ne.1 (hd a j h hj) (by rw [<- e,zzm])
 refine ⟨rho1,nv,true,⟨r1,fun a b x ha hb=>?_,fun a x ha hn hv=>?_,fun a x ha hn=>?_,fun _ _ h=>h⟩,fun S hS=>?_⟩
 ·rcases inv a x ha with ⟨a1,a2⟩ | ⟨n,hn,a1,a2⟩ <;> rcases inv b x hb with ⟨b1,b2⟩ | ⟨m,hm,b1,b2⟩
  ·exact hg.inj a b x a1 b1 a2 b2
  ·exact absurd b2.symm (lj m a x a1 a2)
  ·exact absurd a2.symm (lj n b x b1 b2)
  ·have:=zpc (a2.symm.trans b2)
   subst this;rw [a1,b1]
 ·rcases inv a x ha with ⟨_,a2⟩ | ⟨n,hn',rfl,_⟩
  ·exact n1 a x hn a2
  ·exact absurd hn (hsm n hn')
 ·rcases inv a x ha with ⟨a1,a2⟩ | ⟨n,hn',rfl,rfl⟩
  ·exact absurd (hver a a1).1 (hn a1)
  ·rw [n3 n hn'];exact Nat.lt_succ_self _
 ·have hsr:∀ n,s'.rw (zak d n) = s.rw (zak d n):=fun n=>hoth _ fun a h e=>lj n a _ h e rfl
  have hfits:Fits R1 rho1 nv (fun i=>(s'.rw i).ver) d 0 ids:=fun n hn=>by
   rw [Nat.zero_add]
   exact ⟨r3 n hn,by show _ = (s'.rw (zak d n)).ver + 1;rw [hsr,n3 n hn]⟩
  have hlv:=hG.leaves
  have hS2:S = zal s' d rv:=by
   refine St.ext2 (fun i=>?_) fun a=>?_
   ·rw [hS.sl,hG.ren hfits]
    unfold zal
    by_cases e:i = d
    ·subst e;rw [zau,zau]
    ·rw [zaG _ _ _ _ e,zaG _ _ _ _ e];exact (congrFun hsl i).symm
   ·unfold zal
    rw [zec]
    show S.rw a = zaw _ d (leaves rv) 0 a
    rw [zc7,hlv]
    by_cases hex:∃ n,n < ids.length/\a = zak d n
    ·obtain ⟨n,hn,rfl⟩:=hex
     have hm:n < (ids.map fun x:zb0=>x.2).length:=by simpa using hn
     have hm':n < (zbt s'.rw d (ids.map (·.2)) 0).length:=by rw [zbg];exact hm
     have h1:=zdV s'.rw d _ 0 n hm'
     rw [Nat.zero_add] at h1
     rw [h1,zdP _ _ _ _ _ hm hm',Nat.zero_add,hsr,hS.row _ _ (r3 n hn),n3 n hn]
     obtain ⟨_,v1,sz,e1,e2⟩:=hrow _ (List.getElem_mem hn)
     rw [e2]
     have e3:((ids.map fun x:zb0=>x.2)[n]'hm).2.1 = some sz:=by simpa using e1
     simp only [zbV,e3]
     simp [zqv]
    ·rw [zcN _ _ _ _ _ fun n hn e=>hex ⟨n,by rw [zbg] at hn;simpa using hn,by rw [e,Nat.zero_add]⟩]
     by_cases hgv:∃ b,(R0 b).kind.nd = true/\rho b = some a
     ·obtain ⟨b,h1,h2⟩:=hgv
      rw [hS.row _ _ ((r1 b h1).trans h2),hgiv b a h1 h2,n1 b a h1 h2,(hver b h1).2]
     ·rw [hoth a fun b h1 h2=>hgv ⟨b,h1,h2⟩]
      refine hS.off a fun b hb=>?_
      rcases inv b a hb with h | ⟨n,hn,_,e⟩
      ·exact hgv ⟨b,h⟩
      ·exact hex ⟨n,hn,e⟩
  rw [hS2]
  exact hK
theorem ztH [zae] {P:Program} {s:St} {K:St->Prop} {f:FuncId} {args raw lents:List PV} {Ka:RV->Prop} {d:Nat} {us:Dm s} {u:Dm K} {R0:Nat->Row} {post:(Nat->Row)->PV->Prop}
 (hc:AG P f args R0 post) (rho:Nat->Option Nat) (hl:GvL rho (fun _=>False) R0 s.rw args raw) (hg:Give rho (fun _=>False) R0 s.rw)
 (hd:∀ a j,(R0 a).kind.nd = true->rho a = some j->(d % 1000 == j % 1000) = false)
 (hpost:∀ R1 p,post R1 p->∃ (rv:RV) (ids:List zb0) (s':St),G2 R1 rv p ids/\(ids.map (·.1)).Nodup/\(∀ a,(R0 a).kind.nd = true->(R1 a).ver = (R0 a).ver/\∀ rho1 nv,zqv rho1 R1 nv true (R1 a).kind = (R1 a).kind)/\s'.sl = s.sl /\
  (∀ a j,(R0 a).kind.nd = true->rho a = some j->s'.rw j = ⟨(s.rw j).ver,(R1 a).kind⟩)/\(∀ j,(∀ a,(R0 a).kind.nd = true->rho a ≠ some j)->s'.rw j = s.rw j)/\K (zal s' d rv)) :
 zf0 P f lents Ka (znD P f lents raw (some d) (kk s us) (kk K u)) :=
 .inr (.inr (.inr (.inr (zDm hc rho hl hg hd hpost))))
def zI6 (Q:RV->Prop) (R1:Nat->Row) (p:PV):Prop:=∃ (rv:RV) (ids:List zb0),Q rv/\G2 R1 rv p ids/\(ids.map (·.1)).Nodup
def ADr [zae] (P:Program) (f:FuncId) (args:List PV) (Q:RV->Prop):Prop:=AG P f args (fun _=>⟨0,.dead⟩) (zI6 Q)
theorem zqE [zae] {P:Program} {s:St} {K:St->Prop} {f:FuncId} {args raw lents:List PV} {Ka:RV->Prop} {d:Nat} {us:Dm s} {u:Dm K} {Q:RV->Prop} (hc:ADr P f args Q)
 (hl:GvL (fun _=>none) (fun _=>False) (fun _=>⟨0,.dead⟩) s.rw args raw) (hK:∀ rv,Q rv->K (zal s d rv)):zf0 P f lents Ka (znD P f lents raw (some d) (kk s us) (kk K u)) :=
 ztH hc _ hl ⟨fun _ h=>(by cases h),fun _ _ _ h=>(by cases h),fun _ _ h=>(by cases h)⟩ (fun _ _ h=>(by cases h)) fun R1 p ⟨rv,ids,hq,h1,h2⟩ =>
  ⟨rv,ids,s,h1,h2,fun _ h=>(by cases h),rfl,fun _ _ h=>(by cases h),fun _ _=>rfl,hK rv hq⟩
def zmP (t:TypeId) (bs:List Int) (i h:Int):RK:=.box t [.sl false 1 (kL .u8 bs),.v (.int .i64 i),.v (.int .i64 h)]
def zx9 (t:TypeId) (bs:List Int) (i h:Int) (L:Row) (k:Nat):Row:=if k = 1000000 then ⟨1,zmP t bs i h⟩ else if k = 1000500 then L else ⟨0,.dead⟩
def zI7 (t:TypeId) (bs:List Int) (L:Row) (Q:RV->Prop) (R1:Nat->Row) (p:PV):Prop :=
 ∃ (rv:RV) (i:Nat) (h:Int) (ids:List zb0),Q rv/\G2 R1 rv p ids/\(ids.map (·.1)).Nodup/\R1 1000000 = ⟨1,zmP t bs i h⟩/\R1 1000500 = L
def zzn [zae] (P:Program) (f:FuncId) (t:TypeId) (bs:List Int) (L:Row) (args:List PV) (Q:RV->Prop):Prop :=
 ∀ (i:Nat) (h:Int),AG P f (.ref 1000000 1 0 :: args) (zx9 t bs i h L) (zI7 t bs L Q)
inductive LRow (s:St):Row->Option Nat->Prop
 | none:LRow s ⟨0,.dead⟩ none
 | some {j v e sz:Nat} {c:List PV} (hj:s.rw j = ⟨v,.sli e sz false c⟩) (hp:zbs c):LRow s ⟨1,.sli e sz false c⟩ (some j)
def zmQ (k:Nat) (j:Option Nat) (a:Nat):Option Nat:=if a = 1000000 then some k else if a = 1000500 then j else none
theorem zbL (k:Nat) (j:Option Nat):zmQ k j 1000000 = some k:=if_pos rfl
theorem zde (k:Nat) (j:Option Nat):zmQ k j 1000500 = j:=by unfold zmQ;rw [if_neg (by decide),if_pos rfl]
theorem zdj {t:TypeId} {bs:List Int} {i h:Int} {L:Row}:zx9 t bs i h L 1000000 = ⟨1,zmP t bs i h⟩:=if_pos rfl
theorem zgn {t:TypeId} {bs:List Int} {i h:Int} {L:Row}:zx9 t bs i h L 1000500 = L:=by unfold zx9;rw [if_neg (by decide),if_pos rfl]
theorem zmR {t:TypeId} {bs:List Int} {i h:Int} {L:Row} {k:Nat} (hk:k < 1000000):zx9 t bs i h L k = ⟨0,.dead⟩:=by unfold zx9;rw [if_neg om,if_neg om]
theorem zdz {t:TypeId} {bs:List Int} {i h:Int} {L:Row} {k:Nat} (hn:(zx9 t bs i h L k).kind.nd = true):k = 1000000 \/ (k = 1000500/\L.kind.nd = true):=by
 unfold zx9 at hn
 split at hn
 ·exact .inl ‹_›
 ·split at hn
  ·exact .inr ⟨‹_›,hn⟩
  ·cases hn
theorem zaP [zae] {P:Program} {s:St} {K:St->Prop} {f:FuncId} {args raw lents:List PV} {Ka:RV->Prop} {d k v:Nat} {t:TypeId} {bs:List Int} {i:Nat} {h:Int} {us:Dm s} {u:Dm K} {L:Row} {oj:Option Nat} {fr:Bool} {Q:RV->Prop}
 (hc:zzn P f t bs L args Q) (hL:LRow s L oj) (hk:s.rw k = ⟨v,.box t [.sl fr 1 (kL .u8 bs),.v (.int .i64 i),.v (.int .i64 h)]⟩)
 (hl:GvL (zmQ k oj) (fun _=>False) (zx9 t bs i h L) s.rw (.ref 1000000 1 0 :: args) raw) (hdk:(d % 1000 == k % 1000) = false) (hoj:∀ j,oj = some j->(d % 1000 == j % 1000) = false/\(k % 1000 == j % 1000) = false)
 (hK:∀ (rv:RV) (i':Nat) (h':Int),Q rv->K (zal (s.row k ⟨v,.box t [.sl false 1 (kL .u8 bs),.v (.int .i64 i'),.v (.int .i64 h')]⟩) d rv)) :
 zf0 P f lents Ka (znD P f lents raw (some d) (kk s us) (kk K u)):=by
 have hkj:∀ j,oj = some j->k ≠ j:=fun j hj e=>beq_eq_false_iff_ne.1 (hoj j hj).2 (by rw [e])
 have hlr:∀ j,oj = some j->∃ vj e sz c,s.rw j = ⟨vj,.sli e sz false c⟩/\L = ⟨1,.sli e sz false c⟩/\zbs c:=fun j hj=>by
  cases hL with
  | none=>cases hj
  | some h1 h2=>cases hj;exact ⟨_,_,_,_,h1,rfl,h2⟩
 have hLn:L.kind.nd = true->∃ j,oj = some j:=fun hn=>by
  cases hL with
  | none=>cases hn
  | some h1 h2=>exact ⟨_,rfl⟩
 refine ztH (hc i h) _ hl ⟨fun a ha=>?_,fun a b x na nb ha hb=>?_,fun _ _ _ _ h=>h⟩ (fun a j ha hj=>?_) fun R1 p ⟨rv,i',h',ids,hq,hg,hnd,ht1,hl1⟩=>?_
 ·rcases zdz ha with rfl | ⟨rfl,hn⟩
  ·refine ⟨Nat.le_refl _,by rw [zdj];exact Nat.one_pos,k,zbL _ _,?_⟩
   rw [zdj,hk]
   exact ⟨rfl,.one (.sl _ _ _) (.one (.v _) (.one (.v _) .nil))⟩
  ·obtain ⟨j,hj⟩:=hLn hn
   obtain ⟨vj,e,sz,c,h1,h2,h3⟩:=hlr j hj
   refine ⟨by decide,by rw [zgn,h2];exact Nat.one_pos,j,by rw [zde];exact hj,?_⟩
   rw [zgn,h1,h2]
   exact ⟨rfl,rfl,rfl,h3⟩
 ·rcases zdz na with rfl | ⟨rfl,_⟩ <;> rcases zdz nb with rfl | ⟨rfl,_⟩
  ·rfl
  ·rw [zbL] at ha;rw [zde] at hb;cases ha;exact absurd rfl (hkj _ hb)
  ·rw [zbL] at hb;rw [zde] at ha;cases hb;exact absurd rfl (hkj _ ha)
  ·rfl
 ·rcases zdz ha with rfl | ⟨rfl,hn⟩
  ·rw [zbL] at hj;cases hj;exact hdk
  ·rw [zde] at hj;exact (hoj j hj).1
 ·refine ⟨rv,ids,s.row k ⟨v,.box t [.sl false 1 (kL .u8 bs),.v (.int .i64 i'),.v (.int .i64 h')]⟩,hg,hnd,fun a ha=>?_,rfl,fun a j ha hj=>?_,fun j hj=>?_,hK rv i' h' hq⟩
  ·rcases zdz ha with rfl | ⟨rfl,hn⟩
   ·rw [ht1,zdj];exact ⟨rfl,fun _ _=>rfl⟩
   ·obtain ⟨j,hj⟩:=hLn hn
    obtain ⟨_,_,_,_,_,e,_⟩:=hlr j hj
    rw [hl1,zgn,e];exact ⟨rfl,fun _ _=>rfl⟩
  ·rcases zdz ha with rfl | ⟨rfl,hn⟩
   ·rw [zbL] at hj;cases hj
    rw [zaA,hk,ht1];rfl
   ·rw [zde] at hj
    obtain ⟨vj,e,sz,c,h1,h2,_⟩:=hlr j hj
    rw [zap _ _ _ _ (Ne.symm (hkj j hj)),h1,hl1,h2]
  ·refine zap _ _ _ _ fun e=>hj 1000000 (by rw [zdj];rfl) (by rw [e];exact zbL _ _)
def zzo (t:TypeId) (bs:List Int) (R1:Nat->Row) (p:PV):Prop:=∃ (k v:Nat) (h:Int),p = .ref k v 0/\R1 k = ⟨v,zmP t bs 0 h⟩
def zDn [zae] (P:Program) (f:FuncId) (t:TypeId) (bs:List Int):Prop:=AG P f [.sl false 1 (kL .u8 bs)] (fun _=>⟨0,.dead⟩) (zzo t bs)
theorem zgo [zae] {P:Program} {s:St} {K:St->Prop} {f:FuncId} {raw lents:List PV} {Ka:RV->Prop} {d:Nat} {us:Dm s} {u:Dm K} {t:TypeId} {bs:List Int} (hc:zDn P f t bs)
 (hl:GvL (fun _=>none) (fun _=>False) (fun _=>⟨0,.dead⟩) s.rw [.sl false 1 (kL .u8 bs)] raw)
 (hK:∀ h:Int,K ((s.row d ⟨(s.rw d).ver + 1,.box t [.sl false 1 (kL .u8 bs),.v (.int .i64 ((0:Nat):Int)),.v (.int .i64 h)]⟩).put (some d) (.ref d ((s.rw d).ver + 1) 0))):zf0 P f lents Ka (znD P f lents raw (some d) (kk s us) (kk K u)):=by
 refine zut hc _ _ hl ⟨fun _ h=>(by cases h),fun _ _ _ h=>(by cases h),fun _ _ h=>(by cases h)⟩ fun R1 p ⟨k,v,h,hp,hr⟩=>?_
 subst hp
 refine ⟨fun a=>if a = k then some d else none,fun _=>(s.rw d).ver + 1,true,⟨fun _ h=>(by cases h),fun a b x ha hb=>?_,fun _ _ _ h=>(by cases h),fun a x ha _=>?_,fun _ _ h=>h⟩,fun S hS=>?_⟩
 ·have ha:(if a = k then some d else none) = some x:=ha
  have hb:(if b = k then some d else none) = some x:=hb
  by_cases h1:a = k
  ·by_cases h2:b = k
   ·rw [h1,h2]
   ·rw [if_neg h2] at hb;cases hb
  ·rw [if_neg h1] at ha;cases ha
 ·have ha:(if a = k then some d else none) = some x:=ha
  split at ha
  ·cases ha;exact Nat.lt_succ_self _
  ·cases ha
 ·have e:S = (s.row d ⟨(s.rw d).ver + 1,.box t [.sl false 1 (kL .u8 bs),.v (.int .i64 ((0:Nat):Int)),.v (.int .i64 h)]⟩).put (some d) (.ref d ((s.rw d).ver + 1) 0):=by
   refine St.ext2 (fun i=>?_) fun a=>?_
   ·rw [hS.sl]
    have hr2:zC1 (fun a=>if a = k then some d else none) R1 (fun _=>(s.rw d).ver + 1) true (.ref k v 0) = .ref d ((s.rw d).ver + 1) 0:=by
     unfold zC1 ren1
     simp only [zx1,if_pos,hr,beq_self_eq_true]
    rw [hr2]
    by_cases e:i = d
    ·subst e;rw [zau,zau]
    ·rw [zaG _ _ _ _ e,zaG _ _ _ _ e];rfl
   ·rw [zec]
    by_cases e:a = d
    ·subst e;rw [zaA,hS.row k a (if_pos rfl),hr];rfl
    ·rw [zap _ _ _ _ e]
     refine hS.off a fun b hb=>?_
     have hb:(if b = k then some d else none) = some a:=hb
     split at hb
     ·cases hb;exact e rfl
     ·cases hb
  rw [e];exact hK h
theorem znM [zae] {P:Program} {T:Tab} {s:St} {K:St->Prop} {dst:Option Nat} {ty:TypeId} {pos:String} {af:Array Edge} {g:Option (Nat × Bool)}:opK P T s ⟨dst,.assign (.const (.pointer none)),ty,pos,af,g⟩ K = K (s.put dst (.v (.pointer none))):=(rfl)
theorem zb4 {k v:Nat} {oj:Option Nat} {Ln:Nat->Prop} {t:TypeId} {bs:List Int} {i h:Int} {L:Row} {R:Nat->Row} (hv:(R k).ver = v):GvA (zmQ k oj) Ln (zx9 t bs i h L) R (.ref 1000000 1 0) (.ref k v 0) :=
 .ref (zbL _ _) (by rw [zdj]) hv (by rw [zdj];rfl)
theorem zmS {k j v e sz:Nat} {c:List PV} {Ln:Nat->Prop} {t:TypeId} {bs:List Int} {i h:Int} {R:Nat->Row} (hv:(R j).ver = v):GvA (zmQ k (some j)) Ln (zx9 t bs i h ⟨1,.sli e sz false c⟩) R (.own 1000500 1) (.own j v) :=
 .own (zde _ _) (by rw [zgn]) hv (by rw [zgn];rfl)
def zFJ (t:TypeId) (bs:List Int) (x:Value × Nat × Int) (R1:Nat->Row) (p:PV):Prop:=p = .v x.1/\R1 1000000 = ⟨1,zmP t bs x.2.1 x.2.2⟩/\R1 1000500 = ⟨0,.dead⟩
def zqF [zae] (P:Program) (f:FuncId) (t:TypeId) (bs:List Int) (args:List PV) (F:Nat->Int->Value × Nat × Int):Prop :=
 ∀ (i:Nat) (h:Int),AG P f (.ref 1000000 1 0 :: args) (zx9 t bs i h ⟨0,.dead⟩) (zFJ t bs (F i h))
theorem zqF.toCur [zae] {P:Program} {f:FuncId} {t:TypeId} {bs:List Int} {args:List PV} {F:Nat->Int->Value × Nat × Int} {Q:RV->Prop} (hc:zqF P f t bs args F) (hQ:∀ i h,Q (.im (.v (F i h).1))):zzn P f t bs ⟨0,.dead⟩ args Q:=fun i h=>by
 obtain ⟨h1,h2⟩:=hc i h
 refine ⟨h1,fun w M E vals hw hR hv=>(h2 w M E vals hw hR hv).mono ?_⟩
 rintro en w' ⟨E',p,v,e1,e2,e3,e4,e5,e6⟩
 exact ⟨E',p,v,e1,e2,e3,_,(F i h).2.1,(F i h).2.2,[],hQ i h,by rw [e4];exact .one (.lf (.im _)),List.nodup_nil,e5,e6⟩
theorem zfV {rho:Nat->Option Nat} {Ln:Nat->Prop} {R0 R:Nat->Row}:∀ {l:List PV},zbs l->GvL rho Ln R0 R l l
 | [],_=>.nil
 | p :: l,h=>by
   have hp:=h p sp
   cases p <;> first | exact .one (.v _) (zfV fun q hq=>h q (by simp [hq])) | (simp [isV] at hp)
def zFK (t:TypeId) (bs:List Int) (x:RV × Nat × Int) (R1:Nat->Row) (p:PV):Prop:=(∃ ids,G2 R1 x.1 p ids/\(ids.map (·.1)).Nodup)/\R1 1000000 = ⟨1,zmP t bs x.2.1 x.2.2⟩/\R1 1000500 = ⟨0,.dead⟩
def zI8 [zae] (P:Program) (f:FuncId) (t:TypeId) (bs:List Int) (args:List PV) (F:Nat->Int->RV × Nat × Int):Prop :=
 ∀ (i:Nat) (h:Int),AG P f (.ref 1000000 1 0 :: args) (zx9 t bs i h ⟨0,.dead⟩) (zFK t bs (F i h))
theorem zI8.askG [zae] {P:Program} {s:St} {K:St->Prop} {f:FuncId} {args:List PV} {d k v:Nat} {t:TypeId} {bs:List Int} {i:Nat} {h:Int} {fr:Bool} {F:Nat->Int->RV × Nat × Int} (hc:zI8 P f t bs args F) (hp:zbs args)
 (hk:s.rw k = ⟨v,.box t [.sl fr 1 (kL .u8 bs),.v (.int .i64 i),.v (.int .i64 h)]⟩) (hdk:(d % 1000 == k % 1000) = false)
 (hK:K (zal (s.row k ⟨v,.box t [.sl false 1 (kL .u8 bs),.v (.int .i64 (F i h).2.1),.v (.int .i64 (F i h).2.2)]⟩) d (F i h).1)):Go.Abs.askG P s f (.ref k v 0 :: args) (some d) K:=by
 refine zDm (hc i h) (zmQ k none) (.one (zb4 (by rw [hk])) (zfV hp)) ⟨fun a ha=>?_,fun a b x na nb ha hb=>?_,fun _ _ _ _ h=>h⟩ (fun a j ha hj=>?_) fun R1 p ⟨⟨ids,e1,en⟩,e2,e3⟩=>?_
 ·rcases zdz ha with rfl | ⟨_,hn⟩
  ·refine ⟨Nat.le_refl _,by rw [zdj];exact Nat.one_pos,k,zbL _ _,?_⟩
   rw [zdj,hk]
   exact ⟨rfl,.one (.sl _ _ _) (.one (.v _) (.one (.v _) .nil))⟩
  ·cases hn
 ·rcases zdz na with rfl | ⟨_,hn⟩
  ·rcases zdz nb with rfl | ⟨_,hn⟩
   ·rfl
   ·cases hn
  ·cases hn
 ·rcases zdz ha with rfl | ⟨_,hn⟩
  ·rw [zbL] at hj;cases hj;exact hdk
  ·cases hn
 ·refine ⟨(F i h).1,ids,s.row k ⟨v,.box t [.sl false 1 (kL .u8 bs),.v (.int .i64 (F i h).2.1),.v (.int .i64 (F i h).2.2)]⟩,e1,en,fun a ha=>?_,rfl,fun a j ha hj=>?_,fun j hj=>?_,hK⟩
  ·rcases zdz ha with rfl | ⟨_,hn⟩
   ·rw [e2,zdj];exact ⟨rfl,fun _ _=>rfl⟩
   ·cases hn
  ·rcases zdz ha with rfl | ⟨_,hn⟩
   ·rw [zbL] at hj;cases hj
    rw [zaA,hk,e2];rfl
   ·cases hn
  ·exact zap _ _ _ _ fun e=>hj 1000000 (by rw [zdj];rfl) (by rw [e];exact zbL _ _)
theorem zqF.askG [zae] {P:Program} {s:St} {K:St->Prop} {f:FuncId} {args:List PV} {d k v:Nat} {t:TypeId} {bs:List Int} {i:Nat} {h:Int} {fr:Bool} {F:Nat->Int->Value × Nat × Int} (hc:zqF P f t bs args F) (hp:zbs args)
 (hk:s.rw k = ⟨v,.box t [.sl fr 1 (kL .u8 bs),.v (.int .i64 i),.v (.int .i64 h)]⟩) (hdk:(d % 1000 == k % 1000) = false)
 (hK:K ((s.row k ⟨v,.box t [.sl false 1 (kL .u8 bs),.v (.int .i64 (F i h).2.1),.v (.int .i64 (F i h).2.2)]⟩).put (some d) (.v (F i h).1))):Go.Abs.askG P s f (.ref k v 0 :: args) (some d) K :=
 zI8.askG (F:=fun i h=>(.im (.v (F i h).1),(F i h).2)) (fun i h=>(hc i h).imp id fun h2 w M E vals hw hR hv=>(h2 w M E vals hw hR hv).mono (by
  rintro en w' ⟨E',p,v,e1,e2,e3,e4,e5,e6⟩
  exact ⟨E',p,v,e1,e2,e3,⟨[],by rw [e4];exact .one (.lf (.im _)),List.nodup_nil⟩,e5,e6⟩)) hp hk hdk (by rw [zed];exact hK)
theorem zzp [zae] {P:Program} {s:St} {Ke:Ent->St->Prop} {f:FuncId} {args lents:List PV} {Ka:RV->Prop} {d k v:Nat} {t:TypeId} {bs:List Int} {i:Nat} {h:Int} {fr:Bool} {F:Nat->Int->Value × Nat × Int} {us:Dm s} {u:Dm Ke} (hc:zqF P f t bs args F) (hp:zbs args)
 (hk:s.rw k = ⟨v,.box t [.sl fr 1 (kL .u8 bs),.v (.int .i64 i),.v (.int .i64 h)]⟩) (hdk:(d % 1000 == k % 1000) = false)
 (hK:Ke ⟨[],.ids [d,k]⟩ ((s.row k ⟨v,.box t [.sl false 1 (kL .u8 bs),.v (.int .i64 (F i h).2.1),.v (.int .i64 (F i h).2.2)]⟩).put (some d) (.v (F i h).1))) :
 zf0 P f lents Ka (zED P f (.ref k v 0 :: args) d (kk s us) (kk Ke u)) :=
 zE9 [] (fun s' hs' _ _ hK'=>hc.askG hp (hs'.trans hk) hdk hK') (beq_eq_false_iff_ne.1 hdk) hK
theorem zfg [zae] {P:Program} {s:St} {K:St->Prop} {f:FuncId} {args lents:List PV} {Ka:RV->Prop} {d k v:Nat} {t:TypeId} {bs:List Int} {i:Nat} {h:Int} {fr:Bool} {F:Nat->Int->Value × Nat × Int} {us:Dm s} {u:Dm K} (hc:zqF P f t bs args F) (hp:zbs args)
 (hk:s.rw k = ⟨v,.box t [.sl fr 1 (kL .u8 bs),.v (.int .i64 i),.v (.int .i64 h)]⟩) (hdk:(d % 1000 == k % 1000) = false)
 (hK:K ((s.row k ⟨v,.box t [.sl false 1 (kL .u8 bs),.v (.int .i64 (F i h).2.1),.v (.int .i64 (F i h).2.2)]⟩).put (some d) (.v (F i h).1))) :
 zf0 P f lents Ka (znD P f lents (.ref k v 0 :: args) (some d) (kk s us) (kk K u)):=.inr (.inr (.inr (.inr (hc.askG hp hk hdk hK))))
def zFL (t:TypeId) (bs:List Int) (L:Row) (x:Value × Nat × Int) (R1:Nat->Row) (p:PV):Prop:=p = .v x.1/\R1 1000000 = ⟨1,zmP t bs x.2.1 x.2.2⟩/\R1 1000500 = L
def zI9 [zae] (P:Program) (f:FuncId) (t:TypeId) (bs:List Int) (e:TypeId) (c:List PV) (F:Nat->Int->Value × Nat × Int):Prop :=
 ∀ (i:Nat) (h:Int),AG P f [.ref 1000000 1 0,.own 1000500 1] (zx9 t bs i h ⟨1,.sli e 1 false c⟩) (zFL t bs ⟨1,.sli e 1 false c⟩ (F i h))
theorem zI9.toCur [zae] {P:Program} {f:FuncId} {t:TypeId} {bs:List Int} {e:TypeId} {c:List PV} {F:Nat->Int->Value × Nat × Int} {Q:RV->Prop} (hc:zI9 P f t bs e c F) (hQ:∀ i h,Q (.im (.v (F i h).1))):zzn P f t bs ⟨1,.sli e 1 false c⟩ [.own 1000500 1] Q:=fun i h=>by
 obtain ⟨h1,h2⟩:=hc i h
 refine ⟨h1,fun w M E vals hw hR hv=>(h2 w M E vals hw hR hv).mono ?_⟩
 rintro en w' ⟨E',p,v,e1,e2,e3,e4,e5,e6⟩
 exact ⟨E',p,v,e1,e2,e3,_,(F i h).2.1,(F i h).2.2,[],hQ i h,by rw [e4];exact .one (.lf (.im _)),List.nodup_nil,e5,e6⟩
end Go.Abs

namespace Go.Abs
set_option linter.unusedSimpArgs false
open Go.Proofs Go.Shelf Go.RowKit
def zgz (l:List ByteArray) (sep:ByteArray):ByteArray:=⟨(Go.Lib.join (l.map (·.data.toList)) sep.data.toList).toArray⟩
theorem zJ0 [zae] {P:Program} {ρ:Ren} (L:Lays.n156 P ρ) (X:Builder.Extra P ρ) (hE:zmq P (ρ.f 156)) (hdr:¬ zae.dr) (l:List ByteArray) (sep:ByteArray) (hN:l.length <= 140737488355328) (hlen:(zgz l sep).size <= 140737488355328) :
 AC P (ρ.f 156) [.sl false 1 (sL l),.v (.string sep)] (.im (.v (.string (zgz l sep)))):=by
 refine ⟨hE,fun w vals _ hv=>?_⟩
 obtain ⟨hl,hr⟩:=hv
 obtain ⟨x,y,rfl⟩:∃ x y,vals = [x,y]:=by
  match vals,hl with
  | [x,y],_=>exact ⟨x,y,rfl⟩
 have h0:=hr 0 (by simp) (by simp)
 have h1:=hr 1 (by simp) (by simp)
 simp only [List.getElem_cons_zero,List.getElem_cons_succ] at h0 h1
 obtain rfl:=h1.v_eq
 have hsL:(sL l).length = l.length:=by simp [sL]
 have key:Calls P (ρ.f 156) #[x,.string sep] w fun e w'=>e = .returned (.string (zgz l sep))/\Below w.heap.size w w':=by
  cases h0 with
  | @sl _ _ _ _ len cap _ a cs q1 q2 q3 q4 q5 =>
    rw [Nat.mul_one,hsL] at q1
    subst q1
    have hcs:∀ (j:Nat) t,l[j]? = some t->∃ b o,a = some ⟨b,o,none⟩/\b < w.heap.size/\w.cell? ⟨b,o + j,none⟩ = some (.string t):=fun j t hj=>by
     obtain ⟨hlt,rfl⟩:=List.getElem?_eq_some_iff.1 hj
     obtain ⟨b,o,e1,_,e3,e4⟩:=q4 j (by rw [hsL];exact hlt)
     have h5:=q5 j (by rw [hsL];exact hlt)
     have:(sL l)[j]'(by rw [hsL];exact hlt) = .v (.string l[j]):=by simp [sL]
     rw [this] at h5
     have h6:=h5.v_eq
     refine ⟨b,o,e1,?_,by rw [e4,h6]⟩
     rcases Nat.lt_or_ge b w.heap.size with h | h
     ·exact h
     ·have:w.cell? ⟨b,o + j,none⟩ = none:=by simp [World.cell?,h]
      rw [this] at e4;cases e4
    rcases l with _ | ⟨t,l⟩
    ·exact (Any.strings_Join_none L X a cap sep w).mono fun e w' ⟨he,hw⟩=>⟨he,hw ▸ Below.refl _ _⟩
    ·obtain ⟨b,o,rfl,hb,_⟩:=hcs 0 t rfl
     have:=Any.strings_Join L X b o cap (t :: l) sep w (fun j t' hj=>by
      obtain ⟨b',o',e,_,h⟩:=hcs j t' hj
      cases e;exact h) hb hN q2 (by simpa [zgz,ByteArray.size] using hlen)
     exact this
 exact key.mono fun e w' ⟨he,hw⟩=>⟨_,[],he,⟨hw.os,hw.tape,⟨hw.output,fun h=>absurd h hdr⟩,hw.size,hw.block⟩,.im (.v _),List.nodup_nil⟩
end Go.Abs

namespace Go.Abs
set_option linter.unusedSimpArgs false
open Go.Proofs Go.Shelf Go.RowKit
abbrev zix (P:Program) (w:World):Prop:=Go.Lib.TabIs P w "internal/strconv.uint64pow10" .u64 Go.Lib.pow10Tab
theorem zu0 {P:Program} {g:Nat} (hg:P.globalNamed "internal/strconv.uint64pow10" = some g) {w w':World} (h:zix P w) (hb:∀ b,b = g->w'.heap[b]? = w.heap[b]?):zix P w':=by
 unfold zix Go.Lib.TabIs World.var? at *
 rw [hg] at h ⊢
 simp only [Option.bind_some] at h ⊢
 rw [hb g rfl];exact h
theorem zzg {P:Program} {g:Nat} (hg:P.globalNamed "internal/strconv.uint64pow10" = some g) {w:World} {b:Nat} (h:zix P w) (hb:b = g):b < w.heap.size:=by
 subst hb
 unfold zix Go.Lib.TabIs World.var? at h
 rw [hg] at h
 simp only [Option.bind_some] at h
 cases hq:w.heap[b]? with
 | none=>rw [hq] at h;cases h
 | some o=>exact zfB hq
theorem zIV [zae] {P:Program} {ρ:Ren} (L:LaysM.n171 P ρ) (hE:zmq P (ρ.f 171)) (hH:∀ w,zae.Φ w->zix P w) {n:Int} (h0:-9223372036854775808 <= n) (h1:n <= 9223372036854775807) :
 AC P (ρ.f 171) [.v (.int .i64 n)] (.im (.v (.string ⟨(Go.Lib.itoa n).toArray⟩))):=by
 refine ⟨hE,fun w vals hp hv=>?_⟩
 obtain ⟨hl,hr⟩:=hv
 obtain ⟨x,rfl⟩:∃ x,vals = [x]:=by
  match vals,hl with
  | [x],_=>exact ⟨x,rfl⟩
 have h:=hr 0 (by simp) (by simp)
 simp only [List.getElem_cons_zero] at h
 obtain rfl:=h.v_eq
 refine (Any.strconv_Itoa L n h0 h1 w (hH w hp)).mono fun e w' ⟨he,k,os,hw⟩=>?_
 subst hw
 refine ⟨_,[],he,⟨rfl,rfl,⟨rfl,fun _=>Nat.le_add_right _ _⟩,?_,fun b hb=>?_⟩,.im (.v _),List.nodup_nil⟩
 ·show w.heap.size <= (w.heap ++ os).size
  rw [Array.size_append];exact Nat.le_add_right _ _
 ·show (w.heap ++ os)[b]? = w.heap[b]?
  rw [Array.getElem?_append_left hb]
theorem zC6 {P:Program} {W:World} {l:List (String × DataW Unit)} {g:Nat} {t e:TypeId} {n:Nat} (hg:P.globalNamed "internal/strconv.uint64pow10" = some g) (hty:(P.globals[g]?).map (·.type) = some t) (ht:P.underlying t = some (.array n e)) (he:P.underlying e = some (.int .u64))
 (hce:P.cellsOf e = 1) (hct:P.cellsOf t = n) (h:laidMet P l W) (hm:("internal/strconv.uint64pow10",Go.Lib.tabData .u64 Go.Lib.pow10Tab) ∈ l):zix P W:=by
 obtain ⟨g',t',cs,fuel,p,hg',ht',hvar,hd⟩:=Go.Lib.laidMet.reads h hm
 obtain rfl:=Option.some.inj (hg.symm.trans hg')
 obtain rfl:=Option.some.inj (hty.symm.trans ht')
 unfold zix Go.Lib.TabIs
 rw [hvar,<- Go.Lib.cells_of_tab ht he hce hct hd]
end Go.Abs

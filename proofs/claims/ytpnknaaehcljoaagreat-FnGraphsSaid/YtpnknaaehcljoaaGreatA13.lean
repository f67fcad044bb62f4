/- DERIVED by an AI agent. -/
import Derived.Test.YtpnknaaehcljoaaGreatA12
/- DERIVED by an AI agent. Functions that are given a table and hand it back longer. No program in sight. -/
namespace Go.Abs
set_option linter.unusedSimpArgs false
set_option linter.unusedVariables false
structure TabU (rw:Nat→Row) (k v e e2:Nat) (ids:List (Nat × Nat)) (M:Mat):Prop where
 top:rw k = ⟨v,.tab e (ids.map fun x=>.own x.1 x.2)⟩
 len:ids.length = M.length
 row:∀ i (h:i < ids.length),rw ids[i].1 = ⟨ids[i].2,.sli e2 1 false (iL (M.getD i []))⟩
 nd:(k :: ids.map (·.1)).Nodup
def zuo (e e2 n:Nat) (M':Mat) (R1:Nat→Row) (p:PV):Prop :=
 ∃ (v:Nat) (ids:List (Nat × Nat)),p = .own lent v∧TabU R1 lent v e e2 ids M'∧n ≤ ids.length∧∀ i (_:i < n) (h:i < ids.length),ids[i] = (sid lent i,1)
def AGr [zah] (P:Program) (f:FuncId) (args:List PV) (e e2:Nat) (M M':Mat):Prop:=AG P f args (inT e e2 (M.map iL)) (zuo e e2 M.length M')
theorem zFO {l:List Nat} (h:l.Nodup) {i j:Nat} (hi:i < l.length) (hj:j < l.length) (e:l[i] = l[j]):i = j:=(List.getElem_inj (h₀:=hi) (h₁:=hj) h).1 e
section
variable {R1:Nat→Row} {k v e e2 n:Nat} {ids:List (Nat × Nat)} {M:Mat}
theorem TabU.inj [zah] (h:TabU R1 k v e e2 ids M) {i j:Nat} (hi:i < ids.length) (hj:j < ids.length) (he:ids[i].1 = ids[j].1):i = j :=
 zFO (List.nodup_cons.1 h.nd).2 (by simpa using hi) (by simpa using hj) (by simpa using he)
theorem TabU.ne (h:TabU R1 k v e e2 ids M) {i:Nat} (hi:i < ids.length):ids[i].1 ≠ k:=fun he =>
 (List.nodup_cons.1 h.nd).1 (List.mem_map.2 ⟨_,List.getElem_mem hi,he⟩)
def zCp (k n j:Nat):Option Nat:=if j = lent then some k else if lent < j∧(j - lent) % 1000 = 0∧(j - lent) / 1000 - 1 < n then some (sid k ((j - lent) / 1000 - 1)) else none
theorem zAD (k n:Nat):zCp k n lent = some k:=by unfold zCp;rw [if_pos rfl]
theorem zup [zah] (k:Nat) {n i:Nat} (h:i < n):zCp k n (sid lent i) = some (sid k i):=by
 obtain ⟨h1,h2,h3⟩:=zkd i
 unfold zCp;rw [if_neg (by omega),if_pos ⟨h1,h2,by omega⟩,h3]
theorem zku [zah] {k n j i:Nat} (h:zCp k n j = some i):(j = lent∧i = k) ∨ ∃ x,x < n∧j = sid lent x∧i = sid k x:=by
 unfold zCp at h
 split at h
 ·cases h;exact .inl ⟨‹_›,rfl⟩
 ·split at h
  ·rename_i h2
   cases h
   exact .inr ⟨_,h2.2.2,by rw [zbM];omega,rfl⟩
  ·cases h
structure TabH (rw:Nat→Row) (k v e e2 n:Nat) (M:Mat):Prop where
 top:rw k = ⟨v,.tab e (zaI k (List.range n))⟩ ∨ (n = 0∧rw k = ⟨v,.sli e 1 false []⟩)
 len:M.length = n
 row:∀ j,j < n→rw (sid k j) = ⟨1,.sli e2 1 false (iL (M.getD j []))⟩
 rest:∀ j,n ≤ j→rw (sid k j) = ⟨0,.dead⟩
theorem TabH.ver {rw:Nat→Row} (h:TabH rw k v e e2 n M):(rw k).ver = v:=by rcases h.top with h | ⟨_,h⟩ <;> rw [h]
theorem TabH.give [zah] {rw:Nat→Row} {Ln:Nat→Prop} (h:TabH rw k v e e2 M.length M) (hl:∀ j,Ln j→(j % 1000 == k % 1000) = false):Give (zCp k M.length) Ln (inT e e2 (M.map iL)) rw:=by
 have hlm:(M.map iL).length = M.length:=List.length_map _
 have hcells:∀ l:List Nat,(∀ j ∈ l,j < M.length)→GvL (zCp k M.length) Ln (inT e e2 (M.map iL)) rw (zaI lent l) (zaI k l):=by
  intro l
  induction l with
  | nil=>intro _;exact .nil
  | cons j l ih =>
    intro hj
    have h1:=hj j (by simp)
    refine .one (.own (zup k h1) ?_ ?_ ?_) (ih fun x hx=>hj x (by simp [hx]))
    ·rw [zdn (by rw [hlm];exact h1)]
    ·rw [h.row j h1]
    ·rw [zdn (by rw [hlm];exact h1)];rfl
 refine ⟨fun j hj=>?_,fun j j' i n1 n2 h1 h2=>?_,fun j i hj hr hln=>?_⟩
 ·rcases zpX hj with rfl | ⟨i,hi,rfl⟩
  ·refine ⟨Nat.le_refl _,by rw [zcZ];exact Nat.one_pos,k,zAD _ _,?_⟩
   rw [zcZ,hlm]
   rcases h.top with ht | ⟨h0,ht⟩
   ·rw [ht]
    exact ⟨rfl,hcells _ fun j hj=>List.mem_range.1 hj⟩
   ·rw [ht]
    exact ⟨rfl,rfl,by rw [h0];rfl,rfl⟩
  ·rw [hlm] at hi
   refine ⟨Nat.le_of_lt (zkd i).1,by rw [zdn (by rw [hlm];exact hi)];exact Nat.one_pos,_,zup k hi,?_⟩
   rw [zdn (by rw [hlm];exact hi),h.row i hi,zck]
   exact ⟨rfl,rfl,rfl,zdF _⟩
 ·rcases zku h1 with ⟨a1,a2⟩ | ⟨x,_,a1,a2⟩ <;> rcases zku h2 with ⟨b1,b2⟩ | ⟨y,_,b1,b2⟩
  ·rw [a1,b1]
  ·rw [a2] at b2;exact absurd b2.symm (zc2 k y)
  ·rw [a2] at b2;exact absurd b2 (zc2 k x)
  ·rw [a2] at b2;have:=zc6 b2;subst this;rw [a1,b1]
 ·have hm:=beq_eq_false_iff_ne.1 (hl i hln)
  rcases zku hr with ⟨_,rfl⟩ | ⟨x,_,_,rfl⟩
  ·exact hm rfl
  ·exact hm (zaa _ _)
end
def zyD (wrap:PV→PV) (e e2:Nat) (M:Mat) (R1:Nat→Row) (p:PV):Prop:=∃ (k v:Nat) (ids:List (Nat × Nat)),p = wrap (.own k v)∧TabU R1 k v e e2 ids M
def ANw [zah] (P:Program) (f:FuncId) (args:List PV) (wrap:PV→PV) (e e2:Nat) (M:Mat):Prop:=AG P f args (fun _=>⟨0,.dead⟩) (zyD wrap e e2 M)
theorem ANw.go [zah] {P:Program} {T:Tab} {f:FuncId} {fn:Func} {c:Code} {rs:List ResultVar} {args:List PV} {wrap:PV→PV} {e e2:Nat} {M:Mat} (hT:T.Ok P) (hm:P.follows .mixedOrders = true) (hf:P.funcs[f]? = some fn) (hname:(fn.name == "runtime.NumGoroutine") = false)
 (hb:fn.body = some c) (hr:fn.results.toList = rs) (hfit:(fits fn.ntmps c && decide (args.length ≤ fn.ntmps) && decide (fn.results.toList.length ≤ 4)) = true)
 (h:zz9 args→∀ s:St,(∀ i,s.sl i = args.getD i .junk)→(∀ j,s.rw j = ⟨0,.dead⟩)→cwp P T c (zCf T rs (zyD wrap e e2 M)) s):ANw P f args wrap e e2 M :=
 AG.go hT hm hf hname hb hr hfit fun h1 h2 s hs hrw=>h h1 s hs hrw
theorem AGr.go [zah] {P:Program} {T:Tab} {f:FuncId} {fn:Func} {c:Code} {rs:List ResultVar} {args:List PV} {e e2:Nat} {M M':Mat} (hT:T.Ok P) (hm:P.follows .mixedOrders = true) (hf:P.funcs[f]? = some fn) (hname:(fn.name == "runtime.NumGoroutine") = false)
 (hb:fn.body = some c) (hr:fn.results.toList = rs) (hfit:(fits fn.ntmps c && decide (args.length ≤ fn.ntmps) && decide (fn.results.toList.length ≤ 4)) = true)
 (h:zz9 args→M.length ≤ 9223372036854775807→∀ s:St,(∀ i,s.sl i = args.getD i .junk)→(∀ j,j < 1000000→s.rw j = ⟨0,.dead⟩)→TabG s.rw 1000000 1 e e2 M.length M→cwp P T c (zCf T rs (zuo e e2 M.length M')) s):AGr P f args e e2 M M':=by
 have hlm:(M.map iL).length = M.length:=List.length_map _
 refine AG.go hT hm hf hname hb hr hfit fun h1 h2 s hs hrw=>h h1 ?_ s hs (fun j hj=>?_) ⟨?_,rfl,fun j hj=>?_,fun j hj=>?_⟩
 ·have:=h2 lent
  rw [zcZ] at this
  have:(zaI lent (List.range (M.map iL).length)).length ≤ 9223372036854775807:=this
  rwa [zau,List.length_range,hlm] at this
 ·rw [hrw,zyb (by unfold lent;exact hj)]
 ·rw [hrw]
  have:=zcZ (e:=e) (e2:=e2) (rows:=M.map iL)
  rw [hlm] at this
  exact this
 ·rw [hrw]
  have:=zdn (e:=e) (e2:=e2) (rows:=M.map iL) (i:=j) (by rw [hlm];exact hj)
  rw [zck] at this
  exact this
 ·rw [hrw]
  by_cases hn:(inT e e2 (M.map iL) (sid lent j)).kind.nd = true
  ·rcases zpX hn with h | ⟨i,hi,h⟩
   ·exact absurd h (zc2 _ _)
   ·have:=zc6 h;rw [hlm] at hi;omega
  ·show inT e e2 (M.map iL) (sid lent j) = _
   unfold inT at hn ⊢
   split
   ·rename_i h;exact absurd h (zc2 _ _)
   ·split
    ·rename_i h1 h2;rw [if_neg h1,if_pos h2] at hn;exact absurd rfl hn
    ·rfl
end Go.Abs

/- DERIVED by an AI agent. A nil slice seen as a row of nothing, to be appended to. No program in sight. -/
namespace Go.Abs
set_option linter.unusedSimpArgs false
set_option linter.unusedVariables false
theorem SimE.nilRow [zah] {G:Ghost} {E:Env} {s:St} {a:Act} {w:World} (hs:SimE G E s a w) (k e:Nat) :
 ∃ E',SimE G E' (s.row k ⟨(s.rw k).ver + 1,.sli e 1 false []⟩) a w∧Rep w E' 0 (.own k ((s.rw k).ver + 1)) (.slice none 0 0):=by
 have ht:=zg1 (G:=G) (E:=E) (k:=k) (kd:=.sli e 1 false []) (m:=none) (v:=.slice none 0 0) (Ext.refl w) (fun b h=>by cases h)
 have hrows:∀ j,j = k→zaz w (E.row k ⟨(E.R k).ver + 1,.sli e 1 false []⟩ none (.slice none 0 0)) G.C j:=fun j hj=>by
  subst hj
  unfold zaz
  simp only [Env.row,zai]
  exact .inl ⟨trivial,trivial,trivial⟩
 have h:=ht.sim hs hrows
 have e1:({ s with rw:=(E.row k ⟨(E.R k).ver + 1,.sli e 1 false []⟩ none (.slice none 0 0)).R }:St) = s.row k ⟨(s.rw k).ver + 1,.sli e 1 false []⟩:=by
  show ({ s with rw:=zcw E.R k _ }:St) = _
  rw [hs.rw];rfl
 rw [e1] at h
 refine ⟨_,h,.own ?_ fun _ _=>?_⟩
 ·simp [Env.row,zai,hs.rw]
 ·simp [Env.row,zai]
theorem Wk.nilBox [zah] {s:St} {j v t o:Nat} {c:List PV} (k e:Nat) (hj:s.rw j = ⟨v,.box t c⟩) (ho:c[o]? = some (.v (.slice none 0 0))) (hjk:j ≠ k):Wk s ((s.row k ⟨(s.rw k).ver + 1,.sli e 1 false []⟩).row j ⟨v,.box t (c.set o (.own k ((s.rw k).ver + 1)))⟩):=by
 intro G a w ⟨E,hs⟩
 obtain ⟨E',h,hr⟩:=hs.nilRow k e
 have hRj:E'.R j = ⟨v,.box t c⟩:=by
  rw [h.rw]
  show (if j = k then _ else s.rw j) = _
  rw [if_neg hjk,hj]
 let E3:Env:={ R:=zcw E'.R j ⟨v,.box t (c.set o (.own k ((s.rw k).ver + 1)))⟩,rm:=E'.rm,rv:=E'.rv,L:=mkL E'.X (zcw E'.R j ⟨v,.box t (c.set o (.own k ((s.rw k).ver + 1)))⟩) E'.rm,B:=E'.B,X:=E'.X }
 have ht:Turn G E' E3 w w (· = j):=by
  refine ⟨rfl,rfl,rfl,fun i hi=>⟨zan _ _ hi,rfl,rfl⟩,fun _ _ _=>rfl,fun i b hi hb _=>?_,fun i hi=>?_,fun i hi _ hsl=>?_,fun i hi _ _=>?_,fun i hi _=>?_,fun i i' b hi hi' _ _ _ _=>by rw [hi,hi'],Nat.le_refl _,rfl,rfl,⟨rfl,fun _=>by first | exact Nat.le_refl _ | exact Nat.le_succ _⟩⟩
  ·subst hi;exact .inr ⟨hb,by rw [hRj];rfl,fun _=>by rw [hRj];rfl⟩
  ·subst hi
   show _ ≤ (zcw E'.R i _ i).ver
   rw [zai,hRj];exact Nat.le_refl _
  ·subst hi
   have:(zcw E'.R i ⟨v,.box t (c.set o (.own k ((s.rw k).ver + 1)))⟩ i).kind.slice = true:=hsl
   rw [zai] at this;cases this
  ·subst hi;exact ⟨by rw [hRj];rfl,rfl⟩
  ·subst hi
   show 0 < (zcw E'.R i _ i).ver
   rw [zai]
   have:=h.wok.pos i (by rw [hRj];rfl)
   rw [hRj] at this;exact this
 have hl:=ht.lasts h.wok
 have hrows:∀ i,i = j→zaz w E3 G.C i:=fun i hi=>by
  subst hi
  have hrow:=h.wok.rows i
  unfold zaz at hrow ⊢
  rw [hRj] at hrow
  obtain ⟨b,vs,h1,h2,h3,h4⟩:=hrow
  show match (zcw E'.R i ⟨v,.box t (c.set o (.own k ((s.rw k).ver + 1)))⟩ i).kind with | .dead=>True | .nil=>_ | .box t cells=>_ | .sli e sz _ cells=>_ | .tab e cells=>_
  rw [zai]
  refine ⟨b,vs,h1,h2,h3,by simp [h4.1],fun x a' b'=>?_⟩
  have hx:x < c.length:=by simpa using a'
  rw [List.getElem_set]
  by_cases hxo:o = x
  ·subst hxo
   rw [if_pos rfl]
   have h0:=h4.2 o hx b'
   have:c[o] = .v (.slice none 0 0):=by
    have:=List.getElem?_eq_some_iff.1 ho
    exact this.2
   rw [this] at h0
   rw [h0.v_eq]
   exact hr.mono hl (Nat.le_refl _)
  ·rw [if_neg hxo]
   exact (h4.2 x hx b').mono hl (Nat.le_refl _)
 have key:=ht.sim h hrows
 have e1:({ (s.row k ⟨(s.rw k).ver + 1,.sli e 1 false []⟩) with rw:=E3.R }:St) = (s.row k ⟨(s.rw k).ver + 1,.sli e 1 false []⟩).row j ⟨v,.box t (c.set o (.own k ((s.rw k).ver + 1)))⟩:=by
  show ({ (s.row k ⟨(s.rw k).ver + 1,.sli e 1 false []⟩) with rw:=zcw E'.R j _ }:St) = _
  rw [h.rw];rfl
 rw [e1] at key
 exact ⟨_,key⟩
section
variable {Q:AX→St→Prop} {s:St} {k e e2:Nat}
end
end Go.Abs

/- DERIVED by an AI agent. A function that is given a slice of its own and hands back that or another one, with a word whether it did. No program in sight. -/
namespace Go.Abs
set_option linter.unusedSimpArgs false
set_option linter.unusedVariables false
variable {P:Program} {s:St} {K:St→Prop}
end Go.Abs

/- DERIVED by an AI agent. Functions that are given a cursor and draw from it: what they hand back is told by what holds of it. No program in sight. -/
namespace Go.Abs
set_option linter.unusedSimpArgs false
set_option linter.unusedVariables false
abbrev zbR:=Nat × (TypeId × Option Nat × List PV)
inductive LfG (R:Nat→Row):RV→PV→List zbR→Prop
 | im (x:Value):LfG R (.im (.v x)) (.v x) []
 | sl (fr:Bool) (sz:Nat) (c:List PV):LfG R (.im (.sl fr sz c)) (.sl true sz c) []
 | fr {e sz k v:Nat} {c:List PV} (h:R k = ⟨v,.sli e sz false c⟩) (hk:k < 1000000):LfG R (.fr e sz c) (.own k v) [(k,(e,some sz,c))]
inductive LfsG (R:Nat→Row):List RV→List PV→List zbR→Prop
 | nil:LfsG R [] [] []
 | cons {a:RV} {p:PV} {i:List zbR} {l:List RV} {ps:List PV} {is:List zbR} (h:LfG R a p i) (t:LfsG R l ps is):LfsG R (a :: l) (p :: ps) (i ++ is)
inductive G1 (R:Nat→Row):RV→PV→List zbR→Prop
 | lf {a:RV} {p:PV} {i:List zbR} (h:LfG R a p i):G1 R a p i
 | ag {l:List RV} {ps:List PV} {i:List zbR} (h:LfsG R l ps i):G1 R (.ag l) (.ag ps) i
inductive G1s (R:Nat→Row):List RV→List PV→List zbR→Prop
 | nil:G1s R [] [] []
 | cons {a:RV} {p:PV} {i:List zbR} {l:List RV} {ps:List PV} {is:List zbR} (h:G1 R a p i) (t:G1s R l ps is):G1s R (a :: l) (p :: ps) (i ++ is)
inductive G2 (R:Nat→Row):RV→PV→List zbR→Prop
 | one {a:RV} {p:PV} {i:List zbR} (h:G1 R a p i):G2 R a p i
 | tup {l:List RV} {ps:List PV} {i:List zbR} (h:G1s R l ps i):G2 R (.tup l) (.tup ps) i
section
variable {R:Nat→Row} {rho1:Nat→Option Nat} {nv:Nat→Nat} {vr:Nat→Nat} {d:Nat}
def Fits (R:Nat→Row) (rho1:Nat→Option Nat) (nv vr:Nat→Nat) (d i:Nat) (ids:List zbR):Prop :=
 ∀ j (h:j < ids.length),rho1 ids[j].1 = some (zak d (i + j))∧nv ids[j].1 = vr (zak d (i + j)) + 1
theorem Fits.left {i:Nat} {a b:List zbR} (h:Fits R rho1 nv vr d i (a ++ b)):Fits R rho1 nv vr d i a:=fun j hj=>by
 have:=h j (by rw [List.length_append];omega)
 rwa [List.getElem_append_left hj] at this
theorem Fits.right {i:Nat} {a b:List zbR} (h:Fits R rho1 nv vr d i (a ++ b)):Fits R rho1 nv vr d (i + a.length) b:=fun j hj=>by
 have:=h (a.length + j) (by rw [List.length_append];omega)
 rw [List.getElem_append_right (by omega)] at this
 simpa [Nat.add_assoc] using this
theorem LfG.leaves [zah] {a:RV} {p:PV} {i:List zbR} (h:LfG R a p i):Go.Abs.leaves a = i.map (·.2):=by
 cases h <;> simp [Go.Abs.leaves]
theorem LfsG.leaves [zah] {l:List RV} {ps:List PV} {i:List zbR} (h:LfsG R l ps i):(l.map Go.Abs.leaves).flatten = i.map (·.2):=by
 induction h with
 | nil=>rfl
 | cons h t ih=>simp [ih,h.leaves]
theorem G1.leaves [zah] {a:RV} {p:PV} {i:List zbR} (h:G1 R a p i):Go.Abs.leaves a = i.map (·.2):=by
 cases h with
 | lf h=>exact h.leaves
 | ag h=>rw [zcA];exact h.leaves
theorem G1s.leaves [zah] {l:List RV} {ps:List PV} {i:List zbR} (h:G1s R l ps i):(l.map Go.Abs.leaves).flatten = i.map (·.2):=by
 induction h with
 | nil=>rfl
 | cons h t ih=>simp [ih,h.leaves]
theorem G2.leaves [zah] {a:RV} {p:PV} {i:List zbR} (h:G2 R a p i):Go.Abs.leaves a = i.map (·.2):=by
 cases h with
 | one h=>exact h.leaves
 | tup h=>rw [zbW];exact h.leaves
theorem LfG.row {a:RV} {p:PV} {i:List zbR} (h:LfG R a p i):∀ x ∈ i,x.1 < 1000000∧∃ v sz,x.2.2.1 = some sz∧R x.1 = ⟨v,.sli x.2.1 sz false x.2.2.2⟩:=by
 cases h with
 | im=>simp
 | sl=>simp
 | fr h hk=>intro x hx;rw [List.mem_singleton.1 hx];exact ⟨hk,_,_,rfl,h⟩
theorem LfsG.row {l:List RV} {ps:List PV} {i:List zbR} (h:LfsG R l ps i):∀ x ∈ i,x.1 < 1000000∧∃ v sz,x.2.2.1 = some sz∧R x.1 = ⟨v,.sli x.2.1 sz false x.2.2.2⟩:=by
 induction h with
 | nil=>simp
 | cons h t ih=>intro x hx;exact (List.mem_append.1 hx).elim (h.row x) (ih x)
theorem G1.row {a:RV} {p:PV} {i:List zbR} (h:G1 R a p i):∀ x ∈ i,x.1 < 1000000∧∃ v sz,x.2.2.1 = some sz∧R x.1 = ⟨v,.sli x.2.1 sz false x.2.2.2⟩:=by
 cases h with
 | lf h=>exact h.row
 | ag h=>exact h.row
theorem G1s.row {l:List RV} {ps:List PV} {i:List zbR} (h:G1s R l ps i):∀ x ∈ i,x.1 < 1000000∧∃ v sz,x.2.2.1 = some sz∧R x.1 = ⟨v,.sli x.2.1 sz false x.2.2.2⟩:=by
 induction h with
 | nil=>simp
 | cons h t ih=>intro x hx;exact (List.mem_append.1 hx).elim (h.row x) (ih x)
theorem G2.row {a:RV} {p:PV} {i:List zbR} (h:G2 R a p i):∀ x ∈ i,x.1 < 1000000∧∃ v sz,x.2.2.1 = some sz∧R x.1 = ⟨v,.sli x.2.1 sz false x.2.2.2⟩:=by
 cases h with
 | one h=>exact h.row
 | tup h=>exact h.row
theorem LfG.ren [zah] {a:RV} {p:PV} {ids:List zbR} {i:Nat} (h:LfG R a p ids) (hf:Fits R rho1 nv vr d i ids):zvs rho1 R nv true p = zbS vr d a i:=by
 cases h with
 | im x=>rfl
 | sl=>rfl
 | fr h hk =>
   have:=hf 0 (by simp)
   simp only [List.getElem_cons_zero,Nat.add_zero] at this
   rw [zi0,this.1,h]
   simp only [beq_self_eq_true]
   rw [this.2];rfl
theorem LfG.ren1 [zah] {a:RV} {p:PV} {ids:List zbR} {i:Nat} (h:LfG R a p ids) (hf:Fits R rho1 nv vr d i ids):Go.Abs.ren1 rho1 R nv true p = zb0 vr d a i:=by
 have:=h.ren hf
 cases h with
 | im x=>rfl
 | sl=>rfl
 | fr h hk=>exact this
theorem LfsG.ren [zah] {l:List RV} {ps:List PV} {ids:List zbR} (h:LfsG R l ps ids):∀ {i:Nat},Fits R rho1 nv vr d i ids→ps.map (zvs rho1 R nv true) = zbq (zbS vr d) l i:=by
 induction h with
 | nil=>intro i _;rfl
 | cons h t ih =>
   intro i hf
   rw [List.map_cons,zbq,h.ren hf.left,ih hf.right,h.leaves,List.length_map]
theorem G1.ren [zah] {a:RV} {p:PV} {ids:List zbR} {i:Nat} (h:G1 R a p ids) (hf:Fits R rho1 nv vr d i ids):Go.Abs.ren1 rho1 R nv true p = zb0 vr d a i:=by
 cases h with
 | lf h=>exact h.ren1 hf
 | ag h=>show PV.ag _ = PV.ag _;rw [h.ren hf]
theorem G1s.ren [zah] {l:List RV} {ps:List PV} {ids:List zbR} (h:G1s R l ps ids):∀ {i:Nat},Fits R rho1 nv vr d i ids→ps.map (Go.Abs.ren1 rho1 R nv true) = zbq (zb0 vr d) l i:=by
 induction h with
 | nil=>intro i _;rfl
 | cons h t ih =>
   intro i hf
   rw [List.map_cons,zbq,h.ren hf.left,ih hf.right,h.leaves,List.length_map]
theorem LfsG.ren' [zah] {l:List RV} {ps:List PV} {ids:List zbR} (h:LfsG R l ps ids):∀ {i:Nat},Fits R rho1 nv vr d i ids→ps.map (zvs rho1 R nv true) = zbq (zb0 vr d) l i:=by
 induction h with
 | nil=>intro i _;rfl
 | @cons a p _ _ _ _ h t ih =>
   intro i hf
   have e:zvs rho1 R nv true p = zb0 vr d a i:=by
    rw [h.ren hf.left]
    cases h <;> rfl
   rw [List.map_cons,zbq,e,ih hf.right,h.leaves,List.length_map]
theorem G2.ren [zah] {a:RV} {p:PV} {ids:List zbR} (h:G2 R a p ids) (hf:Fits R rho1 nv vr d 0 ids):zCk rho1 R nv true p = za5 vr d a 0:=by
 cases h with
 | one h =>
   cases h with
   | lf h =>
     have:=h.ren hf
     cases h with
     | im x=>rfl
     | sl=>rfl
     | fr h hk=>exact this
   | ag h=>show PV.ag _ = PV.ag _;rw [h.ren' hf]
 | tup h=>show PV.tup _ = PV.tup _;rw [h.ren hf]
end
theorem zvO [zah] (d i:Nat):zak d i % 1000 = d % 1000:=by unfold zak;omega
theorem zrS [zah] {P:Program} {s:St} {K:St→Prop} {f:FuncId} {args raw:List PV} {d:Nat} {R0:Nat→Row} {post:(Nat→Row)→PV→Prop}
 (hc:AG P f args R0 post) (rho:Nat→Option Nat) (hl:GvL rho (fun _=>False) R0 s.rw args raw) (hg:Give rho (fun _=>False) R0 s.rw)
 (hd:∀ a j,(R0 a).kind.nd = true→rho a = some j→(d % 1000 == j % 1000) = false)
 (hpost:∀ R1 p,post R1 p→∃ (rv:RV) (ids:List zbR) (s':St),G2 R1 rv p ids∧(ids.map (·.1)).Nodup∧(∀ a,(R0 a).kind.nd = true→(R1 a).ver = (R0 a).ver∧∀ rho1 nv,zng rho1 R1 nv true (R1 a).kind = (R1 a).kind)∧s'.sl = s.sl ∧
  (∀ a j,(R0 a).kind.nd = true→rho a = some j→s'.rw j = ⟨(s.rw j).ver,(R1 a).kind⟩)∧(∀ j,(∀ a,(R0 a).kind.nd = true→rho a ≠ some j)→s'.rw j = s.rw j)∧K (zal s' d rv)) :
 askG P s f raw (some d) K:=by
 refine ⟨args,R0,post,rho,_,hc,hl,hg,fun R1 p hp=>?_⟩
 obtain ⟨rv,ids,s',hG,hnd,hver,hsl,hgiv,hoth,hK⟩:=hpost R1 p hp
 have hrow:=hG.row
 have hlow:∀ a,(R0 a).kind.nd = true→1000000 ≤ a:=fun a ha=>(hg.row a ha).1
 have hsm:∀ n (hn:n < ids.length),¬ (R0 ids[n].1).kind.nd = true:=fun n hn h=>by
  have:=(hrow _ (List.getElem_mem hn)).1;have:=hlow _ h;omega
 let rho1:Nat→Option Nat:=fun a=>if (R0 a).kind.nd = true then rho a else (ids.findIdx? (fun x=>x.1 == a)).map (zak d)
 let nv:Nat→Nat:=fun a=>if (R0 a).kind.nd = true then ((rho a).map fun j=>(s.rw j).ver).getD 0 else (match ids.findIdx? (fun x=>x.1 == a) with | some n=>(s.rw (zak d n)).ver + 1 | none=>0)
 have hfi:∀ n (hn:n < ids.length),ids.findIdx? (fun x=>x.1 == ids[n].1) = some n:=fun n hn=>by
  rw [List.findIdx?_eq_some_iff_getElem]
  refine ⟨hn,by simp,fun j hj=>?_⟩
  simp only [beq_iff_eq]
  intro e
  have h1:(ids.map (·.1))[j]'(by simp;omega) = (ids.map (·.1))[n]'(by simpa using hn):=by simpa using e
  exact absurd ((List.getElem_inj hnd).1 h1) (by omega)
 have r1:∀ a,(R0 a).kind.nd = true→rho1 a = rho a:=fun a h=>if_pos h
 have r3:∀ n (hn:n < ids.length),rho1 ids[n].1 = some (zak d n):=fun n hn=>by
  show (if (R0 ids[n].1).kind.nd = true then _ else _) = _
  rw [if_neg (hsm n hn),hfi n hn];rfl
 have n1:∀ a j,(R0 a).kind.nd = true→rho a = some j→nv a = (s.rw j).ver:=fun a j h hj=>by
  show (if (R0 a).kind.nd = true then _ else _) = _
  rw [if_pos h,hj];rfl
 have n3:∀ n (hn:n < ids.length),nv ids[n].1 = (s.rw (zak d n)).ver + 1:=fun n hn=>by
  show (if (R0 ids[n].1).kind.nd = true then _ else _) = _
  rw [if_neg (hsm n hn),hfi n hn]
 have inv:∀ a x,rho1 a = some x→((R0 a).kind.nd = true∧rho a = some x) ∨ ∃ n,∃ hn:n < ids.length,a = ids[n].1∧x = zak d n:=fun a x ha=>by
  by_cases h1:(R0 a).kind.nd = true
  ·exact .inl ⟨h1,(r1 a h1).symm.trans ha⟩
  ·have ha:(if (R0 a).kind.nd = true then rho a else (ids.findIdx? (fun x=>x.1 == a)).map (zak d)) = some x:=ha
   rw [if_neg h1] at ha
   cases hf:ids.findIdx? (fun x=>x.1 == a) with
   | none=>rw [hf] at ha;cases ha
   | some n =>
     rw [hf] at ha;cases ha
     rw [List.findIdx?_eq_some_iff_getElem] at hf
     obtain ⟨hn,e,_⟩:=hf
     exact .inr ⟨n,hn,(beq_iff_eq.1 e).symm,rfl⟩
 have lj:∀ n a j,(R0 a).kind.nd = true→rho a = some j→zak d n ≠ j:=fun n a j h hj e=>beq_eq_false_iff_ne.1 (hd a j h hj) (by rw [← e,zvO])
 refine ⟨rho1,nv,true,⟨r1,fun a b x ha hb=>?_,fun a x ha hn hv=>?_,fun a x ha hn=>?_,fun _ _ h=>h⟩,fun S hS=>?_⟩
 ·rcases inv a x ha with ⟨a1,a2⟩ | ⟨n,hn,a1,a2⟩ <;> rcases inv b x hb with ⟨b1,b2⟩ | ⟨m,hm,b1,b2⟩
  ·exact hg.inj a b x a1 b1 a2 b2
  ·exact absurd b2.symm (lj m a x a1 a2)
  ·exact absurd a2.symm (lj n b x b1 b2)
  ·have:=zmk (a2.symm.trans b2)
   subst this;rw [a1,b1]
 ·rcases inv a x ha with ⟨_,a2⟩ | ⟨n,hn',rfl,_⟩
  ·exact n1 a x hn a2
  ·exact absurd hn (hsm n hn')
 ·rcases inv a x ha with ⟨a1,a2⟩ | ⟨n,hn',rfl,rfl⟩
  ·exact absurd (hver a a1).1 (hn a1)
  ·rw [n3 n hn'];exact Nat.lt_succ_self _
 ·have hsr:∀ n,s'.rw (zak d n) = s.rw (zak d n):=fun n=>hoth _ fun a h e=>lj n a _ h e rfl
  have hfits:Fits R1 rho1 nv (fun i=>(s'.rw i).ver) d 0 ids:=fun n hn=>by
   rw [Nat.zero_add]
   exact ⟨r3 n hn,by show _ = (s'.rw (zak d n)).ver + 1;rw [hsr,n3 n hn]⟩
  have hlv:=hG.leaves
  have hS2:S = zal s' d rv:=by
   refine St.ext2 (fun i=>?_) fun a=>?_
   ·rw [hS.sl,hG.ren hfits]
    unfold zal
    by_cases e:i = d
    ·subst e;rw [zaQ,zaQ]
    ·rw [zbp _ _ _ _ e,zbp _ _ _ _ e];exact (congrFun hsl i).symm
   ·unfold zal
    rw [zfN]
    show S.rw a = zaC _ d (leaves rv) 0 a
    rw [zcG,hlv]
    by_cases hex:∃ n,n < ids.length∧a = zak d n
    ·obtain ⟨n,hn,rfl⟩:=hex
     have hm:n < (ids.map fun x:zbR=>x.2).length:=by simpa using hn
     have hm':n < (zbu s'.rw d (ids.map (·.2)) 0).length:=by rw [zbd];exact hm
     have h1:=zdp s'.rw d _ 0 n hm'
     rw [Nat.zero_add] at h1
     rw [h1,zdg _ _ _ _ _ hm hm',Nat.zero_add,hsr,hS.row _ _ (r3 n hn),n3 n hn]
     obtain ⟨_,v1,sz,e1,e2⟩:=hrow _ (List.getElem_mem hn)
     rw [e2]
     have e3:((ids.map fun x:zbR=>x.2)[n]'hm).2.1 = some sz:=by simpa using e1
     simp only [zbQ,e3]
     simp [zng]
    ·rw [zcs _ _ _ _ _ fun n hn e=>hex ⟨n,by rw [zbd] at hn;simpa using hn,by rw [e,Nat.zero_add]⟩]
     by_cases hgv:∃ b,(R0 b).kind.nd = true∧rho b = some a
     ·obtain ⟨b,h1,h2⟩:=hgv
      rw [hS.row _ _ ((r1 b h1).trans h2),hgiv b a h1 h2,n1 b a h1 h2,(hver b h1).2]
     ·rw [hoth a fun b h1 h2=>hgv ⟨b,h1,h2⟩]
      refine hS.off a fun b hb=>?_
      rcases inv b a hb with h | ⟨n,hn,_,e⟩
      ·exact hgv ⟨b,h⟩
      ·exact hex ⟨n,hn,e⟩
  rw [hS2]
  exact hK
theorem zqF [zah] {P:Program} {s:St} {K:St→Prop} {f:FuncId} {args raw lents:List PV} {Ka:RV→Prop} {d:Nat} {us:Dm s} {u:Dm K} {R0:Nat→Row} {post:(Nat→Row)→PV→Prop}
 (hc:AG P f args R0 post) (rho:Nat→Option Nat) (hl:GvL rho (fun _=>False) R0 s.rw args raw) (hg:Give rho (fun _=>False) R0 s.rw)
 (hd:∀ a j,(R0 a).kind.nd = true→rho a = some j→(d % 1000 == j % 1000) = false)
 (hpost:∀ R1 p,post R1 p→∃ (rv:RV) (ids:List zbR) (s':St),G2 R1 rv p ids∧(ids.map (·.1)).Nodup∧(∀ a,(R0 a).kind.nd = true→(R1 a).ver = (R0 a).ver∧∀ rho1 nv,zng rho1 R1 nv true (R1 a).kind = (R1 a).kind)∧s'.sl = s.sl ∧
  (∀ a j,(R0 a).kind.nd = true→rho a = some j→s'.rw j = ⟨(s.rw j).ver,(R1 a).kind⟩)∧(∀ j,(∀ a,(R0 a).kind.nd = true→rho a ≠ some j)→s'.rw j = s.rw j)∧K (zal s' d rv)) :
 zjq P f lents Ka (zsM P f lents raw (some d) (kk s us) (kk K u)) :=
 .inr (.inr (.inr (.inr (zrS hc rho hl hg hd hpost))))
def zDN (Q:RV→Prop) (R1:Nat→Row) (p:PV):Prop:=∃ (rv:RV) (ids:List zbR),Q rv∧G2 R1 rv p ids∧(ids.map (·.1)).Nodup
def ADr [zah] (P:Program) (f:FuncId) (args:List PV) (Q:RV→Prop):Prop:=AG P f args (fun _=>⟨0,.dead⟩) (zDN Q)
theorem znI [zah] {P:Program} {s:St} {K:St→Prop} {f:FuncId} {args raw lents:List PV} {Ka:RV→Prop} {d:Nat} {us:Dm s} {u:Dm K} {Q:RV→Prop} (hc:ADr P f args Q)
 (hl:GvL (fun _=>none) (fun _=>False) (fun _=>⟨0,.dead⟩) s.rw args raw) (hK:∀ rv,Q rv→K (zal s d rv)):zjq P f lents Ka (zsM P f lents raw (some d) (kk s us) (kk K u)) :=
 zqF hc _ hl ⟨fun _ h=>(by cases h),fun _ _ _ h=>(by cases h),fun _ _ h=>(by cases h)⟩ (fun _ _ h=>(by cases h)) fun R1 p ⟨rv,ids,hq,h1,h2⟩ =>
  ⟨rv,ids,s,h1,h2,fun _ h=>(by cases h),rfl,fun _ _ h=>(by cases h),fun _ _=>rfl,hK rv hq⟩
def zkP (t:TypeId) (bs:List Int) (i h:Int):RK:=.box t [.sl false 1 (kL .u8 bs),.v (.int .i64 i),.v (.int .i64 h)]
def zuH (t:TypeId) (bs:List Int) (i h:Int) (L:Row) (k:Nat):Row:=if k = 1000000 then ⟨1,zkP t bs i h⟩ else if k = 1000500 then L else ⟨0,.dead⟩
def zDO (t:TypeId) (bs:List Int) (L:Row) (Q:RV→Prop) (R1:Nat→Row) (p:PV):Prop :=
 ∃ (rv:RV) (i:Nat) (h:Int) (ids:List zbR),Q rv∧G2 R1 rv p ids∧(ids.map (·.1)).Nodup∧R1 1000000 = ⟨1,zkP t bs i h⟩∧R1 1000500 = L
def zuI [zah] (P:Program) (f:FuncId) (t:TypeId) (bs:List Int) (L:Row) (args:List PV) (Q:RV→Prop):Prop :=
 ∀ (i:Nat) (h:Int),AG P f (.ref 1000000 1 0 :: args) (zuH t bs i h L) (zDO t bs L Q)
inductive LRow (s:St):Row→Option Nat→Prop
 | none:LRow s ⟨0,.dead⟩ none
 | some {j v e sz:Nat} {c:List PV} (hj:s.rw j = ⟨v,.sli e sz false c⟩) (hp:zco c):LRow s ⟨1,.sli e sz false c⟩ (some j)
def zim (k:Nat) (j:Option Nat) (a:Nat):Option Nat:=if a = 1000000 then some k else if a = 1000500 then j else none
theorem zaX (k:Nat) (j:Option Nat):zim k j 1000000 = some k:=if_pos rfl
theorem zbs (k:Nat) (j:Option Nat):zim k j 1000500 = j:=by unfold zim;rw [if_neg (by decide),if_pos rfl]
theorem zb2 {t:TypeId} {bs:List Int} {i h:Int} {L:Row}:zuH t bs i h L 1000000 = ⟨1,zkP t bs i h⟩:=if_pos rfl
theorem zcX {t:TypeId} {bs:List Int} {i h:Int} {L:Row}:zuH t bs i h L 1000500 = L:=by unfold zuH;rw [if_neg (by decide),if_pos rfl]
theorem zhM {t:TypeId} {bs:List Int} {i h:Int} {L:Row} {k:Nat} (hk:k < 1000000):zuH t bs i h L k = ⟨0,.dead⟩:=by unfold zuH;rw [if_neg (by omega),if_neg (by omega)]
theorem zbY {t:TypeId} {bs:List Int} {i h:Int} {L:Row} {k:Nat} (hn:(zuH t bs i h L k).kind.nd = true):k = 1000000 ∨ (k = 1000500∧L.kind.nd = true):=by
 unfold zuH at hn
 split at hn
 ·exact .inl ‹_›
 ·split at hn
  ·exact .inr ⟨‹_›,hn⟩
  ·cases hn
theorem zaK [zah] {P:Program} {s:St} {K:St→Prop} {f:FuncId} {args raw lents:List PV} {Ka:RV→Prop} {d k v:Nat} {t:TypeId} {bs:List Int} {i:Nat} {h:Int} {us:Dm s} {u:Dm K} {L:Row} {oj:Option Nat} {fr:Bool} {Q:RV→Prop}
 (hc:zuI P f t bs L args Q) (hL:LRow s L oj) (hk:s.rw k = ⟨v,.box t [.sl fr 1 (kL .u8 bs),.v (.int .i64 i),.v (.int .i64 h)]⟩)
 (hl:GvL (zim k oj) (fun _=>False) (zuH t bs i h L) s.rw (.ref 1000000 1 0 :: args) raw) (hdk:(d % 1000 == k % 1000) = false) (hoj:∀ j,oj = some j→(d % 1000 == j % 1000) = false∧(k % 1000 == j % 1000) = false)
 (hK:∀ (rv:RV) (i':Nat) (h':Int),Q rv→K (zal (s.row k ⟨v,.box t [.sl false 1 (kL .u8 bs),.v (.int .i64 i'),.v (.int .i64 h')]⟩) d rv)) :
 zjq P f lents Ka (zsM P f lents raw (some d) (kk s us) (kk K u)):=by
 have hkj:∀ j,oj = some j→k ≠ j:=fun j hj e=>beq_eq_false_iff_ne.1 (hoj j hj).2 (by rw [e])
 have hlr:∀ j,oj = some j→∃ vj e sz c,s.rw j = ⟨vj,.sli e sz false c⟩∧L = ⟨1,.sli e sz false c⟩∧zco c:=fun j hj=>by
  cases hL with
  | none=>cases hj
  | some h1 h2=>cases hj;exact ⟨_,_,_,_,h1,rfl,h2⟩
 have hLn:L.kind.nd = true→∃ j,oj = some j:=fun hn=>by
  cases hL with
  | none=>cases hn
  | some h1 h2=>exact ⟨_,rfl⟩
 refine zqF (hc i h) _ hl ⟨fun a ha=>?_,fun a b x na nb ha hb=>?_,fun _ _ _ _ h=>h⟩ (fun a j ha hj=>?_) fun R1 p ⟨rv,i',h',ids,hq,hg,hnd,ht1,hl1⟩=>?_
 ·rcases zbY ha with rfl | ⟨rfl,hn⟩
  ·refine ⟨Nat.le_refl _,by rw [zb2];exact Nat.one_pos,k,zaX _ _,?_⟩
   rw [zb2,hk]
   exact ⟨rfl,.one (.sl _ _ _) (.one (.v _) (.one (.v _) .nil))⟩
  ·obtain ⟨j,hj⟩:=hLn hn
   obtain ⟨vj,e,sz,c,h1,h2,h3⟩:=hlr j hj
   refine ⟨by decide,by rw [zcX,h2];exact Nat.one_pos,j,by rw [zbs];exact hj,?_⟩
   rw [zcX,h1,h2]
   exact ⟨rfl,rfl,rfl,h3⟩
 ·rcases zbY na with rfl | ⟨rfl,_⟩ <;> rcases zbY nb with rfl | ⟨rfl,_⟩
  ·rfl
  ·rw [zaX] at ha;rw [zbs] at hb;cases ha;exact absurd rfl (hkj _ hb)
  ·rw [zaX] at hb;rw [zbs] at ha;cases hb;exact absurd rfl (hkj _ ha)
  ·rfl
 ·rcases zbY ha with rfl | ⟨rfl,hn⟩
  ·rw [zaX] at hj;cases hj;exact hdk
  ·rw [zbs] at hj;exact (hoj j hj).1
 ·refine ⟨rv,ids,s.row k ⟨v,.box t [.sl false 1 (kL .u8 bs),.v (.int .i64 i'),.v (.int .i64 h')]⟩,hg,hnd,fun a ha=>?_,rfl,fun a j ha hj=>?_,fun j hj=>?_,hK rv i' h' hq⟩
  ·rcases zbY ha with rfl | ⟨rfl,hn⟩
   ·rw [ht1,zb2];exact ⟨rfl,fun _ _=>rfl⟩
   ·obtain ⟨j,hj⟩:=hLn hn
    obtain ⟨_,_,_,_,_,e,_⟩:=hlr j hj
    rw [hl1,zcX,e];exact ⟨rfl,fun _ _=>rfl⟩
  ·rcases zbY ha with rfl | ⟨rfl,hn⟩
   ·rw [zaX] at hj;cases hj
    rw [zaV,hk,ht1];rfl
   ·rw [zbs] at hj
    obtain ⟨vj,e,sz,c,h1,h2,_⟩:=hlr j hj
    rw [zaw _ _ _ _ (Ne.symm (hkj j hj)),h1,hl1,h2]
  ·refine zaw _ _ _ _ fun e=>hj 1000000 (by rw [zb2];rfl) (by rw [e];exact zaX _ _)
def zvP (t:TypeId) (bs:List Int) (R1:Nat→Row) (p:PV):Prop:=∃ (k v:Nat) (h:Int),p = .ref k v 0∧R1 k = ⟨v,zkP t bs 0 h⟩
def zzA [zah] (P:Program) (f:FuncId) (t:TypeId) (bs:List Int):Prop:=AG P f [.sl false 1 (kL .u8 bs)] (fun _=>⟨0,.dead⟩) (zvP t bs)
theorem zfn [zah] {P:Program} {s:St} {K:St→Prop} {f:FuncId} {raw lents:List PV} {Ka:RV→Prop} {d:Nat} {us:Dm s} {u:Dm K} {t:TypeId} {bs:List Int} (hc:zzA P f t bs)
 (hl:GvL (fun _=>none) (fun _=>False) (fun _=>⟨0,.dead⟩) s.rw [.sl false 1 (kL .u8 bs)] raw)
 (hK:∀ h:Int,K ((s.row d ⟨(s.rw d).ver + 1,.box t [.sl false 1 (kL .u8 bs),.v (.int .i64 ((0:Nat):Int)),.v (.int .i64 h)]⟩).put (some d) (.ref d ((s.rw d).ver + 1) 0))):zjq P f lents Ka (zsM P f lents raw (some d) (kk s us) (kk K u)):=by
 refine zCM hc _ _ hl ⟨fun _ h=>(by cases h),fun _ _ _ h=>(by cases h),fun _ _ h=>(by cases h)⟩ fun R1 p ⟨k,v,h,hp,hr⟩=>?_
 subst hp
 refine ⟨fun a=>if a = k then some d else none,fun _=>(s.rw d).ver + 1,true,⟨fun _ h=>(by cases h),fun a b x ha hb=>?_,fun _ _ _ h=>(by cases h),fun a x ha _=>?_,fun _ _ h=>h⟩,fun S hS=>?_⟩
 ·have ha:(if a = k then some d else none) = some x:=ha
  have hb:(if b = k then some d else none) = some x:=hb
  by_cases h1:a = k
  ·by_cases h2:b = k
   ·rw [h1,h2]
   ·rw [if_neg h2] at hb;cases hb
  ·rw [if_neg h1] at ha;cases ha
 ·have ha:(if a = k then some d else none) = some x:=ha
  split at ha
  ·cases ha;exact Nat.lt_succ_self _
  ·cases ha
 ·have e:S = (s.row d ⟨(s.rw d).ver + 1,.box t [.sl false 1 (kL .u8 bs),.v (.int .i64 ((0:Nat):Int)),.v (.int .i64 h)]⟩).put (some d) (.ref d ((s.rw d).ver + 1) 0):=by
   refine St.ext2 (fun i=>?_) fun a=>?_
   ·rw [hS.sl]
    have hr2:zCk (fun a=>if a = k then some d else none) R1 (fun _=>(s.rw d).ver + 1) true (.ref k v 0) = .ref d ((s.rw d).ver + 1) 0:=by
     unfold zCk ren1
     simp only [zui,if_pos,hr,beq_self_eq_true]
    rw [hr2]
    by_cases e:i = d
    ·subst e;rw [zaQ,zaQ]
    ·rw [zbp _ _ _ _ e,zbp _ _ _ _ e];rfl
   ·rw [zfN]
    by_cases e:a = d
    ·subst e;rw [zaV,hS.row k a (if_pos rfl),hr];rfl
    ·rw [zaw _ _ _ _ e]
     refine hS.off a fun b hb=>?_
     have hb:(if b = k then some d else none) = some a:=hb
     split at hb
     ·cases hb;exact e rfl
     ·cases hb
  rw [e];exact hK h
theorem zle [zah] {P:Program} {T:Tab} {s:St} {K:St→Prop} {dst:Option Nat} {ty:TypeId} {pos:String} {af:Array Edge} {g:Option (Nat × Bool)}:opK P T s ⟨dst,.assign (.const (.pointer none)),ty,pos,af,g⟩ K = K (s.put dst (.v (.pointer none))):=(rfl)
theorem zbN {k v:Nat} {oj:Option Nat} {Ln:Nat→Prop} {t:TypeId} {bs:List Int} {i h:Int} {L:Row} {R:Nat→Row} (hv:(R k).ver = v):GvA (zim k oj) Ln (zuH t bs i h L) R (.ref 1000000 1 0) (.ref k v 0) :=
 .ref (zaX _ _) (by rw [zb2]) hv (by rw [zb2];rfl)
theorem zgq {k j v e sz:Nat} {c:List PV} {Ln:Nat→Prop} {t:TypeId} {bs:List Int} {i h:Int} {R:Nat→Row} (hv:(R j).ver = v):GvA (zim k (some j)) Ln (zuH t bs i h ⟨1,.sli e sz false c⟩) R (.own 1000500 1) (.own j v) :=
 .own (zbs _ _) (by rw [zcX]) hv (by rw [zcX];rfl)
def zA7 (t:TypeId) (bs:List Int) (x:Value × Nat × Int) (R1:Nat→Row) (p:PV):Prop:=p = .v x.1∧R1 1000000 = ⟨1,zkP t bs x.2.1 x.2.2⟩∧R1 1000500 = ⟨0,.dead⟩
def znJ [zah] (P:Program) (f:FuncId) (t:TypeId) (bs:List Int) (args:List PV) (F:Nat→Int→Value × Nat × Int):Prop :=
 ∀ (i:Nat) (h:Int),AG P f (.ref 1000000 1 0 :: args) (zuH t bs i h ⟨0,.dead⟩) (zA7 t bs (F i h))
theorem znJ.toCur [zah] {P:Program} {f:FuncId} {t:TypeId} {bs:List Int} {args:List PV} {F:Nat→Int→Value × Nat × Int} {Q:RV→Prop} (hc:znJ P f t bs args F) (hQ:∀ i h,Q (.im (.v (F i h).1))):zuI P f t bs ⟨0,.dead⟩ args Q:=fun i h=>by
 obtain ⟨h1,h2⟩:=hc i h
 refine ⟨h1,fun w M E vals hw hR hv=>(h2 w M E vals hw hR hv).mono ?_⟩
 rintro en w' ⟨E',p,v,e1,e2,e3,e4,e5,e6⟩
 exact ⟨E',p,v,e1,e2,e3,_,(F i h).2.1,(F i h).2.2,[],hQ i h,by rw [e4];exact .one (.lf (.im _)),List.nodup_nil,e5,e6⟩
theorem zqG {rho:Nat→Option Nat} {Ln:Nat→Prop} {R0 R:Nat→Row}:∀ {l:List PV},zco l→GvL rho Ln R0 R l l
 | [],_=>.nil
 | p :: l,h=>by
   have hp:=h p (by simp)
   cases p <;> first | exact .one (.v _) (zqG fun q hq=>h q (by simp [hq])) | (simp [isV] at hp)
def zA8 (t:TypeId) (bs:List Int) (x:RV × Nat × Int) (R1:Nat→Row) (p:PV):Prop:=(∃ ids,G2 R1 x.1 p ids∧(ids.map (·.1)).Nodup)∧R1 1000000 = ⟨1,zkP t bs x.2.1 x.2.2⟩∧R1 1000500 = ⟨0,.dead⟩
def zDP [zah] (P:Program) (f:FuncId) (t:TypeId) (bs:List Int) (args:List PV) (F:Nat→Int→RV × Nat × Int):Prop :=
 ∀ (i:Nat) (h:Int),AG P f (.ref 1000000 1 0 :: args) (zuH t bs i h ⟨0,.dead⟩) (zA8 t bs (F i h))
theorem zDP.askG [zah] {P:Program} {s:St} {K:St→Prop} {f:FuncId} {args:List PV} {d k v:Nat} {t:TypeId} {bs:List Int} {i:Nat} {h:Int} {fr:Bool} {F:Nat→Int→RV × Nat × Int} (hc:zDP P f t bs args F) (hp:zco args)
 (hk:s.rw k = ⟨v,.box t [.sl fr 1 (kL .u8 bs),.v (.int .i64 i),.v (.int .i64 h)]⟩) (hdk:(d % 1000 == k % 1000) = false)
 (hK:K (zal (s.row k ⟨v,.box t [.sl false 1 (kL .u8 bs),.v (.int .i64 (F i h).2.1),.v (.int .i64 (F i h).2.2)]⟩) d (F i h).1)):Go.Abs.askG P s f (.ref k v 0 :: args) (some d) K:=by
 refine zrS (hc i h) (zim k none) (.one (zbN (by rw [hk])) (zqG hp)) ⟨fun a ha=>?_,fun a b x na nb ha hb=>?_,fun _ _ _ _ h=>h⟩ (fun a j ha hj=>?_) fun R1 p ⟨⟨ids,e1,en⟩,e2,e3⟩=>?_
 ·rcases zbY ha with rfl | ⟨_,hn⟩
  ·refine ⟨Nat.le_refl _,by rw [zb2];exact Nat.one_pos,k,zaX _ _,?_⟩
   rw [zb2,hk]
   exact ⟨rfl,.one (.sl _ _ _) (.one (.v _) (.one (.v _) .nil))⟩
  ·cases hn
 ·rcases zbY na with rfl | ⟨_,hn⟩
  ·rcases zbY nb with rfl | ⟨_,hn⟩
   ·rfl
   ·cases hn
  ·cases hn
 ·rcases zbY ha with rfl | ⟨_,hn⟩
  ·rw [zaX] at hj;cases hj;exact hdk
  ·cases hn
 ·refine ⟨(F i h).1,ids,s.row k ⟨v,.box t [.sl false 1 (kL .u8 bs),.v (.int .i64 (F i h).2.1),.v (.int .i64 (F i h).2.2)]⟩,e1,en,fun a ha=>?_,rfl,fun a j ha hj=>?_,fun j hj=>?_,hK⟩
  ·rcases zbY ha with rfl | ⟨_,hn⟩
   ·rw [e2,zb2];exact ⟨rfl,fun _ _=>rfl⟩
   ·cases hn
  ·rcases zbY ha with rfl | ⟨_,hn⟩
   ·rw [zaX] at hj;cases hj
    rw [zaV,hk,e2];rfl
   ·cases hn
  ·exact zaw _ _ _ _ fun e=>hj 1000000 (by rw [zb2];rfl) (by rw [e];exact zaX _ _)
theorem znJ.askG [zah] {P:Program} {s:St} {K:St→Prop} {f:FuncId} {args:List PV} {d k v:Nat} {t:TypeId} {bs:List Int} {i:Nat} {h:Int} {fr:Bool} {F:Nat→Int→Value × Nat × Int} (hc:znJ P f t bs args F) (hp:zco args)
 (hk:s.rw k = ⟨v,.box t [.sl fr 1 (kL .u8 bs),.v (.int .i64 i),.v (.int .i64 h)]⟩) (hdk:(d % 1000 == k % 1000) = false)
 (hK:K ((s.row k ⟨v,.box t [.sl false 1 (kL .u8 bs),.v (.int .i64 (F i h).2.1),.v (.int .i64 (F i h).2.2)]⟩).put (some d) (.v (F i h).1))):Go.Abs.askG P s f (.ref k v 0 :: args) (some d) K :=
 zDP.askG (F:=fun i h=>(.im (.v (F i h).1),(F i h).2)) (fun i h=>(hc i h).imp id fun h2 w M E vals hw hR hv=>(h2 w M E vals hw hR hv).mono (by
  rintro en w' ⟨E',p,v,e1,e2,e3,e4,e5,e6⟩
  exact ⟨E',p,v,e1,e2,e3,⟨[],by rw [e4];exact .one (.lf (.im _)),List.nodup_nil⟩,e5,e6⟩)) hp hk hdk (by rw [zc4];exact hK)
theorem zhN [zah] {P:Program} {s:St} {Ke:Ent→St→Prop} {f:FuncId} {args lents:List PV} {Ka:RV→Prop} {d k v:Nat} {t:TypeId} {bs:List Int} {i:Nat} {h:Int} {fr:Bool} {F:Nat→Int→Value × Nat × Int} {us:Dm s} {u:Dm Ke} (hc:znJ P f t bs args F) (hp:zco args)
 (hk:s.rw k = ⟨v,.box t [.sl fr 1 (kL .u8 bs),.v (.int .i64 i),.v (.int .i64 h)]⟩) (hdk:(d % 1000 == k % 1000) = false)
 (hK:Ke ⟨[],.ids [d,k]⟩ ((s.row k ⟨v,.box t [.sl false 1 (kL .u8 bs),.v (.int .i64 (F i h).2.1),.v (.int .i64 (F i h).2.2)]⟩).put (some d) (.v (F i h).1))) :
 zjq P f lents Ka (zFk P f (.ref k v 0 :: args) d (kk s us) (kk Ke u)) :=
 zz8 [] (fun s' hs' _ _ hK'=>hc.askG hp (hs'.trans hk) hdk hK') (beq_eq_false_iff_ne.1 hdk) hK
theorem zeB [zah] {P:Program} {s:St} {K:St→Prop} {f:FuncId} {args lents:List PV} {Ka:RV→Prop} {d k v:Nat} {t:TypeId} {bs:List Int} {i:Nat} {h:Int} {fr:Bool} {F:Nat→Int→Value × Nat × Int} {us:Dm s} {u:Dm K} (hc:znJ P f t bs args F) (hp:zco args)
 (hk:s.rw k = ⟨v,.box t [.sl fr 1 (kL .u8 bs),.v (.int .i64 i),.v (.int .i64 h)]⟩) (hdk:(d % 1000 == k % 1000) = false)
 (hK:K ((s.row k ⟨v,.box t [.sl false 1 (kL .u8 bs),.v (.int .i64 (F i h).2.1),.v (.int .i64 (F i h).2.2)]⟩).put (some d) (.v (F i h).1))) :
 zjq P f lents Ka (zsM P f lents (.ref k v 0 :: args) (some d) (kk s us) (kk K u)):=.inr (.inr (.inr (.inr (hc.askG hp hk hdk hK))))
def zA9 (t:TypeId) (bs:List Int) (L:Row) (x:Value × Nat × Int) (R1:Nat→Row) (p:PV):Prop:=p = .v x.1∧R1 1000000 = ⟨1,zkP t bs x.2.1 x.2.2⟩∧R1 1000500 = L
def zzB [zah] (P:Program) (f:FuncId) (t:TypeId) (bs:List Int) (e:TypeId) (c:List PV) (F:Nat→Int→Value × Nat × Int):Prop :=
 ∀ (i:Nat) (h:Int),AG P f [.ref 1000000 1 0,.own 1000500 1] (zuH t bs i h ⟨1,.sli e 1 false c⟩) (zA9 t bs ⟨1,.sli e 1 false c⟩ (F i h))
theorem zzB.toCur [zah] {P:Program} {f:FuncId} {t:TypeId} {bs:List Int} {e:TypeId} {c:List PV} {F:Nat→Int→Value × Nat × Int} {Q:RV→Prop} (hc:zzB P f t bs e c F) (hQ:∀ i h,Q (.im (.v (F i h).1))):zuI P f t bs ⟨1,.sli e 1 false c⟩ [.own 1000500 1] Q:=fun i h=>by
 obtain ⟨h1,h2⟩:=hc i h
 refine ⟨h1,fun w M E vals hw hR hv=>(h2 w M E vals hw hR hv).mono ?_⟩
 rintro en w' ⟨E',p,v,e1,e2,e3,e4,e5,e6⟩
 exact ⟨E',p,v,e1,e2,e3,_,(F i h).2.1,(F i h).2.2,[],hQ i h,by rw [e4];exact .one (.lf (.im _)),List.nodup_nil,e5,e6⟩
theorem zzB.askG [zah] {P:Program} {s:St} {K:St→Prop} {f:FuncId} {d k v j vj:Nat} {t e:TypeId} {c:List PV} {bs:List Int} {i:Nat} {h:Int} {fr:Bool} {F:Nat→Int→Value × Nat × Int} (hc:zzB P f t bs e c F) (hp:zco c)
 (hk:s.rw k = ⟨v,.box t [.sl fr 1 (kL .u8 bs),.v (.int .i64 i),.v (.int .i64 h)]⟩) (hj:s.rw j = ⟨vj,.sli e 1 false c⟩) (hdk:(d % 1000 == k % 1000) = false) (hdj:(d % 1000 == j % 1000) = false) (hkj:(k % 1000 == j % 1000) = false)
 (hK:K ((s.row k ⟨v,.box t [.sl false 1 (kL .u8 bs),.v (.int .i64 (F i h).2.1),.v (.int .i64 (F i h).2.2)]⟩).put (some d) (.v (F i h).1))):Go.Abs.askG P s f [.ref k v 0,.own j vj] (some d) K:=by
 have hkj':k ≠ j:=fun e=>beq_eq_false_iff_ne.1 hkj (by rw [e])
 refine zrS (hc i h) (zim k (some j)) (.one (zbN (by rw [hk])) (.one (zgq (by rw [hj])) .nil)) ⟨fun a ha=>?_,fun a b x na nb ha hb=>?_,fun _ _ _ _ h=>h⟩ (fun a x ha hx=>?_) fun R1 p ⟨e1,e2,e3⟩=>?_
 ·rcases zbY ha with rfl | ⟨rfl,_⟩
  ·refine ⟨Nat.le_refl _,by rw [zb2];exact Nat.one_pos,k,zaX _ _,?_⟩
   rw [zb2,hk]
   exact ⟨rfl,.one (.sl _ _ _) (.one (.v _) (.one (.v _) .nil))⟩
  ·refine ⟨by decide,by rw [zcX];exact Nat.one_pos,j,zbs _ _,?_⟩
   rw [zcX,hj]
   exact ⟨rfl,rfl,rfl,hp⟩
 ·rcases zbY na with rfl | ⟨rfl,_⟩ <;> rcases zbY nb with rfl | ⟨rfl,_⟩
  ·rfl
  ·rw [zaX] at ha;rw [zbs] at hb;cases ha;cases hb;exact absurd rfl hkj'
  ·rw [zaX] at hb;rw [zbs] at ha;cases ha;cases hb;exact absurd rfl hkj'
  ·rfl
 ·rcases zbY ha with rfl | ⟨rfl,_⟩
  ·rw [zaX] at hx;cases hx;exact hdk
  ·rw [zbs] at hx;cases hx;exact hdj
 ·refine ⟨.im (.v (F i h).1),[],s.row k ⟨v,.box t [.sl false 1 (kL .u8 bs),.v (.int .i64 (F i h).2.1),.v (.int .i64 (F i h).2.2)]⟩,by rw [e1];exact .one (.lf (.im _)),List.nodup_nil,fun a ha=>?_,rfl,fun a x ha hx=>?_,fun x hx=>?_,by rw [zc4];exact hK⟩
  ·rcases zbY ha with rfl | ⟨rfl,_⟩
   ·rw [e2,zb2];exact ⟨rfl,fun _ _=>rfl⟩
   ·rw [e3,zcX];exact ⟨rfl,fun _ _=>rfl⟩
  ·rcases zbY ha with rfl | ⟨rfl,_⟩
   ·rw [zaX] at hx;cases hx
    rw [zaV,hk,e2];rfl
   ·rw [zbs] at hx;cases hx
    rw [zaw _ _ _ _ (Ne.symm hkj'),hj,e3]
  ·exact zaw _ _ _ _ fun e=>hx 1000000 (by rw [zb2];rfl) (by rw [e];exact zaX _ _)
theorem zDQ (T:Tab) (s:St) (r1 r2:ResultVar) (post:(Nat→Row)→PV→Prop):zxR T s [r1,r2] post = zvS T s [r1,r2] (kk fun ps=>post s.rw (.tup ps)):=(rfl)
end Go.Abs

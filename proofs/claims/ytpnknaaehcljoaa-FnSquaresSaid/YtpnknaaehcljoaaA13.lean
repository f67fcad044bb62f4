/- DERIVED by an AI agent. -/
import Derived.Test.YtpnknaaehcljoaaA12
/- DERIVED by an AI agent. Functions that are given a table and hand it back longer. No program in sight. -/
namespace Go.Abs
set_option linter.unusedSimpArgs false
set_option linter.unusedVariables false
theorem zd6 {n i:Nat} (h:i < n):(List.range n).getD i 0 = i:=by simp [List.getD,h]
structure TabU (rw:Nat→Row) (k v e e2:Nat) (ids:List (Nat × Nat)) (M:Mat):Prop where
 top:rw k = ⟨v,.tab e (ids.map fun x=>.own x.1 x.2)⟩
 len:ids.length = M.length
 row:∀ i (h:i < ids.length),rw ids[i].1 = ⟨ids[i].2,.sli e2 1 false (iL (M.getD i []))⟩
 nd:(k :: ids.map (·.1)).Nodup
def zej (e e2 n:Nat) (M':Mat) (R1:Nat→Row) (p:PV):Prop :=
 ∃ (v:Nat) (ids:List (Nat × Nat)),p = .own lent v∧TabU R1 lent v e e2 ids M'∧n ≤ ids.length∧∀ i (_:i < n) (h:i < ids.length),ids[i] = (sid lent i,1)
def AGr [zah] (P:Program) (f:FuncId) (args:List PV) (e e2:Nat) (M M':Mat):Prop:=AG P f args (inT e e2 (M.map iL)) (zej e e2 M.length M')
theorem zC9 {l:List Nat} (h:l.Nodup) {i j:Nat} (hi:i < l.length) (hj:j < l.length) (e:l[i] = l[j]):i = j:=(List.getElem_inj (h₀:=hi) (h₁:=hj) h).1 e
section
variable {R1:Nat→Row} {k v e e2 n:Nat} {ids:List (Nat × Nat)} {M:Mat}
theorem TabU.inj [zah] (h:TabU R1 k v e e2 ids M) {i j:Nat} (hi:i < ids.length) (hj:j < ids.length) (he:ids[i].1 = ids[j].1):i = j :=
 zC9 (List.nodup_cons.1 h.nd).2 (by simpa using hi) (by simpa using hj) (by simpa using he)
theorem TabU.ne (h:TabU R1 k v e e2 ids M) {i:Nat} (hi:i < ids.length):ids[i].1 ≠ k:=fun he =>
 (List.nodup_cons.1 h.nd).1 (List.mem_map.2 ⟨_,List.getElem_mem hi,he⟩)
theorem TabG.toU [zah] (h:TabG R1 k v e e2 n M):TabU R1 k v e e2 ((List.range n).map fun j=>(sid k j,1)) M:=by
 refine ⟨by rw [h.top];simp [zar],by simp [h.len],fun i hi=>?_,?_⟩
 ·have hi':i < n:=by simpa using hi
  simpa using h.row i hi'
 ·refine List.nodup_cons.2 ⟨fun hm=>?_,?_⟩
  ·simp only [List.map_map,List.mem_map] at hm
   obtain ⟨j,_,hj⟩:=hm
   exact zbN k j hj
  ·rw [List.map_map]
   refine List.Pairwise.map _ (fun a b hab=>?_) List.nodup_range
   exact fun e=>hab (za9 e)
theorem zom [zah] {d vd n':Nat} {r:List Int} {p:PV} {rw:Nat→Row} (h:TabG rw lent v e e2 n' M) (hn:n ≤ n') {v':Nat} (hp:p = .own lent v') (h1:R1 lent = ⟨v',.tab e (zar lent (List.range n') ++ [.own d vd])⟩) (h2:R1 d = ⟨vd,.sli e2 1 false (iL r)⟩) (h3:∀ j,R1 (sid lent j) = rw (sid lent j)) (hd:d < lent) :
 zej e e2 n (M ++ [r]) R1 p:=by
 refine ⟨v',((List.range n').map fun j=>(sid lent j,1)) ++ [(d,vd)],hp,⟨?_,by simp [h.len],fun i hi=>?_,?_⟩,by simp;omega,fun i hi hi'=>?_⟩
 ·rw [h1];simp [zar]
 ·by_cases hc:i < n'
  ·rw [List.getElem_append_left (by simpa using hc)]
   have e1:(M ++ [r]).getD i [] = M.getD i []:=by rw [zfB,if_pos (by rw [h.len];exact hc)]
   simp only [List.getElem_map,List.getElem_range,e1,h3]
   exact h.row i hc
  ·have:i = n':=by simp at hi;omega
   subst this
   rw [List.getElem_append_right (by simp)]
   have e1:(M ++ [r]).getD i [] = r:=by rw [zfB,if_neg (by rw [h.len];omega),if_pos h.len.symm]
   simp only [List.length_map,List.length_range,Nat.sub_self,List.getElem_cons_zero,h2,e1]
 ·have hu:=h.toU.nd
  rw [List.map_append]
  refine List.nodup_cons.2 ⟨fun hm=>?_,?_⟩
  ·rcases List.mem_append.1 hm with hm | hm
   ·exact (List.nodup_cons.1 hu).1 hm
   ·simp at hm;omega
  ·refine List.nodup_append.2 ⟨(List.nodup_cons.1 hu).2,by simp,fun a ha b hb hab=>?_⟩
   simp at hb
   simp only [List.map_map,List.mem_map] at ha
   obtain ⟨j,_,hj⟩:=ha
   have:=(zgF j).1
   simp at hj
   omega
 ·rw [List.getElem_append_left (by simp;omega)]
  simp
theorem zxS [zah] {d vd n':Nat} {r:List Int} {p:PV} {rw:Nat→Row} (h:TabG rw 1000000 v e e2 n' M) (hn:n ≤ n') {v':Nat} (hp:p = .own 1000000 v') (h1:R1 1000000 = ⟨v',.tab e (zar 1000000 (List.range n') ++ [.own d vd])⟩) (h2:R1 d = ⟨vd,.sli e2 1 false (iL r)⟩) (h3:∀ j,R1 (sid 1000000 j) = rw (sid 1000000 j)) (hd:d < 1000000) :
 zej e e2 n (M ++ [r]) R1 p:=zom (rw:=rw) h hn hp h1 h2 h3 hd
theorem zlz [zah] {n':Nat} {p:PV} (h:TabG R1 lent v e e2 n' M) (hn:n ≤ n') (hp:p = .own lent v):zej e e2 n M R1 p :=
 ⟨v,_,hp,h.toU,by simp;exact hn,fun i hi hi'=>by simp⟩
theorem zwh [zah] {n':Nat} {p:PV} (h:TabG R1 1000000 v e e2 n' M) (hn:n ≤ n') (hp:p = .own 1000000 v):zej e e2 n M R1 p:=zlz h hn hp
def zw8 (k n j:Nat):Option Nat:=if j = lent then some k else if lent < j∧(j - lent) % 1000 = 0∧(j - lent) / 1000 - 1 < n then some (sid k ((j - lent) / 1000 - 1)) else none
theorem zlA (k n:Nat):zw8 k n lent = some k:=by unfold zw8;rw [if_pos rfl]
theorem zlB [zah] (k:Nat) {n i:Nat} (h:i < n):zw8 k n (sid lent i) = some (sid k i):=by
 obtain ⟨h1,h2,h3⟩:=zgF i
 unfold zw8;rw [if_neg (by omega),if_pos ⟨h1,h2,by omega⟩,h3]
theorem zi3 [zah] {k n j i:Nat} (h:zw8 k n j = some i):(j = lent∧i = k) ∨ ∃ x,x < n∧j = sid lent x∧i = sid k x:=by
 unfold zw8 at h
 split at h
 ·cases h;exact .inl ⟨‹_›,rfl⟩
 ·split at h
  ·rename_i h2
   cases h
   exact .inr ⟨_,h2.2.2,by rw [zaT];omega,rfl⟩
  ·cases h
theorem zzw [zah] {e e2 k n v:Nat} {rows:List (List PV)} {Ln:Nat→Prop} {R:Nat→Row} (h:(R k).ver = v):GvA (zw8 k n) Ln (inT e e2 rows) R (.own 1000000 1) (.own k v) :=
 .own (zlA k n) (by show (inT e e2 rows lent).ver = 1;rw [zbD]) h (by show (inT e e2 rows lent).kind.slice = true;rw [zbD];rfl)
structure TabH (rw:Nat→Row) (k v e e2 n:Nat) (M:Mat):Prop where
 top:rw k = ⟨v,.tab e (zar k (List.range n))⟩ ∨ (n = 0∧rw k = ⟨v,.sli e 1 false []⟩)
 len:M.length = n
 row:∀ j,j < n→rw (sid k j) = ⟨1,.sli e2 1 false (iL (M.getD j []))⟩
 rest:∀ j,n ≤ j→rw (sid k j) = ⟨0,.dead⟩
theorem TabG.toH {rw:Nat→Row} (h:TabG rw k v e e2 n M):TabH rw k v e e2 n M:=⟨.inl h.top,h.len,h.row,h.rest⟩
theorem TabH.ver {rw:Nat→Row} (h:TabH rw k v e e2 n M):(rw k).ver = v:=by rcases h.top with h | ⟨_,h⟩ <;> rw [h]
theorem TabH.give [zah] {rw:Nat→Row} {Ln:Nat→Prop} (h:TabH rw k v e e2 M.length M) (hl:∀ j,Ln j→(j % 1000 == k % 1000) = false):Give (zw8 k M.length) Ln (inT e e2 (M.map iL)) rw:=by
 have hlm:(M.map iL).length = M.length:=List.length_map _
 have hcells:∀ l:List Nat,(∀ j ∈ l,j < M.length)→GvL (zw8 k M.length) Ln (inT e e2 (M.map iL)) rw (zar lent l) (zar k l):=by
  intro l
  induction l with
  | nil=>intro _;exact .nil
  | cons j l ih =>
    intro hj
    have h1:=hj j (by simp)
    refine .one (.own (zlB k h1) ?_ ?_ ?_) (ih fun x hx=>hj x (by simp [hx]))
    ·rw [zcb (by rw [hlm];exact h1)]
    ·rw [h.row j h1]
    ·rw [zcb (by rw [hlm];exact h1)];rfl
 refine ⟨fun j hj=>?_,fun j j' i n1 n2 h1 h2=>?_,fun j i hj hr hln=>?_⟩
 ·rcases ziD hj with rfl | ⟨i,hi,rfl⟩
  ·refine ⟨Nat.le_refl _,by rw [zbD];exact Nat.one_pos,k,zlA _ _,?_⟩
   rw [zbD,hlm]
   rcases h.top with ht | ⟨h0,ht⟩
   ·rw [ht]
    exact ⟨rfl,hcells _ fun j hj=>List.mem_range.1 hj⟩
   ·rw [ht]
    exact ⟨rfl,rfl,by rw [h0];rfl,rfl⟩
  ·rw [hlm] at hi
   refine ⟨Nat.le_of_lt (zgF i).1,by rw [zcb (by rw [hlm];exact hi)];exact Nat.one_pos,_,zlB k hi,?_⟩
   rw [zcb (by rw [hlm];exact hi),h.row i hi,zb7]
   exact ⟨rfl,rfl,rfl,zcR _⟩
 ·rcases zi3 h1 with ⟨a1,a2⟩ | ⟨x,_,a1,a2⟩ <;> rcases zi3 h2 with ⟨b1,b2⟩ | ⟨y,_,b1,b2⟩
  ·rw [a1,b1]
  ·rw [a2] at b2;exact absurd b2.symm (zbN k y)
  ·rw [a2] at b2;exact absurd b2 (zbN k x)
  ·rw [a2] at b2;have:=za9 b2;subst this;rw [a1,b1]
 ·have hm:=beq_eq_false_iff_ne.1 (hl i hln)
  rcases zi3 hr with ⟨_,rfl⟩ | ⟨x,_,_,rfl⟩
  ·exact hm rfl
  ·exact hm (zaa _ _)
end
theorem zkM [zah] {P:Program} {s:St} {K:St→Prop} {f:FuncId} {args raw lents:List PV} {Ka:RV→Prop} {d k v e e2:Nat} {us:Dm s} {u:Dm K} {M M':Mat} (h:AGr P f args e e2 M M') (Ln:Nat→Prop)
 (hl:GvL (zw8 k M.length) Ln (inT e e2 (M.map iL)) s.rw args raw) (ht:TabH s.rw k v e e2 M.length M) (hln:∀ j,Ln j→(j % 1000 == k % 1000) = false)
 (hk:∀ (S:St) (v':Nat),v ≤ v'→TabG S.rw k v' e e2 M'.length M'→S.sl d = .own k v'→(∀ t,t ≠ d→S.sl t = s.sl t)→(∀ j,(j % 1000 == k % 1000) = false→S.rw j = s.rw j)→K S) :
 zhS P f lents Ka (zsk P f lents raw (some d) (kk s us) (kk K u)):=by
 refine zuc h _ Ln hl (ht.give hln) fun R1 p ⟨v1,ids,hp,hu,hn,hids⟩=>?_
 subst hp
 have hlm:(M.map iL).length = M.length:=List.length_map _
 let rho1:Nat→Option Nat:=fun j=>if j = lent then some k else (ids.findIdx? (fun x=>x.1 == j)).map (sid k)
 have top1:rho1 lent = some k:=if_pos rfl
 have row1:∀ i (hi:i < ids.length),rho1 ids[i].1 = some (sid k i):=fun i hi=>by
  have hf:ids.findIdx? (fun x=>x.1 == ids[i].1) = some i:=by
   rw [List.findIdx?_eq_some_iff_getElem]
   refine ⟨hi,by simp,fun j hj=>?_⟩
   simp only [beq_iff_eq]
   intro he
   have:=hu.inj (by omega) hi he
   omega
  show (if ids[i].1 = lent then _ else _) = _
  rw [if_neg (hu.ne hi),hf];rfl
 have some1:∀ j x,rho1 j = some x→(j = lent∧x = k) ∨ ∃ i,∃ hi:i < ids.length,j = ids[i].1∧x = sid k i:=fun j x hx=>by
  have hx:(if j = lent then some k else (ids.findIdx? (fun x=>x.1 == j)).map (sid k)) = some x:=hx
  split at hx
  ·cases hx;exact .inl ⟨‹_›,rfl⟩
  ·cases hf:ids.findIdx? (fun x=>x.1 == j) with
   | none=>rw [hf] at hx;cases hx
   | some i =>
     rw [hf] at hx;cases hx
     rw [List.findIdx?_eq_some_iff_getElem] at hf
     obtain ⟨hi,h1,_⟩:=hf
     exact .inr ⟨i,hi,(beq_iff_eq.1 h1).symm,rfl⟩
 have given:∀ i (hi:i < ids.length),i < M.length→ids[i].1 = sid lent i:=fun i hi h=>by rw [hids i h hi]
 let nv:Nat→Nat:=fun j=>if j = lent then (if v1 = 1 then v else v + 1) else 1
 have nvt:nv lent = if v1 = 1 then v else v + 1:=if_pos rfl
 have nvr:∀ i (hi:i < ids.length),nv ids[i].1 = 1:=fun i hi=>if_neg (hu.ne hi)
 refine ⟨rho1,nv,false,⟨fun j hj=>?_,fun j j' x h1 h2=>?_,fun j x hx hn1 hv=>?_,fun j x hx hn1=>?_,fun h=>by cases h⟩,fun S hS=>?_⟩
 ·rcases ziD hj with rfl | ⟨i,hi,rfl⟩
  ·rw [top1,zlA]
  ·rw [hlm] at hi
   have hi':i < ids.length:=by omega
   rw [zlB k hi,← given i hi' hi,row1 i hi']
 ·rcases some1 j x h1 with ⟨a1,a2⟩ | ⟨i,hi,a1,a2⟩ <;> rcases some1 j' x h2 with ⟨b1,b2⟩ | ⟨i',hi',b1,b2⟩
  ·rw [a1,b1]
  ·rw [a2] at b2;exact absurd b2.symm (zbN k i')
  ·rw [a2] at b2;exact absurd b2 (zbN k i)
  ·rw [a2] at b2;have:=za9 b2;subst this;rw [a1,b1]
 ·rcases some1 j x hx with ⟨rfl,rfl⟩ | ⟨i,hi,rfl,rfl⟩
  ·rw [hu.top,zbD] at hv
   have hv:v1 = 1:=hv
   rw [nvt,if_pos hv,ht.ver]
  ·rw [nvr i hi]
   have:i < M.length:=by
    rcases ziD hn1 with h | ⟨i',hi',h⟩
    ·exact absurd h (hu.ne hi)
    ·rw [hlm] at hi'
     have hi2:i' < ids.length:=by omega
     rw [← given i' hi2 hi'] at h
     have:=hu.inj hi hi2 h
     omega
   rw [ht.row i this]
 ·rcases some1 j x hx with ⟨rfl,rfl⟩ | ⟨i,hi,rfl,rfl⟩
  ·have hv:=hn1 (by rw [zbD];rfl)
   rw [hu.top,zbD] at hv
   have hv:¬ v1 = 1:=hv
   rw [nvt,if_neg hv,ht.ver];omega
  ·rw [nvr i hi]
   by_cases him:i < M.length
   ·have h2:=hids i him hi
    have hv:=hn1 (by rw [h2,zcb (by rw [hlm];exact him)];rfl)
    rw [hu.row i hi,h2,zcb (by rw [hlm];exact him)] at hv
    exact absurd rfl hv
   ·rw [ht.rest i (by omega)];exact Nat.one_pos
 ·have hren:∀ x ∈ ids,∀ (i:Nat) (hi:i < ids.length),ids[i] = x→ren1 rho1 R1 nv false (.own x.1 x.2) = .own (sid k i) 1:=fun x _ i hi he=>by
   subst he
   have:=zeg rho1 R1 nv false ids[i].1 ids[i].2
   rw [row1 i hi,hu.row i hi] at this
   simp only [beq_self_eq_true,nvr i hi] at this
   exact this
  have hcell:(ids.map fun x=>PV.own x.1 x.2).map (ren1 rho1 R1 nv false) = zar k (List.range M'.length):=by
   refine List.ext_getElem (by simp [zar,hu.len]) fun i a b=>?_
   have hi:i < ids.length:=by simpa using a
   simp only [List.getElem_map,zar,List.getElem_range]
   exact hren _ (List.getElem_mem hi) i hi rfl
  refine hk S (nv lent) (by rw [nvt];split <;> omega) ⟨?_,rfl,fun j hj=>?_,fun j hj=>?_⟩ ?_ (fun t ht'=>?_) fun j hj=>?_
  ·rw [hS.row lent k top1,hu.top]
   show (⟨nv lent,.tab e _⟩:Row) = _
   rw [hcell]
  ·have hj':j < ids.length:=by rw [hu.len];exact hj
   rw [hS.row _ _ (row1 j hj'),hu.row j hj',nvr j hj'];rfl
  ·rw [hS.off _ fun j' hx=>?_]
   ·exact ht.rest j (by rw [← hu.len] at hj;omega)
   ·rcases some1 j' _ hx with ⟨_,h2⟩ | ⟨i,hi,_,h2⟩
    ·exact zbN k j h2
    ·have:=za9 h2;rw [hu.len] at hi;omega
  ·rw [hS.sl]
   show (s.put (some d) _).sl d = _
   rw [zax]
   have:=zeg rho1 R1 nv false lent v1
   rw [top1,hu.top] at this
   simp only [beq_self_eq_true] at this
   exact this
  ·rw [hS.sl,zaO _ _ _ _ ht']
  ·have hm:=beq_eq_false_iff_ne.1 hj
   refine hS.off j fun j' hx=>hm ?_
   rcases some1 j' _ hx with ⟨_,rfl⟩ | ⟨i,hi,_,rfl⟩
   ·rfl
   ·exact zaa _ _
def zwi (wrap:PV→PV) (e e2:Nat) (M:Mat) (R1:Nat→Row) (p:PV):Prop:=∃ (k v:Nat) (ids:List (Nat × Nat)),p = wrap (.own k v)∧TabU R1 k v e e2 ids M
def ANw [zah] (P:Program) (f:FuncId) (args:List PV) (wrap:PV→PV) (e e2:Nat) (M:Mat):Prop:=AG P f args (fun _=>⟨0,.dead⟩) (zwi wrap e e2 M)
theorem ANw.go [zah] {P:Program} {T:Tab} {f:FuncId} {fn:Func} {c:Code} {rs:List ResultVar} {args:List PV} {wrap:PV→PV} {e e2:Nat} {M:Mat} (hT:T.Ok P) (hm:P.follows .mixedOrders = true) (hf:P.funcs[f]? = some fn) (hname:(fn.name == "runtime.NumGoroutine") = false)
 (hb:fn.body = some c) (hr:fn.results.toList = rs) (hfit:(fits fn.ntmps c && decide (args.length ≤ fn.ntmps) && decide (fn.results.toList.length ≤ 4)) = true)
 (h:zw6 args→∀ s:St,(∀ i,s.sl i = args.getD i .junk)→(∀ j,s.rw j = ⟨0,.dead⟩)→cwp P T c (zxq T rs (zwi wrap e e2 M)) s):ANw P f args wrap e e2 M :=
 AG.go hT hm hf hname hb hr hfit fun h1 h2 s hs hrw=>h h1 s hs hrw
theorem AGr.go [zah] {P:Program} {T:Tab} {f:FuncId} {fn:Func} {c:Code} {rs:List ResultVar} {args:List PV} {e e2:Nat} {M M':Mat} (hT:T.Ok P) (hm:P.follows .mixedOrders = true) (hf:P.funcs[f]? = some fn) (hname:(fn.name == "runtime.NumGoroutine") = false)
 (hb:fn.body = some c) (hr:fn.results.toList = rs) (hfit:(fits fn.ntmps c && decide (args.length ≤ fn.ntmps) && decide (fn.results.toList.length ≤ 4)) = true)
 (h:zw6 args→M.length ≤ 9223372036854775807→∀ s:St,(∀ i,s.sl i = args.getD i .junk)→(∀ j,j < 1000000→s.rw j = ⟨0,.dead⟩)→TabG s.rw 1000000 1 e e2 M.length M→cwp P T c (zxq T rs (zej e e2 M.length M')) s):AGr P f args e e2 M M':=by
 have hlm:(M.map iL).length = M.length:=List.length_map _
 refine AG.go hT hm hf hname hb hr hfit fun h1 h2 s hs hrw=>h h1 ?_ s hs (fun j hj=>?_) ⟨?_,rfl,fun j hj=>?_,fun j hj=>?_⟩
 ·have:=h2 lent
  rw [zbD] at this
  have:(zar lent (List.range (M.map iL).length)).length ≤ 9223372036854775807:=this
  rwa [zal,List.length_range,hlm] at this
 ·rw [hrw,zvH (by unfold lent;exact hj)]
 ·rw [hrw]
  have:=zbD (e:=e) (e2:=e2) (rows:=M.map iL)
  rw [hlm] at this
  exact this
 ·rw [hrw]
  have:=zcb (e:=e) (e2:=e2) (rows:=M.map iL) (i:=j) (by rw [hlm];exact hj)
  rw [zb7] at this
  exact this
 ·rw [hrw]
  by_cases hn:(inT e e2 (M.map iL) (sid lent j)).kind.nd = true
  ·rcases ziD hn with h | ⟨i,hi,h⟩
   ·exact absurd h (zbN _ _)
   ·have:=za9 h;rw [hlm] at hi;omega
  ·show inT e e2 (M.map iL) (sid lent j) = _
   unfold inT at hn ⊢
   split
   ·rename_i h;exact absurd h (zbN _ _)
   ·split
    ·rename_i h1 h2;rw [if_neg h1,if_pos h2] at hn;exact absurd rfl hn
    ·rfl
end Go.Abs

/- DERIVED by an AI agent. A nil slice seen as a row of nothing, to be appended to. No program in sight. -/
namespace Go.Abs
set_option linter.unusedSimpArgs false
set_option linter.unusedVariables false
theorem SimE.nilRow [zah] {G:Ghost} {E:Env} {s:St} {a:Act} {w:World} (hs:SimE G E s a w) (k e:Nat) :
 ∃ E',SimE G E' (s.row k ⟨(s.rw k).ver + 1,.sli e 1 false []⟩) a w∧Rep w E' 0 (.own k ((s.rw k).ver + 1)) (.slice none 0 0):=by
 have ht:=zfs (G:=G) (E:=E) (k:=k) (kd:=.sli e 1 false []) (m:=none) (v:=.slice none 0 0) (Ext.refl w) (fun b h=>by cases h)
 have hrows:∀ j,j = k→zat w (E.row k ⟨(E.R k).ver + 1,.sli e 1 false []⟩ none (.slice none 0 0)) G.C j:=fun j hj=>by
  subst hj
  unfold zat
  simp only [Env.row,zaj]
  exact .inl ⟨trivial,trivial,trivial⟩
 have h:=ht.sim hs hrows
 have e1:({ s with rw:=(E.row k ⟨(E.R k).ver + 1,.sli e 1 false []⟩ none (.slice none 0 0)).R }:St) = s.row k ⟨(s.rw k).ver + 1,.sli e 1 false []⟩:=by
  show ({ s with rw:=zbZ E.R k _ }:St) = _
  rw [hs.rw];rfl
 rw [e1] at h
 refine ⟨_,h,.own ?_ fun _ _=>?_⟩
 ·simp [Env.row,zaj,hs.rw]
 ·simp [Env.row,zaj]
theorem Wk.nilBox [zah] {s:St} {j v t o:Nat} {c:List PV} (k e:Nat) (hj:s.rw j = ⟨v,.box t c⟩) (ho:c[o]? = some (.v (.slice none 0 0))) (hjk:j ≠ k):Wk s ((s.row k ⟨(s.rw k).ver + 1,.sli e 1 false []⟩).row j ⟨v,.box t (c.set o (.own k ((s.rw k).ver + 1)))⟩):=by
 intro G a w ⟨E,hs⟩
 obtain ⟨E',h,hr⟩:=hs.nilRow k e
 have hRj:E'.R j = ⟨v,.box t c⟩:=by
  rw [h.rw]
  show (if j = k then _ else s.rw j) = _
  rw [if_neg hjk,hj]
 let E3:Env:={ R:=zbZ E'.R j ⟨v,.box t (c.set o (.own k ((s.rw k).ver + 1)))⟩,rm:=E'.rm,rv:=E'.rv,L:=mkL E'.X (zbZ E'.R j ⟨v,.box t (c.set o (.own k ((s.rw k).ver + 1)))⟩) E'.rm,B:=E'.B,X:=E'.X }
 have ht:Turn G E' E3 w w (· = j):=by
  refine ⟨rfl,rfl,rfl,fun i hi=>⟨zap _ _ hi,rfl,rfl⟩,fun _ _ _=>rfl,fun i b hi hb _=>?_,fun i hi=>?_,fun i hi _ hsl=>?_,fun i hi _ _=>?_,fun i hi _=>?_,fun i i' b hi hi' _ _ _ _=>by rw [hi,hi'],Nat.le_refl _,rfl,rfl,⟨rfl,fun _=>by first | exact Nat.le_refl _ | exact Nat.le_succ _⟩⟩
  ·subst hi;exact .inr ⟨hb,by rw [hRj];rfl,fun _=>by rw [hRj];rfl⟩
  ·subst hi
   show _ ≤ (zbZ E'.R i _ i).ver
   rw [zaj,hRj];exact Nat.le_refl _
  ·subst hi
   have:(zbZ E'.R i ⟨v,.box t (c.set o (.own k ((s.rw k).ver + 1)))⟩ i).kind.slice = true:=hsl
   rw [zaj] at this;cases this
  ·subst hi;exact ⟨by rw [hRj];rfl,rfl⟩
  ·subst hi
   show 0 < (zbZ E'.R i _ i).ver
   rw [zaj]
   have:=h.wok.pos i (by rw [hRj];rfl)
   rw [hRj] at this;exact this
 have hl:=ht.lasts h.wok
 have hrows:∀ i,i = j→zat w E3 G.C i:=fun i hi=>by
  subst hi
  have hrow:=h.wok.rows i
  unfold zat at hrow ⊢
  rw [hRj] at hrow
  obtain ⟨b,vs,h1,h2,h3,h4⟩:=hrow
  show match (zbZ E'.R i ⟨v,.box t (c.set o (.own k ((s.rw k).ver + 1)))⟩ i).kind with | .dead=>True | .nil=>_ | .box t cells=>_ | .sli e sz _ cells=>_ | .tab e cells=>_
  rw [zaj]
  refine ⟨b,vs,h1,h2,h3,by simp [h4.1],fun x a' b'=>?_⟩
  have hx:x < c.length:=by simpa using a'
  rw [List.getElem_set]
  by_cases hxo:o = x
  ·subst hxo
   rw [if_pos rfl]
   have h0:=h4.2 o hx b'
   have:c[o] = .v (.slice none 0 0):=by
    have:=List.getElem?_eq_some_iff.1 ho
    exact this.2
   rw [this] at h0
   rw [h0.v_eq]
   exact hr.mono hl (Nat.le_refl _)
  ·rw [if_neg hxo]
   exact (h4.2 x hx b').mono hl (Nat.le_refl _)
 have key:=ht.sim h hrows
 have e1:({ (s.row k ⟨(s.rw k).ver + 1,.sli e 1 false []⟩) with rw:=E3.R }:St) = (s.row k ⟨(s.rw k).ver + 1,.sli e 1 false []⟩).row j ⟨v,.box t (c.set o (.own k ((s.rw k).ver + 1)))⟩:=by
  show ({ (s.row k ⟨(s.rw k).ver + 1,.sli e 1 false []⟩) with rw:=zbZ E'.R j _ }:St) = _
  rw [h.rw];rfl
 rw [e1] at key
 exact ⟨_,key⟩
theorem zwf [zah] (k n:Nat):(k :: (List.range n).map (sid k)).Nodup:=by
 refine List.nodup_cons.2 ⟨fun hm=>?_,?_⟩
 ·obtain ⟨j,_,hj⟩:=List.mem_map.1 hm
  exact zbN k j hj
 ·refine List.Pairwise.map _ (fun a b hab=>?_) List.nodup_range
  exact fun e=>hab (za9 e)
theorem OutR.flat [zah] {w':World} {N e e2:Nat} {rows:List (List PV)} {v:Value} {lv:List (Value × Option Nat)} (hout:OutR w' (Env.out N (blk lv)) (.tb e e2 rows) v lv) (hn:(blk lv).Nodup) :
 ∃ lv',OutR w' (Env.out N (blk lv')) (.fr e 1 (rows.map fun r=>.sl false 1 r)) v lv'∧(blk lv').Nodup:=by
 cases hout with
 | tbn=>exact ⟨_,.nil,by simp [blk]⟩
 | @tb _ _ b n cap _ vs rest lvs hB hh hnn hc hm hl h1 h2 hvv hin =>
   refine ⟨[(.slice (some ⟨b,0,none⟩) n cap,some b)],.fr hB hh (by omega) hc hm (by omega) ⟨by simp [h1,hnn],fun i a b'=>?_⟩,by simp [blk]⟩
   have hi:i < rows.length:=by simpa using a
   have h0:=hin i hi b' (by omega)
   simp only [List.getElem_map]
   have hbl:blk ((Value.slice (some ⟨b,0,none⟩) n cap,some b) :: lvs) = b :: blk lvs:=rfl
   have e1:blk [(Value.slice (some ⟨b,0,none⟩) n cap,some b)] = [b]:=rfl
   rw [e1]
   rw [hbl] at hn h0
   generalize hri:rows[i] = ri at *
   generalize hvi:vs[i] = vi at *
   generalize hli:lvs[i]'(by omega) = li at *
   cases h0 with
   | nil=>exact zcH _ _ _ _ _
   | @fr _ _ b2 n2 cap2 _ vs2 rest2 hB2 hh2 hn2 hc2 hm2 hl2 hr2 =>
     have hb2:b2 ∈ blk lvs:=by
      simp only [blk,List.mem_filterMap]
      exact ⟨_,List.getElem_mem (by omega:i < lvs.length),by rw [hli]⟩
     have hne:b2 ≠ b:=fun e=>(List.nodup_cons.1 hn).1 (e ▸ hb2)
     have hB3:N ≤ b2:=hB2
     refine .sl (fun j=>vs2.getD j undef) (hr2.1.trans hn2) hc2 hm2 (fun j hj=>⟨b2,0,rfl,?_,fun hL=>?_,?_⟩) (fun j hj=>?_)
     ·show max N (if false = true then _ else 0) ≤ b2
      simp;exact hB3
     ·rcases hL with hL | hL
      ·have:b2 < N:=hL
       omega
      ·exact hne (List.mem_singleton.1 hL)
     ·have hj':j < vs2.length:=by rw [← hr2.1];exact hj
      rw [Nat.zero_add,zaB hh2 (by simp;omega)]
      simp [List.getElem_append_left hj',List.getD,hj']
     ·have hj':j < vs2.length:=by rw [← hr2.1];exact hj
      have e2':vs2.getD j undef = vs2[j]:=by simp [List.getD,hj']
      rw [e2']
      have h3:=hr2.2 j hj hj'
      have h4:Rep w' (Env.out N [b]).bare.bare N ri[j] vs2[j]:=by
       refine Rep.above (E:=(Env.out N (b :: blk lvs)).bare) h3 (fun _=>rfl) (fun _=>rfl) rfl rfl fun x hx' hL hL'=>?_
       rcases hL' with hL' | hL'
       ·exact hL (.inl hL')
       ·exact hL (.inr (by rw [List.mem_singleton.1 hL'];exact List.mem_cons_self))
      refine h4.low ?_
      show max N (if false = true then _ else 0) ≤ N
      simp
theorem AC.flatT [zah] {P:Program} {f:FuncId} {args:List PV} {e e2:Nat} {rows:List (List PV)} {x:Value} (h:AC P f args (.tup [.ag [.tb e e2 rows],.im (.v x)])):AC P f args (.tup [.ag [.fr e 1 (rows.map fun r=>.sl false 1 r)],.im (.v x)]):=by
 refine ⟨h.1,fun w vals hp hv=>(h.2 w vals hp hv).mono fun en w' ⟨v,lv,he,hx,hout,hn⟩=>?_⟩
 cases hout with
 | @tup _ vs bss h1 h2 hh =>
   match vs,bss,h1,h2 with
   | [v1,v2],[b1,b2],_,_ =>
     have o1:=hh 0 (by simp) (by simp) (by simp)
     have o2:=hh 1 (by simp) (by simp) (by simp)
     simp only [List.getElem_cons_zero,List.getElem_cons_succ] at o1 o2
     cases o2 with
     | im hr =>
       have hr:=hr.v_eq
       subst hr
       cases o1 with
       | @ag _ us css g1 g2 gg =>
         match us,css,g1,g2 with
         | [u],[c1],_,_ =>
           have o3:=gg 0 (by simp) (by simp) (by simp)
           simp only [List.getElem_cons_zero] at o3
           have e1:[[c1].flatten,[]].flatten = c1:=by simp
           rw [e1] at o3 hn
           obtain ⟨lv',p1,p2⟩:=o3.flat hn
           refine ⟨_,lv',he,hx,?_,p2⟩
           have e2:[[lv'].flatten,[]].flatten = lv':=by simp
           have:OutR w' (Env.out w.heap.size (blk lv')) (.tup [.ag [.fr e 1 (rows.map fun r=>.sl false 1 r)],.im (.v v2)]) (.tuple [Value.agg [u].toArray,v2].toArray) [[lv'].flatten,[]].flatten:=by
            refine .tup rfl rfl fun i a b c=>?_
            match i,a with
            | 0,_ =>
              refine .ag rfl rfl fun i a b c=>?_
              match i,a with
              | 0,_=>exact p1
            | 1,_=>exact .im (.v _)
           rw [e2] at this
           exact this
theorem zs6 [zah] {s:St} (d e e2:Nat) (rows:List (List PV)) (x:Value):zam s d (.tup [.ag [.tb e e2 rows],.im (.v x)]) = (zam s d (.tb e e2 rows)).put (some d) (.tup [.ag [.own d ((s.rw d).ver + 1)],.v x]):=by
 unfold zam
 have e1:leaves (.tup [.ag [.tb e e2 rows],.im (.v x)]) = leaves (.tb e e2 rows):=by simp [zbf,zbs,leaves]
 have e2':zaJ (fun k=>(s.rw k).ver) d (.tup [.ag [.tb e e2 rows],.im (.v x)]) 0 = .tup [.ag [.own d ((s.rw d).ver + 1)],.v x]:=by simp [zaJ,zbk,za8,zaU,zan,zd1]
 rw [e1,e2']
 show St.mk _ _ = St.mk _ _
 congr 1
 funext i
 by_cases h:i = d
 ·simp [St.put,h]
 ·simp [St.put,h]
theorem zkL [zah] {P:Program} {s:St} {K:St→Prop} {f:FuncId} {args raw:List PV} {Ka:RV→Prop} {d e e2:Nat} {us:Dm s} {u:Dm K} {M:Mat} {x:Value} (h:AC P f args (.tup [.ag [.tb e e2 (M.map iL)],.im (.v x)])) (hd:∀ i,i < M.length→(s.rw (sid d i)).ver = 0)
 (hk:∀ S:St,TabI S.rw d ((s.rw d).ver + 1) e e2 (List.range M.length) M→S.sl d = .tup [.ag [.own d ((s.rw d).ver + 1)],.v x]→(∀ t,t ≠ d→S.sl t = s.sl t)→(∀ j,(j % 1000 == d % 1000) = false→S.rw j = s.rw j)→K S):zhS P f args Ka (zsk P f args raw (some d) (kk s us) (kk K u)) :=
 zxi _ h (Wk.refl _) (by
  rw [zs6]
  refine hk _ ⟨?_,List.nodup_range⟩ (zax _ _ _) (fun t ht=>?_) fun j hj=>?_
  ·have:=znQ (s:=s) d e e2 (M.map iL) (fun i hi=>hd i (by simpa using hi))
   rw [zcD]
   rwa [List.length_map] at this
  ·rw [zaO _ _ _ _ ht];exact zcE d e e2 t _ ht
  ·rw [zcD];exact zdQ d e e2 j _ hj)
theorem zwg [zah] {rw:Nat→Row} {k k2 v e e2:Nat} {q:List Nat} {M:Mat} {Kn:List Nat→Prop} (ht:rw k = ⟨v,.tab e (zar k2 q)⟩) (hk:k < 1000000) (hk2:k2 < 1000) (hq:∀ j ∈ q,j < 998) (hl:M.length = q.length)
 (hr:∀ i (a:i < q.length),rw (sid k2 q[i]) = ⟨1,.sli e2 1 false (iL (M.getD i []))⟩) (hK:Kn (k :: q.map (sid k2))):zlc rw (.own k v) (.tb e e2 (M.map iL)) Kn:=by
 unfold zlc
 simp only [ht]
 refine ⟨hk,trivial,trivial,zoj q (M.map iL) _ (by rw [List.length_map,hl]) (fun i a b=>?_) hK⟩
 refine ⟨zrP hk2 (hq _ (List.getElem_mem a)),?_⟩
 have hm:i < M.length:=by omega
 rw [hr i a,List.getElem_map]
 simp [List.getD,hm]
theorem zAh [zah] {k k2:Nat} {q:List Nat} (hk:(k % 1000 == k2 % 1000) = false) (hq:q.Nodup):(k :: q.map (sid k2)).Nodup:=by
 have hk:=beq_eq_false_iff_ne.1 hk
 refine List.nodup_cons.2 ⟨fun hm=>?_,?_⟩
 ·obtain ⟨j,_,hj⟩:=List.mem_map.1 hm
  exact hk (by rw [← hj,zaa])
 ·refine List.Pairwise.map _ (fun a b hab=>?_) hq
  exact fun e=>hab (za9 e)
section
variable {Q:AX→St→Prop} {s:St} {k e e2:Nat}
theorem zi2 [zah] {α:Type} {j v t o:Nat} {c c':List PV} (hj:s.rw j = ⟨v,.box t c⟩) (ho:c[o]? = some (.v (.slice none 0 0))) (hc:c.set o (.own k 1) = c') (hjm:(j % 1000 == k % 1000) = false) (hk:s.rw k = ⟨0,.dead⟩) (hd:∀ i,s.rw (sid k i) = ⟨0,.dead⟩)
 (I:α→St→Prop) (μ:α→Nat) (x0:α) {b:(AX→St→Prop)→St→Prop} {u:Dm b} {w:Dm Q}
 (h0:∀ s',(TabG s'.rw k 1 e e2 0 []∧s'.rw j = ⟨v,.box t c'⟩)→s'.sl = s.sl→(∀ i,(i % 1000 == k % 1000) = false→(i == j) = false→s'.rw i = s.rw i)→I x0 s') (h:∀ x s1,I x s1→b (AX.seq (zoS I μ (μ x)) Q) s1):zvo (kk b u) (kk Q w) s:=by
 have hjm':=beq_eq_false_iff_ne.1 hjm
 have hjk:j ≠ k:=fun h=>hjm' (by rw [h])
 have hw:=Wk.nilBox k e hj ho hjk
 rw [hk] at hw
 subst hc
 obtain ⟨s',hw2,ht,hsl,ho'⟩:=TabG.init (s:=(s.row k ⟨0 + 1,.sli e 1 false []⟩).row j ⟨v,.box t (c.set o (.own k (0 + 1)))⟩) (k:=k) (v:=1) (e:=e) e2 (by rw [zao _ _ _ _ (Ne.symm hjk),zaz]) (fun i=>by rw [zao _ _ _ _ (fun h=>hjm' (by rw [← h,zaa])),zao _ _ _ _ (zbN k i)];exact hd i)
 refine ⟨α,I,μ,⟨x0,s',hw.trans hw2,h0 s' ⟨ht,?_⟩ hsl fun i h1 h2=>?_⟩,h⟩
 ·rw [ho' j hjm,zaz]
 ·have h1':=beq_eq_false_iff_ne.1 h1
  rw [ho' i h1,zao _ _ _ _ (beq_eq_false_iff_ne.1 h2),zao _ _ _ _ (fun h=>h1' (by rw [h]))]
end
end Go.Abs

/- DERIVED by an AI agent. A function that is given a slice of its own and hands back that or another one, with a word whether it did. No program in sight. -/
namespace Go.Abs
set_option linter.unusedSimpArgs false
set_option linter.unusedVariables false
variable {P:Program} {s:St} {K:St→Prop}
end Go.Abs

/- DERIVED by an AI agent. Rows that are written no more, seen as values; a new table under a number of its own. No program in sight. -/
namespace Go.Abs
set_option linter.unusedSimpArgs false
set_option linter.unusedVariables false
section
variable {G:Ghost} {s:St} {E:Env} {a:Act} {w:World}
def Env.kill (E:Env) (k:Nat) (p:List Nat):Env:={ R:=zaI E.R k p,rm:=E.rm,rv:=E.rv,L:=mkL E.X (zaI E.R k p) E.rm,B:=E.B,X:=E.X }
theorem SimE.kill [zah] (hs:SimE G E s a w) (k:Nat) (p:List Nat):SimE G (E.kill k p) (s.killed k p) a w∧Lasts w w E (E.kill k p):=by
 have dead:∀ j,InT k p j→(zaI E.R k p j).kind.nd = true→False:=fun j hj h=>by rw [zbM hj] at h;cases h
 have ht:Turn G E (E.kill k p) w w (InT k p):=by
  refine ⟨rfl,rfl,rfl,fun j hj=>⟨zbd hj,rfl,rfl⟩,fun _ _ _=>rfl,fun j b hD _ hnd=>(dead j hD hnd).elim,fun j hD=>?_,fun j hD he _=>?_,fun j hD he _=>?_,fun j hD hnd=>(dead j hD hnd).elim,fun j j' b hD hD' h1 _ _ _=>(dead j hD h1).elim,Nat.le_refl _,rfl,rfl,⟨rfl,fun _=>by first | exact Nat.le_refl _ | exact Nat.le_succ _⟩⟩
  ·show _ ≤ (zaI E.R k p j).ver
   rw [zbM hD];exact Nat.le_succ _
  ·have he:(zaI E.R k p j).ver = (E.R j).ver:=he
   rw [zbM hD] at he;simp at he
  ·have he:(zaI E.R k p j).ver = (E.R j).ver:=he
   rw [zbM hD] at he;simp at he
 have hrows:∀ j,InT k p j→zat w (E.kill k p) G.C j:=fun j hj=>by
  unfold zat
  show match (zaI E.R k p j).kind with | .dead=>True | .nil=>_ | .box t cells=>_ | .sli e sz _ cells=>_ | .tab e cells=>_
  rw [zbM hj];trivial
 have key:SimE G (E.kill k p) ({ s with rw:=zaI E.R k p }:St) a w:=ht.sim hs hrows
 have e:({ s with rw:=zaI E.R k p }:St) = s.killed k p:=by rw [hs.rw];rfl
 rw [e] at key
 exact ⟨key,ht.lasts hs.wok⟩
theorem zou [zah] (hs:SimE G E s a w) {k j b:Nat} {p:List Nat} (hj:InT k p j) (hn:(E.R j).kind.nd = true) (hb:E.rm j = some b):¬ (E.kill k p).L b:=by
 rintro (⟨i,h1,h2⟩ | hX)
 ·have h1:E.rm i = some b:=h1
  have h2:(zaI E.R k p i).kind.live = true:=h2
  by_cases hi:InT k p i
  ·rw [zbM hi] at h2;cases h2
  ·rw [zbd hi] at h2
   have:=hs.wok.inj i j b (RK.nd_of_live h2) hn h1 hb
   exact hi (this ▸ hj)
 ·exact hs.wok.apart j b hn hb (hs.wok.xs ▸ hX)
theorem zwB [zah] (hs:SimE G E s a w) {j b:Nat} (hjl:j < lent) (hn:(E.R j).kind.nd = true) (hb:E.rm j = some b):E.B ≤ b:=by
 have:=(hs.wok.block hb hn).2
 rw [hs.wok.base]
 rcases this with h | h
 ·exact h
 ·exact absurd h.1 (by omega)
theorem zov [zah] (hs:SimE G E s a w) {k j v e sz:Nat} {fz:Bool} {p:List Nat} {c:List PV} (hj:InT k p j) (hjl:j < lent) (hr:E.R j = ⟨v,.sli e sz fz c⟩)
 {E2:Env} {lo2:Nat} {fr:Bool} (q1:E2.bare = (E.kill k p).bare) (q2:E2.L = (E.kill k p).L) (q3:E2.lo lo2 fr = E.B):Rep w E2 lo2 (.sl fr sz c) (E.rv j):=by
 have hl:=(hs.kill k p).2
 have hrow:=hs.wok.rows j
 unfold zat at hrow
 rw [hr] at hrow
 rcases hrow with ⟨_,h2,h3⟩ | ⟨b,n,cap,vs,rest,h1,h2,h3,h4,h5,h6,h7,h8,h9⟩
 ·subst h3
  rw [h2]
  exact .sl (fun _=>default) (by simp) (Nat.le_refl _) (Nat.zero_le _) (fun i hi=>absurd hi (by simp)) (fun i hi=>absurd hi (by simp))
 ·rw [h3]
  have hn:(E.R j).kind.nd = true:=by rw [hr];rfl
  refine .sl (fun i=>vs.getD i default) (by rw [h9.1,h5]) h6 h7 (fun i hi=>⟨b,0,rfl,?_,?_,?_⟩) (fun i hi=>?_)
  ·rw [q3];exact zwB hs hjl hn h1
  ·rw [q2];exact zou hs hj hn h1
  ·have hv:i < vs.length:=by rw [← h9.1];exact hi
   simp [World.cell?,h4,hv,List.getElem?_append,List.getD]
  ·have hv:i < vs.length:=by rw [← h9.1];exact hi
   have:=h9.2 i hi hv
   have e1:vs.getD i default = vs[i]:=by simp [List.getD,hv]
   rw [e1,q1,q3]
   exact this.mono hl.bare (Nat.le_refl _)
theorem zwC [zah] (k:Nat) (p:List Nat):(E.kill k p).lo 0 true = E.B:=Nat.zero_max _
theorem zx6 [zah] (hs:SimE G E s a w) {k j v e sz:Nat} {fz:Bool} {p:List Nat} {c:List PV} (hj:InT k p j) (hjl:j < lent) (hr:E.R j = ⟨v,.sli e sz fz c⟩):Rep w (E.kill k p) 0 (.sl true sz c) (E.rv j) :=
 zov hs hj hjl hr rfl rfl (zwC k p)
end
section
variable {s:St} {k v e e2 d:Nat} {q:List Nat} {M:Mat}
theorem Wk.flat [zah] (h:TabI s.rw k v e e2 q M) (hk:k < lent) (hq:∀ j ∈ q,sid k j < lent) (hd:s.sl d = .own k v):Wk s ((s.killed k q).put (some d) (.sl true 1 (M.map fun r=>.sl false 1 (iL r)))):=by
 intro G a w ⟨E,hs⟩
 obtain ⟨h1,hl⟩:=hs.kill k q
 have hr:E.R k = ⟨v,.tab e (zar k q)⟩:=by rw [hs.rw];exact h.top
 refine ⟨_,h1.rw,h1.wok,h1.size,h1.defers,fun i=>?_⟩
 by_cases hid:i = d
 ·subst hid
  rw [zax]
  have h0:=hs.slots i
  rw [hd] at h0
  cases h0 with
  | own hv hx =>
    rw [hx (by rw [hr]) (by rw [hr];rfl)]
    have hrow:=hs.wok.rows k
    unfold zat at hrow
    rw [hr] at hrow
    have hlen:=h.len
    rcases hrow with ⟨_,h2,h3⟩ | ⟨b,n,cap,vs,rest,h1,h2,h3,h4,h5,h6,h7,h8,h9⟩
    ·have hq0:q = []:=by simpa [zar] using h3
     have hM:M = []:=List.eq_nil_of_length_eq_zero (by rw [← hlen,hq0];rfl)
     rw [hM,h2]
     exact .sl (fun _=>default) (by simp) (Nat.le_refl _) (Nat.zero_le _) (fun i hi=>absurd hi (by simp)) (fun i hi=>absurd hi (by simp))
    ·rw [h3]
     have hn:(E.R k).kind.nd = true:=by rw [hr];rfl
     have hvl:vs.length = M.length:=by rw [← h9.1,zal,hlen]
     refine .sl (fun i=>vs.getD i default) (by simp;omega) h6 h7 (fun i hi=>⟨b,0,rfl,?_,zou hs (.inl rfl) hn h1,?_⟩) (fun i hi=>?_)
     ·show max 0 E.B ≤ b
      have:=zwB hs hk hn h1;omega
     ·have hv:i < vs.length:=by rw [hvl];simpa using hi
      simp [World.cell?,h4,hv,List.getElem?_append,List.getD]
     ·have hiM:i < M.length:=by simpa using hi
      have hv:i < vs.length:=by omega
      have hiq:i < q.length:=by omega
      have hc:=h9.2 i (by rw [zal];exact hiq) hv
      have e1:vs.getD i default = vs[i]:=by simp [List.getD,hv]
      rw [e1,List.getElem_map]
      have hrow:=h.row hiM
      have hqd:q.getD i 0 = q[i]:=by simp [List.getD,hiq]
      rw [hqd] at hrow
      have hrE:E.R (sid k q[i]) = ⟨1,.sli e2 1 false (iL (M.getD i []))⟩:=by rw [hs.rw];exact hrow
      have hMd:M.getD i [] = M[i]:=by simp [List.getD,hiM]
      have hc2:Rep w E 0 (.own (sid k q[i]) 1) vs[i]:=by simpa [zar] using hc
      cases hc2 with
      | own _ hx2 =>
        have hin:InT k q (sid k q[i]):=.inr ⟨q[i],List.getElem_mem hiq,rfl⟩
        rw [hx2 (by rw [hrE]) (by rw [hrE];rfl),← hMd]
        refine zov hs hin (hq _ (List.getElem_mem hiq)) hrE rfl rfl ?_
        show max ((E.kill k q).lo 0 true) 0 = E.B
        rw [zwC,Nat.max_zero]
 ·rw [zaO _ _ _ _ hid];exact h1.slots i
end
section
variable {s:St} {k j v e e2 d:Nat} {Q:AX→St→Prop}
end
end Go.Abs

/- DERIVED by an AI agent. Functions that put a slice that they are given behind a table that they are given. No program in sight. -/
namespace Go.Abs
set_option linter.unusedSimpArgs false
set_option linter.unusedVariables false
def zAn (e e2:Nat) (M:Mat) (r:List Int) (k:Nat):Row:=if k = 1000500 then ⟨1,.sli e2 1 false (iL r)⟩ else inT e e2 (M.map iL) k
def zr7 (e e2:Nat) (M:Mat) (r:List Int) (R1:Nat→Row) (p:PV):Prop :=
 ∃ v,p = .own 1000000 v∧R1 1000000 = ⟨v,.tab e (zar 1000000 (List.range M.length) ++ [.own 1000500 1])⟩∧R1 1000500 = ⟨1,.sli e2 1 false (iL r)⟩∧∀ i,i < M.length→R1 (sid 1000000 i) = ⟨1,.sli e2 1 false (iL (M.getD i []))⟩
def APu [zah] (P:Program) (f:FuncId) (args:List PV) (e e2:Nat) (M:Mat) (r:List Int):Prop:=AG P f args (zAn e e2 M r) (zr7 e e2 M r)
section
variable {e e2:Nat} {M:Mat} {r:List Int}
theorem zD3 [zah] (i:Nat):sid 1000000 i ≠ 1000500:=fun h=>by rw [zaT] at h;omega
theorem zx4 [zah]:zAn e e2 M r 1000000 = ⟨1,.tab e (zar 1000000 (List.range M.length))⟩:=by
 unfold zAn
 rw [if_neg (by decide)]
 have:=zbD (e:=e) (e2:=e2) (rows:=M.map iL)
 rw [List.length_map] at this
 exact this
theorem zx5 [zah] {i:Nat} (h:i < M.length):zAn e e2 M r (sid 1000000 i) = ⟨1,.sli e2 1 false (iL (M.getD i []))⟩:=by
 unfold zAn
 rw [if_neg (zD3 i),show sid 1000000 i = sid lent i from rfl,zcb (by rw [List.length_map];exact h),zb7]
theorem zDb:zAn e e2 M r 1000500 = ⟨1,.sli e2 1 false (iL r)⟩:=if_pos rfl
theorem APu.go [zah] {P:Program} {T:Tab} {f:FuncId} {fn:Func} {c:Code} {rs:List ResultVar} {args:List PV} (hT:T.Ok P) (hm:P.follows .mixedOrders = true) (hf:P.funcs[f]? = some fn) (hname:(fn.name == "runtime.NumGoroutine") = false)
 (hb:fn.body = some c) (hr:fn.results.toList = rs) (hfit:(fits fn.ntmps c && decide (args.length ≤ fn.ntmps) && decide (fn.results.toList.length ≤ 4)) = true)
 (h:zw6 args→∀ s:St,(∀ i,s.sl i = args.getD i .junk)→(∀ j,j < 1000000→s.rw j = ⟨0,.dead⟩)→s.rw 1000000 = ⟨1,.tab e (zar 1000000 (List.range M.length))⟩→s.rw 1000500 = ⟨1,.sli e2 1 false (iL r)⟩ →
  (∀ i,i < M.length→s.rw (sid 1000000 i) = ⟨1,.sli e2 1 false (iL (M.getD i []))⟩)→cwp P T c (zxq T rs (zr7 e e2 M r)) s):APu P f args e e2 M r:=by
 refine AG.go hT hm hf hname hb hr hfit fun hl _ s hs hR=>h hl s hs (fun j hj=>?_) (by rw [hR,zx4]) (by rw [hR,zDb]) fun i hi=>by rw [hR,zx5 hi]
 rw [hR]
 unfold zAn
 rw [if_neg (by omega)]
 exact zvH hj
end
end Go.Abs

/- DERIVED by an AI agent. A slice that a variable's cell stands for gets another number. No program in sight. -/
namespace Go.Abs
set_option linter.unusedSimpArgs false
set_option linter.unusedVariables false
section
variable {s:St} {j t v N e sz b vb tb o:Nat} {c cb cb':List PV} {Q:AX→St→Prop}
end
end Go.Abs

/- DERIVED by an AI agent. Loops at whose turn a table is written no more. No program in sight. -/
namespace Go.Abs
set_option linter.unusedSimpArgs false
set_option linter.unusedVariables false
section
variable {s:St} {k v e e2 d:Nat} {q:List Nat} {M:Mat} {Q:AX→St→Prop}
theorem zfK [zah] {R:Nat→Row} {j:Nat} (h:(j % 1000 == k % 1000) = false):zaI R k q j = R j:=by
 refine zbd fun hj=>beq_eq_false_iff_ne.1 h ?_
 rcases hj with rfl | ⟨x,_,rfl⟩
 ·rfl
 ·exact zaa _ _
end
theorem zaG (s:St) (d:Nat) (fr:Bool) (sz:Nat) (c:List PV):zam s d (.im (.sl fr sz c)) = s.put (some d) (.sl true sz c):=by
 unfold zam leaves zaJ za8 zd1;rfl
end Go.Abs

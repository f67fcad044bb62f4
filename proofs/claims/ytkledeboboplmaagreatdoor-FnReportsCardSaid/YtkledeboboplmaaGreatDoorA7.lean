/- DERIVED by an AI agent. -/
import Derived.Test.YtkledeboboplmaaGreatDoorA6
namespace Go.Abs
set_option linter.unusedSimpArgs false
inductive Tc where
 | ids (l:List Nat)
 | res (d:Nat)
def Tc.has:Tc->Nat->Bool
 | .ids l,k=>l.any fun a=>a % 1000 == k % 1000
 | .res d,k=>k % 1000 == d % 1000
structure Ent where
 rd:List Nat
 tc:Tc
def Ent.looks (e:Ent) (k:Nat):Bool:=e.rd.any fun a=>a % 1000 == k % 1000
theorem Tc.has_mod {t:Tc} {k k':Nat} (h:k % 1000 = k' % 1000):t.has k = t.has k':=by
 cases t with
 | ids l=>simp only [Tc.has,h]
 | res d=>simp only [Tc.has,h]
theorem zuD {l:List Nat} {k:Nat}:(Tc.ids l).has k = true ↔ ∃ a ∈ l,a % 1000 = k % 1000:=by
 simp only [Tc.has,List.any_eq_true,beq_iff_eq]
def zqi (o:Oper):Bool :=
 match o.op with
 | .move _=>true
 | .assign _=>true
 | .pick _ _ _=>true
 | .binOp _ _ _ _ _=>true
 | .unOp _ _ _=>true
 | .extract _ _=>true
 | .makeFunc _ _ _=>true
 | .field _ _ _=>true
 | .index _ _ _=>true
 | _=>false
def zEG (ops:Array Oper) (s:St) (o:Oper):Option Bool :=
 match o.guard with
 | none=>some true
 | some (j,want)=>match (ops[j]?).bind (·.dst) with | some d=>(match s.sl d with | .v (.bool b)=>some (b == want) | .v (.tuple _)=>some false | _=>none) | none=>none
def zuE (ops:Array Oper) (o:Oper):List Nat :=
 o.dst.toList ++ (o.op.operands.toList.filterMap fun | .tmp t=>some t | _=>none) ++ (match o.guard with | some (j,_)=>((ops[j]?).bind (·.dst)).toList | none=>[])
abbrev zMn:=Nat->Row
structure Stp where
 val:PV
 rows:zMn
 e:Ent
def St.step (s:St) (o:Oper) (x:Stp):St:=(St.mk s.sl x.rows).put o.dst x.val
def St.stepIn (s:St) (o:Oper) (x:Stp):St:=(St.mk s.sl fun k=>if x.e.tc.has k = true then x.rows k else s.rw k).put o.dst x.val
structure Local (ops:Array Oper) (o:Oper) (s s':St):Prop where
 ev:∀ x ∈ o.op.operands,s'.ev x = s.ev x
inductive StepOk [zae] (P:Program) (G:Ghost) (ops:Array Oper) (s:St) (o:Oper) (x:Stp):Prop
 | skip (hg:zEG ops s o = some false) (hp:x.val = .v undef) (hr:x.rows = s.rw) (ht:x.e.tc = .ids []):StepOk P G ops s o x
 | step (hg:zEG ops s o = some true) (hr:∀ k,x.e.tc.has k = false->x.rows k = s.rw k)
  (he:∀ s':St,(∀ k,x.e.looks k = true \/ x.e.tc.has k = true->s'.rw k = s.rw k)->(∀ y ∈ o.op.operands,s'.ev y = s.ev y)->za9 P G s' o (s'.stepIn o x)):StepOk P G ops s o x
inductive Tr [zae] (P:Program) (G:Ghost) (ops:Array Oper):List Oper->St->List Stp->St->Prop
 | nil (s:St):Tr P G ops [] s [] s
 | cons {o:Oper} {os:List Oper} {s s':St} {x:Stp} {l:List Stp} (h:StepOk P G ops s o x) (t:Tr P G ops os (s.step o x) l s'):Tr P G ops (o :: os) s (x :: l) s'
def zuF:List Oper->List Stp->St->Nat->St
 | o :: os,x :: l,s,i + 1=>zuF os l (s.step o x) i
 | _,_,s,_=>s
section
variable {P:Program} {T:Tab} {G:Ghost} {ops:Array Oper}
theorem zf9 (l:List Oper) (tr:List Stp) (s:St):zuF l tr s 0 = s:=by cases l <;> cases tr <;> rfl
theorem Tr.length [zae] {l:List Oper} {s s':St} {tr:List Stp} (h:Tr P G ops l s tr s'):tr.length = l.length:=by
 induction h with
 | nil=>rfl
 | cons _ _ ih=>simp [ih]
theorem Tr.last [zae] {l:List Oper} {s s':St} {tr:List Stp} (h:Tr P G ops l s tr s'):zuF l tr s l.length = s':=by
 induction h with
 | nil=>rfl
 | cons _ _ ih=>exact ih
theorem Tr.at [zae] {l:List Oper} {s s':St} {tr:List Stp} (h:Tr P G ops l s tr s'):∀ i (a:i < l.length) (b:i < tr.length),StepOk P G ops (zuF l tr s i) l[i] tr[i]/\zuF l tr s (i + 1) = (zuF l tr s i).step l[i] tr[i]:=by
 induction h with
 | nil=>intro i a;simp at a
 | cons h _ ih =>
   intro i a b
   cases i with
   | zero =>
     refine ⟨by rw [zf9];exact h,?_⟩
     rw [zf9]
     exact zf9 _ _ _
   | succ i =>
     exact ih i (by simpa using a) (by simpa using b)
def zbv:Nat->(Nat->Bool)->Option Nat
 | 0,_=>none
 | n + 1,p=>if p n = true then some n else zbv n p
theorem zcV:∀ (n:Nat) (p q:Nat->Bool),(∀ k,k < n->p k = q k)->zbv n p = zbv n q:=by
 intro n
 induction n with
 | zero=>intro p q _;rfl
 | succ n ih=>intro p q h;simp only [zbv];rw [h n om,ih p q fun k hk=>h k om]
theorem zmg [zae]:∀ (n i:Nat) (p q:Nat->Bool),i <= n->(∀ k,k < i->p k = q k)->(∀ k,i <= k->k < n->p k = false)->zbv n p = zbv i q:=by
 intro n
 induction n with
 | zero=>intro i p q h _ _;obtain rfl:i = 0:=om
         rfl
 | succ n ih =>
   intro i p q h h1 h2
   by_cases hi:i = n + 1
   ·subst hi;exact zcV _ _ _ h1
   ·simp only [zbv]
    rw [h2 n om om]
    exact ih i p q om h1 fun k a b=>h2 k a om
theorem zjU:∀ (n i:Nat) (p:Nat->Bool),i < n->p i = true->(∀ k,i < k->k < n->p k = false)->zbv n p = some i:=by
 intro n
 induction n with
 | zero=>intro i p h;omega
 | succ n ih =>
   intro i p h h1 h2
   by_cases hi:i = n
   ·subst hi;simp [zbv,h1]
   ·simp only [zbv]
    rw [h2 n om om]
    exact ih i p om h1 fun k a b=>h2 k a om
def zki (l:List Oper) (tr:List Stp) (s:St) (D:Nat->Bool) (t:Nat):PV :=
 match zbv l.length (fun k=>D k && ((l[k]?).bind (·.dst) == some t)) with
 | some k=>(tr[k]?.map (·.val)).getD .junk
 | none=>s.sl t
def zcG (tr:List Stp) (k j:Nat):Bool:=(tr[j]?.map fun x=>x.e.tc.has k).getD false
def zkj (l:List Oper) (tr:List Stp) (s:St) (D:Nat->Bool):zMn:=fun k =>
 match zbv l.length (fun j=>D j && zcG tr k j) with
 | some j=>(tr[j]?.map (fun x=>x.rows k)).getD (s.rw k)
 | none=>s.rw k
theorem zIH (s:St) (o:Oper) (x:Stp) (t:Nat):(s.step o x).sl t = if o.dst = some t then x.val else s.sl t:=by
 unfold St.step St.put
 cases h:o.dst with
 | none=>simp
 | some d =>
   simp only [Option.some.injEq]
   by_cases e:t = d
   ·subst e;simp
   ·rw [if_neg e,if_neg (fun h=>e h.symm)]
theorem zII (s:St) (o:Oper) (x:Stp):(s.step o x).rw = x.rows:=by unfold St.step St.put;cases o.dst <;> rfl
theorem Tr.slots [zae] {l:List Oper} {s s':St} {tr:List Stp} (h:Tr P G ops l s tr s') (t:Nat):∀ i,i <= l.length ->
 (zuF l tr s i).sl t = match zbv i (fun k=>(l[k]?).bind (·.dst) == some t) with | some k=>(tr[k]?.map (·.val)).getD .junk | none=>s.sl t:=by
 intro i
 induction i with
 | zero=>intro _;rw [zf9];rfl
 | succ i ih =>
   intro hi
   have hl:i < tr.length:=by rw [h.length];omega
   rw [(h.at i om hl).2,zIH]
   simp only [zbv]
   have e:l[i]? = some l[i]:=List.getElem?_eq_getElem om
   by_cases hd:l[i].dst = some t
   ·rw [if_pos hd,if_pos (by simp [e,hd])]
    simp [List.getElem?_eq_getElem hl]
   ·rw [if_neg hd,if_neg (by simp [e,hd])]
    exact ih om
theorem Tr.rows [zae] {l:List Oper} {s s':St} {tr:List Stp} (h:Tr P G ops l s tr s') (k:Nat):∀ i,i <= l.length ->
 (zuF l tr s i).rw k = match zbv i (zcG tr k) with | some j=>(tr[j]?.map (fun x=>x.rows k)).getD (s.rw k) | none=>s.rw k:=by
 intro i
 induction i with
 | zero=>intro _;rw [zf9];rfl
 | succ i ih =>
   intro hi
   have hl:i < tr.length:=by rw [h.length];omega
   obtain ⟨hok,hst⟩:=h.at i om hl
   rw [hst,zII]
   simp only [zbv]
   have e:tr[i]? = some tr[i]:=List.getElem?_eq_getElem hl
   by_cases hd:zcG tr k i = true
   ·rw [if_pos hd]
    simp [e]
   ·rw [if_neg hd,<- ih om]
    have hd':tr[i].e.tc.has k = false:=by simpa [zcG,e] using hd
    cases hok with
    | skip _ _ hr _=>rw [hr]
    | step _ hr _=>exact hr k hd'
end
def zbT (o:Oper):List Nat:=(o.after.toList.filter fun e=>Region.binds .any e).map (·.on)
def zhb (ms:List Nat):List Nat->Nat
 | []=>0
 | k :: ks=>2 ^ k ||| ms.getD k 0 ||| zhb ms ks
def znG:List Oper->List Nat->List Nat
 | [],ms=>ms
 | o :: os,ms=>znG os (ms ++ [zhb ms (zbT o)])
theorem zyU (ms:List Nat):∀ (ks:List Nat) (i:Nat),(zhb ms ks).testBit i = true->∃ k ∈ ks,i = k \/ (ms.getD k 0).testBit i = true:=by
 intro ks
 induction ks with
 | nil=>intro i h;simp [zhb] at h
 | cons k ks ih =>
   intro i h
   simp only [zhb,Nat.testBit_or,Bool.or_eq_true] at h
   rcases h with (h | h) | h
   ·exact ⟨k,sp,.inl (by rw [Nat.testBit_two_pow] at h;simp at h;exact h.symm)⟩
   ·exact ⟨k,sp,.inr h⟩
   ·obtain ⟨k',hk,h⟩:=ih i h
    exact ⟨k',by simp [hk],h⟩
def zMm (l:List Oper) (ms:List Nat) (n:Nat):Prop:=∀ j,j < n->∀ i,(ms.getD j 0).testBit i = true->∃ k ∈ (l[j]?.map zbT).getD [],i = k \/ (ms.getD k 0).testBit i = true
theorem zyV [zae] (l:List Oper):∀ (os pre:List Oper) (ms:List Nat),l = pre ++ os->ms.length = pre.length->zMm l ms pre.length->zMm l (znG os ms) l.length:=by
 intro os
 induction os with
 | nil=>intro pre ms h1 h2 h3;simp at h1;subst h1;exact h3
 | cons o os ih =>
   intro pre ms h1 h2 h3
   have hl:l[pre.length]? = some o:=by rw [h1];simp
   refine ih (pre ++ [o]) (ms ++ [zhb ms (zbT o)]) (by simp [h1]) (by simp [h2]) fun j hj i hb=>?_
   have keep:∀ k,(ms.getD k 0).testBit i = true->((ms ++ [zhb ms (zbT o)]).getD k 0).testBit i = true:=fun k hk=>by
    by_cases hlt:k < ms.length
    ·simpa [List.getD,List.getElem?_append_left hlt] using hk
    ·simp [List.getD,List.getElem?_eq_none (by omega:ms.length <= k)] at hk
   by_cases hlt:j < ms.length
   ·have hb':(ms.getD j 0).testBit i = true:=by simpa [List.getD,List.getElem?_append_left hlt] using hb
    obtain ⟨k,hk,h⟩:=h3 j om i hb'
    exact ⟨k,hk,h.imp id (keep k)⟩
   ·obtain rfl:j = pre.length:=by simp at hj;omega
    have hb':(zhb ms (zbT o)).testBit i = true:=by
     have:(ms ++ [zhb ms (zbT o)]).getD pre.length 0 = zhb ms (zbT o):=by
      rw [<- h2];simp [List.getD]
     rwa [this] at hb
    obtain ⟨k,hk,h⟩:=zyU ms _ i hb'
    exact ⟨k,by simpa [hl] using hk,h.imp id (keep k)⟩
def zqg (ops:Array Oper) (a b:Oper):Bool :=
 (match a.dst with | some t=>(zuE ops b).contains t | none=>false) || (match b.dst with | some t=>(zuE ops a).contains t | none=>false)
def zdi:Nat->(Nat->Bool)->Bool
 | 0,_=>true
 | n + 1,p=>p n && zdi n p
theorem ze5:∀ (n:Nat) (p:Nat->Bool),zdi n p = true->∀ k,k < n->p k = true:=by
 intro n
 induction n with
 | zero=>intro p _ k hk;omega
 | succ n ih =>
   intro p h k hk
   simp only [zdi,Bool.and_eq_true] at h
   by_cases e:k = n
   ·subst e;exact h.1
   ·exact ih p h.2 k om
def zhc:Tc->Tc->Bool
 | .ids l,t=>l.any t.has
 | .res d,.ids l=>l.any (Tc.res d).has
 | .res d,.res d'=>d % 1000 == d' % 1000
theorem zth [zae] {a b:Tc} {k:Nat} (h1:a.has k = true) (h2:b.has k = true):zhc a b = true:=by
 cases a with
 | ids l =>
   obtain ⟨x,hx,e⟩:=zuD.1 h1
   simp only [zhc,List.any_eq_true]
   exact ⟨x,hx,by rw [Tc.has_mod e];exact h2⟩
 | res d =>
   cases b with
   | ids l =>
     obtain ⟨x,hx,e⟩:=zuD.1 h2
     simp only [zhc,List.any_eq_true]
     exact ⟨x,hx,by rw [Tc.has_mod e];exact h1⟩
   | res d'=>simp only [zhc,Tc.has,beq_iff_eq] at h1 h2 ⊢;omega
def zo7 (a b:Ent):Bool:=a.rd.any b.tc.has || b.rd.any a.tc.has || zhc a.tc b.tc
theorem zIG [zae] {a b:Ent} {k:Nat} (h1:a.looks k = true \/ a.tc.has k = true) (h2:b.tc.has k = true):zo7 a b = true/\zo7 b a = true:=by
 unfold zo7
 rcases h1 with h1 | h1
 ·have:a.rd.any b.tc.has = true:=by
   unfold Ent.looks at h1
   simp only [List.any_eq_true,beq_iff_eq] at h1
   obtain ⟨x,hx,e⟩:=h1
   exact List.any_eq_true.2 ⟨x,hx,by rw [Tc.has_mod e];exact h2⟩
  simp [this]
 ·simp [zth h1 h2,zth h2 h1]
def znH (ops:Array Oper) (es:List Ent):Bool :=
 zdi es.length fun j=>zdi j fun i=>match es[i]?,es[j]? with
  | some a,some b=>!zo7 a b || ((znG ops.toList []).getD j 0).testBit i
  | _,_=>true
def zmf (ops:Array Oper):Bool :=
 zdi ops.size fun j=>match ops[j]? with
  | none=>true
  | some oj=>(zbT oj).all (· < j) && zdi j fun i=>match ops[i]? with
   | none=>true
   | some oi=>!zqg ops oi oj || ((znG ops.toList []).getD j 0).testBit i
section
variable {P:Program} {T:Tab} {G:Ghost} {ops:Array Oper}
structure Ordered (ops:Array Oper):Prop where
 low:∀ j oj,ops[j]? = some oj->∀ k ∈ zbT oj,k < j
 bef:∀ i j oi oj,i < j->ops[i]? = some oi->ops[j]? = some oj->zqg ops oi oj = true->((znG ops.toList []).getD j 0).testBit i = true
theorem zyW [zae] (h:zmf ops = true):Ordered ops:=by
 have key:∀ j oj,ops[j]? = some oj->((zbT oj).all (· < j) && zdi j fun i=>match ops[i]? with
  | none=>true
  | some oi=>!zqg ops oi oj || ((znG ops.toList []).getD j 0).testBit i) = true:=fun j oj hj=>by
  have hlt:j < ops.size:=(Array.getElem?_eq_some_iff.1 hj).1
  have:=ze5 _ _ h j hlt
  simpa only [hj] using this
 refine ⟨fun j oj hj k hk=>?_,fun i j oi oj hij hi hj hm=>?_⟩
 ·have:=key j oj hj
  simp only [Bool.and_eq_true,List.all_eq_true] at this
  simpa using this.1 k hk
 ·have:=key j oj hj
  simp only [Bool.and_eq_true] at this
  have:=ze5 _ _ this.2 i hij
  simp only [hi] at this
  simpa [hm] using this
def zCC (ops:Array Oper) (es:List Ent):Prop:=∀ (i j:Nat) (a b:Ent),i < j->es[i]? = some a->es[j]? = some b->zo7 a b = true->((znG ops.toList []).getD j 0).testBit i = true
theorem zFh [zae] {es:List Ent} (h:znH ops es = true):zCC ops es:=by
 intro i j a b hij hi hj hc
 have hlt:j < es.length:=(List.getElem?_eq_some_iff.1 hj).1
 have:=ze5 _ _ (ze5 _ _ h j hlt) i hij
 simp only [hi,hj,hc] at this
 simpa using this
def zo8 (ops:Array Oper) (D:Nat->Bool):Prop:=∀ j oj,ops[j]? = some oj->D j = true->∀ k ∈ zbT oj,D k = true
theorem zdO [zae] (ho:Ordered ops) {D:Nat->Bool} (hc:zo8 ops D):∀ (j:Nat) (oj:Oper),ops[j]? = some oj->(∀ k ∈ zbT oj,D k = true)->∀ i,((znG ops.toList []).getD j 0).testBit i = true->D i = true:=by
 intro j
 induction j using Nat.strongRecOn with
 | _ j ih =>
   intro oj hj hd i hb
   have hlt:j < ops.size:=(Array.getElem?_eq_some_iff.1 hj).1
   have hg:=zyV ops.toList ops.toList [] [] rfl rfl (fun j hj=>absurd hj sp) j (by simpa using hlt) i hb
   obtain ⟨k,hk,h⟩:=hg
   have hjl:ops.toList[j]? = some oj:=by simpa using hj
   rw [hjl] at hk
   simp at hk
   rcases h with rfl | h
   ·exact hd i hk
   ·have hkj:=ho.low j oj hj k hk
    have hks:k < ops.size:=om
    exact ih k hkj ops[k] (Array.getElem?_eq_getElem hks) (hc k ops[k] (Array.getElem?_eq_getElem hks) (hd k hk)) i h
def stD (ops:Array Oper) (tr:List Stp) (s:St) (D:Nat->Bool):St:=⟨zki ops.toList tr s D,zkj ops.toList tr s D⟩
variable {s s':St} {tr:List Stp}
theorem zo9 [zae] (ho:Ordered ops) (ht:Tr P G ops ops.toList s tr s') {D:Nat->Bool} (hc:zo8 ops D) {i:Nat} {o:Oper} (hi:ops[i]? = some o) (hD:D i = false) (hd:∀ k ∈ zbT o,D k = true)
 {t:Nat} (hn:t ∈ zuE ops o):zki ops.toList tr s D t = (zuF ops.toList tr s i).sl t:=by
 have hlt:i < ops.size:=(Array.getElem?_eq_some_iff.1 hi).1
 rw [ht.slots t i (by simp;omega)]
 unfold zki
 have e:zbv ops.toList.length (fun k=>D k && ((ops.toList[k]?).bind (·.dst) == some t)) = zbv i (fun k=>(ops.toList[k]?).bind (·.dst) == some t):=by
  refine zmg _ i _ _ (by simp;omega) (fun k hk=>?_) (fun k hk1 hk2=>?_)
  ·cases hb:((ops.toList[k]?).bind (·.dst) == some t) with
   | false=>simp
   | true =>
     have hks:k < ops.size:=om
     have hok:ops[k]? = some ops[k]:=Array.getElem?_eq_getElem hks
     have hdst:ops[k].dst = some t:=by simpa [hok] using hb
     have hm:zqg ops ops[k] o = true:=by simp [zqg,hdst,hn]
     have:=zdO ho hc i o hi hd k (ho.bef k i _ _ hk hok hi hm)
     simp [this]
  ·by_cases hb:((ops.toList[k]?).bind (·.dst) == some t) = true
   ·by_cases hki:k = i
    ·subst hki;simp [hD]
    ·have hks:k < ops.size:=by simpa using hk2
     have hok:ops[k]? = some ops[k]:=Array.getElem?_eq_getElem hks
     have hdst:ops[k].dst = some t:=by simpa [hok] using hb
     have hm:zqg ops o ops[k] = true:=by simp [zqg,hdst,hn]
     cases hDk:D k with
     | false=>simp
     | true =>
       have:=zdO ho hc k _ hok (hc k _ hok hDk) i (ho.bef i k _ _ om hi hok hm)
       rw [hD] at this;cases this
   ·rw [Bool.not_eq_true] at hb
    simp only [hb,Bool.and_false]
 rw [e]
theorem zqh [zae] (hl:zCC ops (tr.map (·.e))) {i j k:Nat} {x:Stp} (hx:tr[i]? = some x) (hk:x.e.looks k = true \/ x.e.tc.has k = true) (hj:zcG tr k j = true) :
 (j < i->((znG ops.toList []).getD i 0).testBit j = true)/\(i < j->((znG ops.toList []).getD j 0).testBit i = true):=by
 unfold zcG at hj
 cases hy:tr[j]? with
 | none=>rw [hy] at hj;cases hj
 | some y =>
   rw [hy] at hj
   obtain ⟨c1,c2⟩:=zIG hk (show y.e.tc.has k = true by simpa using hj)
   have e1:(tr.map (·.e))[i]? = some x.e:=by simp [hx]
   have e2:(tr.map (·.e))[j]? = some y.e:=by simp [hy]
   exact ⟨fun h=>hl j i _ _ h e2 e1 c2,fun h=>hl i j _ _ h e1 e2 c1⟩
theorem zyX [zae] (ho:Ordered ops) (hl:zCC ops (tr.map (·.e))) (ht:Tr P G ops ops.toList s tr s') {D:Nat->Bool} (hc:zo8 ops D) {i:Nat} {o:Oper} (hi:ops[i]? = some o) (hD:D i = false) (hd:∀ k ∈ zbT o,D k = true)
 {x:Stp} (hx:tr[i]? = some x) {k:Nat} (hk:x.e.looks k = true \/ x.e.tc.has k = true):zkj ops.toList tr s D k = (zuF ops.toList tr s i).rw k:=by
 have hlt:i < ops.size:=(Array.getElem?_eq_some_iff.1 hi).1
 rw [ht.rows k i (by simp;omega)]
 unfold zkj
 have e:zbv ops.toList.length (fun j=>D j && zcG tr k j) = zbv i (zcG tr k):=by
  refine zmg _ i _ _ (by simp;omega) (fun j hj=>?_) (fun j hj1 hj2=>?_)
  ·cases hb:zcG tr k j with
   | false=>simp
   | true =>
     have:=zdO ho hc i o hi hd j ((zqh hl hx hk hb).1 hj)
     simp [this]
  ·cases hb:zcG tr k j with
   | false=>simp
   | true =>
     by_cases hki:j = i
     ·subst hki;simp [hD]
     ·have hks:j < ops.size:=by simpa using hj2
      have hok:ops[j]? = some ops[j]:=Array.getElem?_eq_getElem hks
      cases hDk:D j with
      | false=>simp
      | true =>
        have:=zdO ho hc j _ hok (hc j _ hok hDk) i ((zqh hl hx hk hb).2 om)
        rw [hD] at this;cases this
 rw [e]
theorem zFi [zae] (ho:Ordered ops) (hl:zCC ops (tr.map (·.e))) {D:Nat->Bool} (hc:zo8 ops D) {i:Nat} {o:Oper} (hi:ops[i]? = some o) (hD:D i = false)
 {x:Stp} (hx:tr[i]? = some x) :
 stD ops tr s (fun k=>D k || k == i) = (stD ops tr s D).stepIn o x:=by
 have hlt:i < ops.size:=(Array.getElem?_eq_some_iff.1 hi).1
 have hil:ops.toList[i]? = some o:=by simpa using hi
 have e1:(stD ops tr s (fun k=>D k || k == i)).sl = ((stD ops tr s D).stepIn o x).sl:=by
  funext t
  have es:((stD ops tr s D).stepIn o x).sl t = if o.dst = some t then x.val else (stD ops tr s D).sl t:=by
   unfold St.stepIn St.put
   cases h:o.dst with
   | none=>simp
   | some d =>
     simp only [Option.some.injEq]
     by_cases e:t = d
     ·subst e;simp
     ·rw [if_neg e,if_neg (fun h=>e h.symm)]
  rw [es]
  by_cases hdst:o.dst = some t
  ·rw [if_pos hdst]
   show zki _ _ _ _ t = _
   unfold zki
   rw [zjU _ i _ (by simpa using hlt) (by simp [hil,hdst]) (fun k hk1 hk2=>?_)]
   ·simp [hx]
   ·have hk2':k < ops.size:=by simpa using hk2
    have hok:ops[k]? = some ops[k]:=Array.getElem?_eq_getElem hk2'
    have hne:(k == i) = false:=by simp;omega
    simp only [hne,Bool.or_false]
    cases hDk:D k with
    | false=>simp
    | true =>
      by_cases hd:ops[k].dst = some t
      ·have hm:zqg ops o ops[k] = true:=by simp [zqg,hdst,zuE,hd]
       have:=zdO ho hc k _ hok (hc k _ hok hDk) i (ho.bef i k _ _ hk1 hi hok hm)
       rw [hD] at this;cases this
      ·simp [hok,hd]
  ·rw [if_neg hdst]
   show zki _ _ _ _ t = zki _ _ _ D t
   unfold zki
   rw [zcV _ _ (fun k=>D k && ((ops.toList[k]?).bind (·.dst) == some t)) fun k hk=>?_]
   by_cases hki:k = i
   ·subst hki;simp [hil,hdst]
   ·have:(k == i) = false:=by simp [hki]
    simp [this]
 have e2:(stD ops tr s (fun k=>D k || k == i)).rw = ((stD ops tr s D).stepIn o x).rw:=by
  funext k
  have es:((stD ops tr s D).stepIn o x).rw k = if x.e.tc.has k = true then x.rows k else (stD ops tr s D).rw k:=by unfold St.stepIn St.put;cases o.dst <;> rfl
  rw [es]
  have hti:zcG tr k i = x.e.tc.has k:=by simp [zcG,hx]
  by_cases hw:x.e.tc.has k = true
  ·rw [if_pos hw]
   show zkj _ _ _ _ k = _
   unfold zkj
   rw [zjU _ i _ (by simpa using hlt) (by simp [hti,hw]) (fun j hk1 hk2=>?_)]
   ·simp [hx]
   ·have hk2':j < ops.size:=by simpa using hk2
    have hok:ops[j]? = some ops[j]:=Array.getElem?_eq_getElem hk2'
    have hne:(j == i) = false:=by simp;omega
    simp only [hne,Bool.or_false]
    cases hDk:D j with
    | false=>simp
    | true =>
      cases hb:zcG tr k j with
      | false=>simp
      | true =>
        have:=zdO ho hc j _ hok (hc j _ hok hDk) i ((zqh hl hx (.inr hw) hb).2 hk1)
        rw [hD] at this;cases this
  ·rw [if_neg hw]
   show zkj _ _ _ _ k = zkj _ _ _ D k
   unfold zkj
   rw [zcV _ _ (fun j=>D j && zcG tr k j) fun j hk=>?_]
   by_cases hki:j = i
   ·subst hki;simp [hti,hw]
   ·have:(j == i) = false:=by simp [hki]
    simp [this]
 cases hA:stD ops tr s (fun k=>D k || k == i) with
 | mk a b =>
   cases hB:(stD ops tr s D).stepIn o x with
   | mk c d =>
     rw [hA,hB] at e1 e2
     simp only at e1 e2
     rw [e1,e2]
end
section
variable {P:Program} {T:Tab} {G:Ghost} {ops:Array Oper}
theorem zhf.congr [zae] {s s1:St} {o:Oper} {p:PV} (h:zhf P G s o p) (hr:s1.rw = s.rw) (he:∀ x ∈ o.op.operands,s1.ev x = s.ev x):zhf P G s1 o p :=
 fun E a w hR hw hx K Q hK=>h E a w (hR.trans hr) hw (fun x hx'=>by rw [<- he x hx'];exact hx x hx') K Q hK
theorem zCz:∀ (l:List Bool) (i:Nat),l[i]? = some false->(l.set i true).count false + 1 = l.count false:=by
 intro l
 induction l with
 | nil=>intro i h;simp at h
 | cons x xs ih =>
   intro i h
   cases i with
   | zero=>simp at h;subst h;simp
   | succ i =>
     have:=ih i (by simpa using h)
     simp only [List.set_cons_succ,List.count_cons]
     omega
theorem zFg [zae] {s s':St} {tr:List Stp} (ho:Ordered ops) (ht:Tr P G ops ops.toList s tr s') {D:Nat->Bool} (hc:zo8 ops D) {i:Nat} {o:Oper} (hi:ops[i]? = some o) (hD:D i = false) (hd:∀ k ∈ zbT o,D k = true) :
 ∀ x ∈ o.op.operands,(stD ops tr s D).ev x = (zuF ops.toList tr s i).ev x:=by
 intro x hx
 cases x with
 | tmp t =>
   refine zo9 ho ht hc hi hD hd ?_
   simp only [zuE,List.mem_append,List.mem_filterMap]
   exact .inl (.inr ⟨.tmp t,by simpa using hx,rfl⟩)
 | const c=>rfl
 | func f=>rfl
 | global g=>rfl
theorem zIF [zae] {s s':St} {tr:List Stp} (ht:Tr P G ops ops.toList s tr s') {D:Nat->Bool} (hD:∀ k,k < ops.size->D k = true):stD ops tr s D = s':=by
 have hl:=ht.last
 rw [<- hl]
 unfold stD
 have e1:zki ops.toList tr s D = (zuF ops.toList tr s ops.toList.length).sl:=by
  funext t
  rw [ht.slots t _ (Nat.le_refl _)]
  unfold zki
  rw [zcV _ _ (fun k=>(ops.toList[k]?).bind (·.dst) == some t) fun k hk=>by rw [hD k (by simpa using hk)];simp]
 have e2:zkj ops.toList tr s D = (zuF ops.toList tr s ops.toList.length).rw:=by
  funext k
  rw [ht.rows k _ (Nat.le_refl _)]
  unfold zkj
  rw [zcV _ _ (zcG tr k) fun j hk=>by rw [hD j (by simpa using hk)];simp]
 rw [e1,e2]
theorem ztg {listed:Array Bool} {i:Nat} (h:i ∈ Region.ready .any ops listed):∃ o,ops[i]? = some o/\listed.getD i true = false/\∀ k ∈ zbT o,listed.getD k false = true:=by
 simp only [Region.ready,List.mem_filter,List.mem_range,Bool.and_eq_true,Bool.not_eq_true'] at h
 obtain ⟨hlt,h1,h2⟩:=h
 have hok:ops[i]? = some ops[i]:=Array.getElem?_eq_getElem hlt
 refine ⟨ops[i],hok,h1,fun k hk=>?_⟩
 rw [hok] at h2
 simp only [Option.map_some,Option.getD_some,Array.all_eq_true'] at h2
 simp only [zbT,List.mem_map,List.mem_filter] at hk
 obtain ⟨e,⟨he1,he2⟩,rfl⟩:=hk
 have:=h2 e (by simpa using he1)
 simpa [he2] using this
theorem zCA {listed:Array Bool} {i:Nat} {o:Oper} (hok:ops[i]? = some o) (h1:listed.getD i true = false) (h2:∀ k ∈ zbT o,listed.getD k false = true):i ∈ Region.ready .any ops listed:=by
 have hlt:i < ops.size:=(Array.getElem?_eq_some_iff.1 hok).1
 simp only [Region.ready,List.mem_filter,List.mem_range,Bool.and_eq_true,Bool.not_eq_true']
 refine ⟨hlt,h1,?_⟩
 rw [hok]
 simp only [Option.map_some,Option.getD_some,Array.all_eq_true']
 intro e he
 by_cases hb:Region.binds .any e = true
 ·have:=h2 e.on (by simp only [zbT,List.mem_map,List.mem_filter];exact ⟨e,⟨by simpa using he,hb⟩,rfl⟩)
  simp [this]
 ·simp [hb]
theorem zCB [zae] {s s':St} {tr:List Stp} (ho:Ordered ops) (hln:zCC ops (tr.map (·.e))) (ht:Tr P G ops ops.toList s tr s') (hdst:∀ o ∈ ops,∀ d,o.dst = some d->d < G.n) {Q:Exit->Act->World->Prop}
 (hQ:∀ a w,Sim G s' a w->Q .normal a w):∀ (fuel:Nat) (listed:Array Bool) (a:Act) (w:World),listed.size = ops.size->zo8 ops (fun k=>listed.getD k false) ->
  Sim G (stD ops tr s (fun k=>listed.getD k false)) a w->listed.toList.count false <= fuel->wpAny P .any ops Q fuel listed a w:=by
 have done:∀ (listed:Array Bool) (a:Act) (w:World),listed.size = ops.size->Sim G (stD ops tr s (fun k=>listed.getD k false)) a w->Region.ready .any ops listed = []->Q .normal a w:=by
  intro listed a w hsz hs hr
  refine hQ a w ?_
  rw [zIF ht] at hs
  ·exact hs
  ·intro k hk
   induction k using Nat.strongRecOn with
   | _ k ih =>
     cases hb:listed.getD k false with
     | true=>rfl
     | false =>
       have hok:ops[k]? = some ops[k]:=Array.getElem?_eq_getElem hk
       have hmem:=zCA (listed:=listed) hok (by
        rw [Array.getD_eq_getD_getElem?] at hb ⊢
        rw [Array.getElem?_eq_getElem om] at hb ⊢
        simpa using hb) fun j hj=>ih j (ho.low k _ hok j hj) (by have:=ho.low k _ hok j hj;omega)
       rw [hr] at hmem
       simp at hmem
 intro fuel
 induction fuel with
 | zero =>
   intro listed a w hsz hc hs hn
   have hall:∀ k,k < ops.size->listed.getD k true = true:=fun k hk=>by
    have hz:listed.toList.count false = 0:=om
    rw [List.count_eq_zero] at hz
    rw [Array.getD_eq_getD_getElem?,Array.getElem?_eq_getElem om]
    cases hb:listed[k] with
    | true=>rfl
    | false=>exact absurd (by rw [<- hb];simp) hz
   have hr:Region.ready .any ops listed = []:=by
    apply List.eq_nil_iff_forall_not_mem.2
    intro i hi
    obtain ⟨o,hok,h1,_⟩:=ztg hi
    have:=hall i (Array.getElem?_eq_some_iff.1 hok).1
    rw [h1] at this;cases this
   exact ⟨hr,done listed a w hsz hs hr⟩
 | succ fuel ih =>
   intro listed a w hsz hc hs hn
   refine ⟨done listed a w hsz hs,fun i hi=>?_⟩
   obtain ⟨o,hok,h1,hd⟩:=ztg hi
   have hlt:i < ops.size:=(Array.getElem?_eq_some_iff.1 hok).1
   have hD:listed.getD i false = false:=by
    rw [Array.getD_eq_getD_getElem?,Array.getElem?_eq_getElem om] at h1 ⊢
    simpa using h1
   have hil:i < ops.toList.length:=by simpa using hlt
   have hit:i < tr.length:=by rw [ht.length];exact hil
   obtain ⟨hok1,_⟩:=ht.at i hil hit
   have hoi:ops.toList[i] = o:=by have:=hok;rw [Array.getElem?_eq_getElem hlt] at this;simpa using this
   rw [hoi] at hok1
   have hx:tr[i]? = some tr[i]:=List.getElem?_eq_getElem hit
   have hev:=zFg ho ht hc hok hD hd
   have hrw:∀ k,tr[i].e.looks k = true \/ tr[i].e.tc.has k = true->(stD ops tr s fun k=>listed.getD k false).rw k = (zuF ops.toList tr s i).rw k:=fun k hk=>zyX ho hln ht hc hok hD hd hx hk
   have hdo:∀ d,o.dst = some d->d < G.n:=hdst o (by rw [<- hoi];simp)
   have hlist:(fun k=>(listed.setIfInBounds i true).getD k false) = fun k=>listed.getD k false || k == i:=by
    funext k
    rw [Array.getD_eq_getD_getElem?,Array.getD_eq_getD_getElem?,Array.getElem?_setIfInBounds]
    by_cases hk:i = k
    ·subst hk
     rw [if_pos rfl,if_pos om];simp
    ·rw [if_neg hk]
     have:(k == i) = false:=by simp;exact fun e=>hk e.symm
     simp [this]
   have next:∀ (a':Act) (w':World),Sim G (stD ops tr s fun k=>listed.getD k false || k == i) a' w'->wpAny P .any ops Q fuel (listed.setIfInBounds i true) a' w':=fun a' w' hs'=>by
    refine ih _ a' w' (by simpa using hsz) ?_ (by rw [hlist];exact hs') ?_
    ·rw [hlist]
     intro j oj hj hDj k hk
     simp only [Bool.or_eq_true,beq_iff_eq] at hDj ⊢
     rcases hDj with hDj | rfl
     ·exact .inl (hc j oj hj hDj k hk)
     ·rw [hok] at hj;cases hj;exact .inl (hd k hk)
    ·have:=zCz listed.toList i (by
      rw [Array.getElem?_toList,Array.getElem?_eq_getElem om]
      rw [Array.getD_eq_getD_getElem?,Array.getElem?_eq_getElem om] at hD
      simpa using hD)
     simp only [Array.toList_setIfInBounds]
     omega
   have hdone:=zFi (tr:=tr) (s:=s) ho hln hc hok hD hx
   unfold wpOp
   simp only [hok]
   have hgv:∀ b,zEG ops (zuF ops.toList tr s i) o = some b->Region.wanted o (yielded ops a.tmps) = b:=fun b hg=>by
    unfold zEG at hg
    cases hgd:o.guard with
    | none=>simp only [hgd] at hg;simp at hg;subst hg;simp [Region.wanted,hgd]
    | some jw =>
      obtain ⟨j,want⟩:=jw
      simp only [hgd] at hg
      split at hg
      ·rename_i d hdj
       have hn:d ∈ zuE ops o:=by simp [zuE,hgd,hdj]
       have hsl:=zo9 ho ht hc hok hD hd hn
       split at hg
       ·rename_i bb hbb
        rw [hbb] at hsl
        obtain ⟨E,hsE⟩:=hs
        have hval:=hsE.slots d
        have hval':a.tmps.getD d undef = .bool bb:=by
         have hh:(stD ops tr s fun k=>listed.getD k false).sl d = .v (.bool bb):=hsl
         rw [hh] at hval;exact hval.v_eq
        have hy:yielded ops a.tmps j = some bb:=by
         have hsz':a.tmps[d]? = some (.bool bb):=by
          rw [Array.getD_eq_getD_getElem?] at hval'
          cases h:a.tmps[d]? with
          | none=>rw [h] at hval';simp [undef] at hval'
          | some x=>rw [h] at hval';simp at hval';rw [hval']
         simp [yielded,hdj,hsz']
        simp at hg
        simp [Region.wanted,hgd,hy,hg]
       ·rename_i cs hbb
        rw [hbb] at hsl
        obtain ⟨E,hsE⟩:=hs
        have hval:=hsE.slots d
        have hval':a.tmps.getD d undef = .tuple cs:=by
         have hh:(stD ops tr s fun k=>listed.getD k false).sl d = .v (.tuple cs):=hsl
         rw [hh] at hval;exact hval.v_eq
        simp at hg
        subst hg
        simp [Region.wanted,hgd,zip hdj hval']
       ·cases hg
      ·cases hg
   cases hok1 with
   | skip hg hp hr htc =>
     rw [hgv false hg]
     simp only [Bool.false_eq_true,if_false]
     refine next _ _ ?_
     rw [hdone]
     have h0:=zqj (dst:=o.dst) hdo hs
     have e:(stD ops tr s fun k=>listed.getD k false).stepIn o tr[i] = (stD ops tr s fun k=>listed.getD k false).put o.dst (.v undef):=by
      unfold St.stepIn
      rw [hp,htc]
      simp only [Tc.has,List.any_nil,Bool.false_eq_true,if_false]
     rw [e];exact h0
   | step hg hr he =>
     rw [hgv true hg]
     rw [if_pos rfl]
     refine .inl ?_
     refine he (stD ops tr s fun k=>listed.getD k false) hrw hev a w hs _ _ fun a' w' hs'=>next a' w' ?_
     rw [hdone]
     exact hs'
end
set_option linter.unusedVariables false
theorem zau (s:St) (d:Nat) (p:PV):(s.put (some d) p).sl d = p:=by simp [St.put]
theorem zaG (s:St) (d t:Nat) (p:PV) (h:t ≠ d):(s.put (some d) p).sl t = s.sl t:=by simp [St.put,h]
def zxQ (e:Nat) (head:List PV) (k:Nat):Row:=if k = 1000000 then ⟨1,.sli e 1 false head⟩ else ⟨0,.dead⟩
theorem zf8 (e:Nat) (head:List PV):zxQ e head 1000000 = ⟨1,.sli e 1 false head⟩:=if_pos rfl
theorem zmd (e:Nat) (head:List PV) {k:Nat} (h:¬ k = 1000000):zxQ e head k = ⟨0,.dead⟩:=if_neg h
def zNC (e:Nat) (out:List PV) (ok:Bool) (R1:Nat->Row) (p:PV):Prop:=∃ k v,(k = 1000000 \/ k < 1000000)/\p = .tup [.own k v,.v (.bool ok)]/\R1 k = ⟨v,.sli e 1 false out⟩
def AF [zae] (P:Program) (f:FuncId) (pre head:List PV) (e:Nat) (out:List PV) (ok:Bool):Prop:=AG P f (pre ++ [.own 1000000 1]) (zxQ e head) (zNC e out ok)
def zID (pre pre':List PV):Prop:=∀ (rho:Nat->Option Nat) (Ln:Nat->Prop) (R0 R:Nat->Row),GvL rho Ln R0 R pre pre'
theorem GvL.app {rho:Nat->Option Nat} {Ln:Nat->Prop} {R0 R:Nat->Row} {c d:List PV} (t:GvL rho Ln R0 R c d):∀ {a b:List PV},GvL rho Ln R0 R a b->GvL rho Ln R0 R (a ++ c) (b ++ d)
 | _,_,.nil=>t
 | _,_,.one h r=>.one h (GvL.app t r)
 | _,_,.ag h r=>.ag h (GvL.app t r)
 | _,_,.clo h r=>.clo h (GvL.app t r)
theorem zte (rho:Nat->Option Nat) (R1:Nat->Row) (nv:Nat->Nat) (nl:Bool) (k v:Nat) (x:Value):zC1 rho R1 nv nl (.tup [.own k v,.v x]) = .tup [ztz rho R1 nv nl (.own k v),.v x]:=rfl
theorem ztf {j d k a i:Nat} (h:(if a = 1000000 then some j else if a = k then some d else none) = some i):(a = 1000000/\i = j) \/ (a ≠ 1000000/\a = k/\i = d):=by
 by_cases ha:a = 1000000
 ·rw [if_pos ha] at h;exact .inl ⟨ha,(Option.some.inj h).symm⟩
 ·rw [if_neg ha] at h
  by_cases hb:a = k
  ·rw [if_pos hb] at h;exact .inr ⟨ha,hb,(Option.some.inj h).symm⟩
  ·rw [if_neg hb] at h;cases h
theorem zIE [zae] {j d k a b i:Nat} (hdj:d ≠ j) (h1:(if a = 1000000 then some j else if a = k then some d else none) = some i) (h2:(if b = 1000000 then some j else if b = k then some d else none) = some i):a = b:=by
 rcases ztf h1 with ⟨a1,a2⟩ | ⟨a1,a2,a3⟩ <;> rcases ztf h2 with ⟨b1,b2⟩ | ⟨b1,b2,b3⟩ <;> omega
theorem zme {j a i:Nat} (h:(if a = 1000000 then some j else none) = some i):a = 1000000/\i = j:=by
 by_cases ha:a = 1000000
 ·rw [if_pos ha] at h;exact ⟨ha,(Option.some.inj h).symm⟩
 ·rw [if_neg ha] at h;cases h
theorem AF.askG [zae] {P:Program} {s:St} {K:St->Prop} {f:FuncId} {pre pre' head out:List PV} {e:Nat} {ok:Bool} {j vj d dst:Nat} (h:AF P f pre head e out ok)
 (hq:∀ (rho:Nat->Option Nat) (R0:Nat->Row),GvL rho (fun i=>i ≠ j) R0 s.rw pre pre') (hj:s.rw j = ⟨vj,.sli e 1 false head⟩) (hp:zbs head) (hdj:d ≠ j)
 (hk:∀ (S:St) (v r:Nat),((r = j/\(v = vj \/ v = vj + 1)/\S.rw d = s.rw d) \/ (r = d/\v = (s.rw d).ver + 1/\(S.rw j).ver <= vj + 1))->S.sl = (s.put (some dst) (.tup [.own r v,.v (.bool ok)])).sl->S.rw r = ⟨v,.sli e 1 false out⟩->(∀ i,i ≠ j->i ≠ d->S.rw i = s.rw i)->K S) :
 askG P s f (pre' ++ [.own j vj]) (some dst) K:=by
 have h0:=zf8 e head
 have hnd:∀ k,(zxQ e head k).kind.nd = true->k = 1000000:=fun k hk=>by
  by_cases h:k = 1000000
  ·exact h
  ·rw [zmd e head h] at hk;cases hk
 have rho_at:(fun k:Nat=>if k = 1000000 then some j else none) 1000000 = some j:=if_pos rfl
 refine ⟨_,_,_,(fun k=>if k = 1000000 then some j else none),(fun i=>i ≠ j),h,((GvL.one ?_ .nil).app (hq _ _)),⟨fun k hk=>?_,fun k k' i h1 h2 _ _=>by rw [hnd k h1,hnd k' h2],fun k i hk hi=>?_⟩,fun R1 p hpost=>?_⟩
 ·exact .own rho_at (by rw [h0]) (by rw [hj]) (by rw [h0];rfl)
 ·have:=hnd k hk;subst this
  refine ⟨Nat.le_refl _,by rw [h0];exact Nat.one_pos,j,rho_at,?_⟩
  rw [h0,hj]
  exact ⟨rfl,rfl,rfl,hp⟩
 ·have:=hnd k hk;subst this
  have hi:some j = some i:=rho_at.symm.trans hi
  cases hi
  exact fun h=>h rfl
 ·obtain ⟨k,v,hk0,rfl,hr⟩:=hpost
  have hvk:(v == (R1 k).ver) = true:=by rw [hr];simp
  rcases hk0 with rfl | hlt
  ·refine ⟨fun k=>if k = 1000000 then some j else none,fun _=>if v = 1 then vj else vj + 1,false,⟨fun _ _=>rfl,fun a b i h1 h2=>?_,fun a i h1 h2 h3=>?_,fun a i h1 h2=>?_,fun h=>by cases h⟩,fun S hS=>?_⟩
   ·rw [(zme h1).1,(zme h2).1]
   ·have:=hnd a h2;subst this
    have hi:some j = some i:=rho_at.symm.trans h1
    cases hi
    rw [h0,hr] at h3
    have h3:v = 1:=h3
    rw [if_pos h3,hj]
   ·by_cases ha:a = 1000000
    ·subst ha
     have hi:some j = some i:=rho_at.symm.trans h1
     cases hi
     have:=h2 (by rw [h0];rfl)
     rw [h0,hr] at this
     have h3:¬ v = 1:=this
     rw [if_neg h3,hj];exact Nat.lt_succ_self _
    ·simp [ha] at h1
   ·have hrow:=hS.row 1000000 j rho_at
    rw [hr] at hrow
    refine hk S _ j (.inl ⟨rfl,?_,hS.off d fun a ha=>?_⟩) ?_ hrow (fun i hij _=>hS.off i fun a ha=>?_)
    ·by_cases h3:v = 1
     ·rw [if_pos h3];exact .inl rfl
     ·rw [if_neg h3];exact .inr rfl
    ·exact hdj (zme ha).2
    ·rw [hS.sl,zte,zek,hvk]
     simp only [if_pos]
    ·by_cases h:a = 1000000
     ·simp only [if_pos h] at ha;exact hij (Option.some.inj ha).symm
     ·simp only [if_neg h] at ha;cases ha
  ·have hkn:¬ k = 1000000:=om
   refine ⟨fun i=>if i = 1000000 then some j else if i = k then some d else none,fun i=>if i = 1000000 then (if (R1 1000000).ver = 1 then vj else vj + 1) else (s.rw d).ver + 1,false,
    ⟨fun a ha=>?_,fun a b i h1 h2=>?_,fun a i h1 h2 h3=>?_,fun a i h1 h2=>?_,fun h=>by cases h⟩,fun S hS=>?_⟩
   ·have:=hnd a ha;subst this;rfl
   ·exact zIE hdj h1 h2
   ·have:=hnd a h2;subst this
    simp only [if_true] at h1
    cases h1
    rw [h0] at h3
    have h3:(R1 1000000).ver = 1:=h3
    simp only [if_true,if_pos h3,hj]
   ·by_cases ha:a = 1000000
    ·subst ha
     simp only [if_true] at h1
     cases h1
     have:=h2 (by rw [h0];rfl)
     rw [h0] at this
     have h3:¬ (R1 1000000).ver = 1:=this
     simp only [if_true,if_neg h3,hj];exact Nat.lt_succ_self _
    ·by_cases ha2:a = k
     ·simp only [if_neg ha,if_pos ha2] at h1
      cases h1
      simp only [if_neg ha];exact Nat.lt_succ_self _
     ·simp [ha,ha2] at h1
   ·have hrow:=hS.row k d (by simp [hkn])
    rw [hr] at hrow
    simp only [if_neg hkn] at hrow
    refine hk S _ d (.inr ⟨rfl,rfl,?_⟩) ?_ hrow (fun i hij hid=>hS.off i fun a ha=>?_)
    ·have:=hS.row 1000000 j (if_pos rfl)
     rw [this]
     show (if (1000000:Nat) = 1000000 then (if (R1 1000000).ver = 1 then vj else vj + 1) else (s.rw d).ver + 1) <= vj + 1
     rw [if_pos rfl];split <;> omega
    ·rw [hS.sl,zte,zek,hvk]
     simp only [if_neg hkn,if_true]
    ·by_cases h:a = 1000000
     ·simp only [if_pos h] at ha;exact hij (Option.some.inj ha).symm
     ·by_cases h2:a = k
      ·simp only [if_neg h,if_pos h2] at ha;exact hid (Option.some.inj ha).symm
      ·simp only [if_neg h,if_neg h2] at ha;cases ha
theorem Wk.moveP [zae] {s:St} {j t v N M e sz d:Nat} {c:List PV} {p p':PV} (hd:s.rw j = ⟨v,.sli e sz false c⟩) (hjt:j ≠ t) (hjl:j < lent) (hN:(s.rw t).ver < N) (hM:v <= M) (hsl:s.sl d = p)
 (hp:∀ (w:World) (E E':Env) (y:Value),E.R j = ⟨v,.sli e sz false c⟩->E'.R t = ⟨N,.sli e sz false c⟩->E'.rv t = E.rv j->Lasts w w E E'->Rep w E 0 p y->Rep w E' 0 p' y) :
 Wk s (((s.row j ⟨M,.dead⟩).row t ⟨N,.sli e sz false c⟩).put (some d) p'):=by
 intro G a w ⟨E,hs⟩
 have hRd:E.R j = ⟨v,.sli e sz false c⟩:=by rw [hs.rw];exact hd
 have hRt:(E.R t).ver < N:=by rw [hs.rw];exact hN
 let R':Nat->Row:=zcR (zcR E.R j ⟨M,.dead⟩) t ⟨N,.sli e sz false c⟩
 let rm':Nat->Option Nat:=zcR (zcR E.rm j none) t (E.rm j)
 let rv':Nat->Value:=zcR E.rv t (E.rv j)
 let E':Env:={ R:=R',rm:=rm',rv:=rv',L:=mkL E.X R' rm',B:=E.B,X:=E.X }
 have Rt:E'.R t = ⟨N,.sli e sz false c⟩:=zaf _ _ _
 have Rj:E'.R j = ⟨M,.dead⟩:=by show R' j = _;simp only [R'];rw [zam _ _ hjt,zaf]
 have Ro:∀ i,i ≠ j->i ≠ t->E'.R i = E.R i:=fun i h1 h2=>by show R' i = _;simp only [R'];rw [zam _ _ h2,zam _ _ h1]
 have Mt:E'.rm t = E.rm j:=zaf _ _ _
 have Mj:E'.rm j = none:=by show rm' j = _;simp only [rm'];rw [zam _ _ hjt,zaf]
 have Mo:∀ i,i ≠ j->i ≠ t->E'.rm i = E.rm i:=fun i h1 h2=>by show rm' i = _;simp only [rm'];rw [zam _ _ h2,zam _ _ h1]
 have Vt:E'.rv t = E.rv j:=zaf _ _ _
 have Vo:∀ i,i ≠ t->E'.rv i = E.rv i:=fun i h=>zam _ _ h
 have hL:∀ b,E'.L b->E.L b:=by
  intro b h
  rw [hs.wok.live]
  rcases h with ⟨i,h1,h2⟩ | hX
  rotate_left
  ·exact .inr hX
  refine .inl ?_
  have h1:E'.rm i = some b:=h1
  have h2:(E'.R i).kind.live = true:=h2
  by_cases it:i = t
  ·subst it;rw [Mt] at h1;exact ⟨j,h1,by rw [hRd];rfl⟩
  ·by_cases ij:i = j
   ·subst ij;rw [Mj] at h1;cases h1
   ·rw [Mo i ij it] at h1;rw [Ro i ij it] at h2;exact ⟨i,h1,h2⟩
 have hl:Lasts w w E E':=by
  refine ⟨fun b _ h=>⟨rfl,fun h'=>h (hL b h')⟩,fun i=>?_,fun i he hs'=>?_,fun i he hs'=>?_,Nat.le_refl _⟩
  all_goals
   by_cases it:i = t
   ·subst it
    first
     | (rw [Rt];exact Nat.le_of_lt hRt)
     | (rw [Rt] at he;have he:N = (E.R i).ver:=he;omega)
   ·by_cases ij:i = j
    ·subst ij
     first
      | (rw [Rj,hRd];exact hM)
      | (rw [Rj] at hs';cases hs')
    ·first
      | (rw [Ro i ij it];exact Nat.le_refl _)
      | (rw [Ro i ij it] at hs';exact ⟨hs',Vo i it⟩)
      | (rw [Ro i ij it] at hs';exact ⟨hs',Mo i ij it⟩)
 have hwok:WOk G E' w:=by
  refine ⟨fun i=>?_,fun i i' b n1 n2 e1 e2=>?_,fun b=>Iff.rfl,fun i hn=>?_,hs.wok.base,hs.wok.xs,hs.wok.fx,fun i b hn hb=>?_,hs.wok.kept,fun i=>?_⟩
  ·by_cases it:i = t
   ·subst it
    have hrow:=hs.wok.rows j
    unfold zav at hrow ⊢
    rw [hRd] at hrow
    rw [Rt,Mt,Vt]
    rcases hrow with h | ⟨b,n,cap,vs,rest,h1,h2,h3,h4,h5,h6,h7,h8,h9⟩
    ·exact .inl h
    ·refine .inr ⟨b,n,cap,vs,rest,h1,?_,h3,h4,h5,h6,h7,h8,h9.mono hl.bare (Nat.le_refl _)⟩
     rcases h2 with h2 | h2
     ·exact .inl h2
     ·exact absurd h2.1 om
   ·by_cases ij:i = j
    ·subst ij;unfold zav;rw [Rj];trivial
    ·have hrow:=hs.wok.rows i
     unfold zav at hrow ⊢
     rw [Ro i ij it,Mo i ij it,Vo i it]
     cases hkd:(E.R i).kind with
     | mp f=>simpa only [hkd] using hrow
     | dead=>trivial
     | nil=>simpa only [hkd] using hrow
     | box t cells =>
       simp only [hkd] at hrow ⊢
       obtain ⟨b,vs,h1,h2,h3,h4⟩:=hrow
       exact ⟨b,vs,h1,h2,h3,h4.mono hl (Nat.le_refl _)⟩
     | sli e sz fz cells =>
       simp only [hkd] at hrow ⊢
       rcases hrow with h | ⟨b,n,cap,vs,rest,h1,h2,h3,h4,h5,h6,h7,h8,h9⟩
       ·exact .inl h
       ·exact .inr ⟨b,n,cap,vs,rest,h1,h2,h3,h4,h5,h6,h7,h8,h9.mono hl.bare (Nat.le_refl _)⟩
     | tab e cells =>
       simp only [hkd] at hrow ⊢
       rcases hrow with h | ⟨b,n,cap,vs,rest,h1,h2,h3,h4,h5,h6,h7,h8,h9⟩
       ·exact .inl h
       ·exact .inr ⟨b,n,cap,vs,rest,h1,h2,h3,h4,h5,h6,h7,h8,h9.mono hl (Nat.le_refl _)⟩
  ·have back:∀ i b,(E'.R i).kind.nd = true->E'.rm i = some b->(E.R (if i = t then j else i)).kind.nd = true/\E.rm (if i = t then j else i) = some b/\i ≠ j:=by
    intro i b hn hm
    by_cases it:i = t
    ·subst it;rw [if_pos rfl];rw [Mt] at hm;exact ⟨by rw [hRd];rfl,hm,Ne.symm hjt⟩
    ·rw [if_neg it]
     have ij:i ≠ j:=fun e=>by subst e;rw [Mj] at hm;cases hm
     rw [Mo i ij it] at hm
     exact ⟨by rw [<- Ro i ij it];exact hn,hm,ij⟩
   obtain ⟨a1,a2,a3⟩:=back i b n1 e1
   obtain ⟨b1,b2,b3⟩:=back i' b n2 e2
   have:=hs.wok.inj _ _ b a1 b1 a2 b2
   by_cases it:i = t
   ·by_cases it2:i' = t
    ·rw [it,it2]
    ·rw [if_pos it,if_neg it2] at this;exact absurd this.symm b3
   ·by_cases it2:i' = t
    ·rw [if_neg it,if_pos it2] at this;exact absurd this a3
    ·rw [if_neg it,if_neg it2] at this;exact this
  ·by_cases it:i = t
   ·subst it;rw [Rt];exact Nat.lt_of_le_of_lt (Nat.zero_le _) hRt
   ·by_cases ij:i = j
    ·subst ij;rw [Rj] at hn;cases hn
    ·rw [Ro i ij it] at hn ⊢;exact hs.wok.pos i hn
  ·by_cases it:i = t
   ·subst it;rw [Mt] at hb;exact hs.wok.apart j b (by rw [hRd];rfl) hb
   ·by_cases ij:i = j
    ·subst ij;rw [Mj] at hb;cases hb
    ·rw [Mo i ij it] at hb;rw [Ro i ij it] at hn;exact hs.wok.apart i b hn hb
  ·obtain ⟨p1,p2⟩:=hs.wok.pin i
   by_cases it:i = t
   ·subst it
    rw [Rt]
    exact ⟨Nat.le_trans p1 (Nat.le_of_lt hRt),fun h=>by have h:N = (G.pR i).ver:=h;omega⟩
   ·by_cases ij:i = j
    ·subst ij
     rw [Rj]
     rw [hRd] at p1
     exact ⟨Nat.le_trans p1 hM,fun h h'=>by cases h'⟩
    ·rw [Ro i ij it,Mo i ij it,Vo i it];exact ⟨p1,p2⟩
 refine ⟨E',?_,hwok,hs.size,hs.defers,fun i=>?_⟩
 ·show R' = _
  simp only [R',hs.rw]
  rfl
 ·by_cases hid:i = d
  ·subst hid
   rw [zau]
   have h:=hs.slots i
   rw [hsl] at h
   exact hp w E E' _ hRd Rt Vt hl h
  ·rw [zaG _ _ _ _ hid]
   exact (hs.slots i).mono hl (Nat.le_refl _)
theorem zCy [zae] {w:World} {E E':Env} {j t v N e sz:Nat} {c:List PV} {y:Value} (h1:E.R j = ⟨v,.sli e sz false c⟩) (h2:E'.R t = ⟨N,.sli e sz false c⟩) (h3:E'.rv t = E.rv j) (h:Rep w E 0 (.own j v) y):Rep w E' 0 (.own t N) y:=by
 cases h with
 | own hv hx =>
   refine .own (by rw [h2];exact Nat.le_refl _) fun _ _=>?_
   rw [h3]
   exact hx (by rw [h1]) (by rw [h1];rfl)
theorem Wk.move [zae] {s:St} {j t v N M e sz d:Nat} {c:List PV} {x:Value} (hd:s.rw j = ⟨v,.sli e sz false c⟩) (hjt:j ≠ t) (hjl:j < lent) (hN:(s.rw t).ver < N) (hM:v <= M) (hsl:s.sl d = .tup [.own j v,.v x]) :
 Wk s (((s.row j ⟨M,.dead⟩).row t ⟨N,.sli e sz false c⟩).put (some d) (.tup [.own t N,.v x])):=by
 refine Wk.moveP hd hjt hjl hN hM hsl fun w E E' y h1 h2 h3 hl h=>?_
 cases h with
 | @tup _ _ _ vs hl2 hh =>
   refine .tup hl2 fun k a b=>?_
   have hk:=hh k (by simpa using a) b
   rcases k with _ | _ | k
   ·exact zCy h1 h2 h3 hk
   ·exact hk.mono hl (Nat.le_refl _)
   ·exact absurd a sp
theorem Wk.killAt [zae] {s:St} {j M:Nat} (hM:(s.rw j).ver <= M):Wk s (s.row j ⟨M,.dead⟩):=by
 intro G a w ⟨E,hs⟩
 have hRj:(E.R j).ver <= M:=by rw [hs.rw];exact hM
 have Rj:zcR E.R j ⟨M,.dead⟩ j = ⟨M,.dead⟩:=zaf _ _ _
 have Ro:∀ i,i ≠ j->zcR E.R j ⟨M,.dead⟩ i = E.R i:=fun i h=>zam _ _ h
 have ht:Turn G E { R:=zcR E.R j ⟨M,.dead⟩,rm:=E.rm,rv:=E.rv,L:=mkL E.X (zcR E.R j ⟨M,.dead⟩) E.rm,B:=E.B,X:=E.X } w w (· = j):=by
  refine ⟨rfl,rfl,rfl,fun i hi=>⟨Ro i hi,rfl,rfl⟩,fun _ _ _=>rfl,fun i b hD _ hnd=>?_,fun i hD=>?_,fun i hD he h=>?_,fun i hD he h=>?_,fun i hD hnd=>?_,fun i i' b hD hD' h1 _ _ _=>?_,Nat.le_refl _,rfl,rfl,⟨rfl,fun _=>by first | exact Nat.le_refl _ | exact Nat.le_succ _⟩⟩
  all_goals subst hD
  ·have hnd:(zcR E.R i ⟨M,.dead⟩ i).kind.nd = true:=hnd
   rw [Rj] at hnd;cases hnd
  ·show _ <= (zcR E.R i ⟨M,.dead⟩ i).ver
   rw [Rj];exact hRj
  ·have h:(zcR E.R i ⟨M,.dead⟩ i).kind.slice = true:=h
   rw [Rj] at h;cases h
  ·have h:(zcR E.R i ⟨M,.dead⟩ i).kind.nd = true:=h
   rw [Rj] at h;cases h
  ·have hnd:(zcR E.R i ⟨M,.dead⟩ i).kind.nd = true:=hnd
   rw [Rj] at hnd;cases hnd
  ·have h1:(zcR E.R i ⟨M,.dead⟩ i).kind.nd = true:=h1
   rw [Rj] at h1;cases h1
 have hrows:∀ i,i = j->zav w { R:=zcR E.R j ⟨M,.dead⟩,rm:=E.rm,rv:=E.rv,L:=mkL E.X (zcR E.R j ⟨M,.dead⟩) E.rm,B:=E.B,X:=E.X } G.C i:=fun i hi=>by
  subst hi
  unfold zav
  show match (zcR E.R i ⟨M,.dead⟩ i).kind with | .dead=>True | .nil=>_ | .box t cells=>_ | .sli e sz _ cells=>_ | .tab e cells=>_ | .mp f=>_
  rw [Rj];trivial
 have key:SimE G _ ({ s with rw:=zcR E.R j ⟨M,.dead⟩ }:St) a w:=ht.sim hs hrows
 have e:({ s with rw:=zcR E.R j ⟨M,.dead⟩ }:St) = s.row j ⟨M,.dead⟩:=by rw [hs.rw];rfl
 rw [e] at key
 exact ⟨_,key⟩
theorem St.ext2 {a b:St} (h1:∀ i,a.sl i = b.sl i) (h2:∀ i,a.rw i = b.rw i):a = b:=by
 cases a;cases b
 congr 1
 ·exact funext h1
 ·exact funext h2
def rvF (e:Nat) (out:List PV) (ok:Bool):RV:=.tup [.fr e 1 out,.im (.v (.bool ok))]
theorem zHG [zae] (s:St) (d e:Nat) (out:List PV) (ok:Bool):zal s d (rvF e out ok) = (s.row d ⟨(s.rw d).ver + 1,.sli e 1 false out⟩).put (some d) (.tup [.own d ((s.rw d).ver + 1),.v (.bool ok)]):=by
 unfold zal rvF
 rw [zby]
 simp only [List.map_cons,List.map_nil,leaves,List.flatten_cons,List.flatten_nil,List.append_nil,zaw,zbV,zaY,zbl,zbO,zbI]
 rfl
theorem zo6 (s:St) (j:Nat):s.killed j [] = s.row j ⟨(s.rw j).ver + 1,.dead⟩:=by
 unfold St.killed St.row
 congr 1
 funext i
 unfold zbf zMo
 by_cases h:i = j
 ·subst h;simp [zcR]
 ·have hb:(i == j) = false:=beq_eq_false_iff_ne.2 h
  simp [h,zcR,hb]
theorem zyT [zae] {P:Program} {G:Ghost} {s:St} {o:Oper} {c:Call} {f:Operand} {j vj e d:Nat} {pre pre' head out:List PV} {ok:Bool} {caps:List PV} {g:FuncId} (ho:o.op = .call c) (hc:c.callee = .value f) (hdst:o.dst = some d) (hd:d < G.n)
 (hev:s.ev f = .clo g caps) (h:AF P g pre head e out ok) (hraw:c.args.toList.map s.ev ++ caps = pre' ++ [.own j vj])
 (hq:zID pre pre') (hj:s.rw j = ⟨vj,.sli e 1 false head⟩) (hp:zbs head) (hdj:d ≠ j) (hjl:j < lent) :
 za9 P G s o (zal (s.killed j []) d (rvF e out ok)):=by
 intro a w hs K' Q hK
 refine zhw (K:=fun S=>Wk S (zal (s.killed j []) d (rvF e out ok))) ho hc (fun y hy=>by rw [hdst] at hy;cases hy;exact hd) ?_ hs fun s1 a' w' hw hs1=>hK a' w' (hw G a' w' hs1)
 rw [hev]
 show askG P s g (c.args.toList.map s.ev ++ caps) o.dst _
 rw [hraw,hdst]
 refine h.askG (fun rho R0=>hq rho _ R0 _) hj hp hdj fun S v r hr hsl hrow hoff=>?_
 rw [zHG,zo6]
 have hjv:(s.rw j).ver = vj:=by rw [hj]
 have hrd:((s.row j ⟨(s.rw j).ver + 1,.dead⟩).rw d) = s.rw d:=zam _ _ hdj
 rw [hrd,hjv]
 rcases hr with ⟨rfl,hv,hSd⟩ | ⟨rfl,rfl,hv⟩
 ·have hm:=Wk.move (s:=S) (t:=d) (N:=(s.rw d).ver + 1) (M:=vj + 1) (d:=d) hrow (Ne.symm hdj) hjl (by rw [hSd];exact Nat.lt_succ_self _) om (by rw [hsl,zau])
  have e2:(((s.row r ⟨vj + 1,.dead⟩).row d ⟨(s.rw d).ver + 1,.sli e 1 false out⟩).put (some d) (.tup [.own d ((s.rw d).ver + 1),.v (.bool ok)])) = (((S.row r ⟨vj + 1,.dead⟩).row d ⟨(s.rw d).ver + 1,.sli e 1 false out⟩).put (some d) (.tup [.own d ((s.rw d).ver + 1),.v (.bool ok)])):=by
   refine St.ext2 (fun i=>?_) fun i=>?_
   ·by_cases hi:i = d
    ·subst hi;rw [zau,zau]
    ·rw [zaG _ _ _ _ hi,zaG _ _ _ _ hi]
     show s.sl i = S.sl i
     rw [hsl,zaG _ _ _ _ hi]
   ·show zcR (zcR s.rw r _) d _ i = zcR (zcR S.rw r _) d _ i
    by_cases hi:i = d
    ·subst hi;rw [zaf,zaf]
    ·rw [zam _ _ hi,zam _ _ hi]
     by_cases hij:i = r
     ·subst hij;rw [zaf,zaf]
     ·rw [zam _ _ hij,zam _ _ hij,hoff i hij hi]
  rw [e2];exact hm
 ·have hm:=Wk.killAt (s:=S) (j:=j) (M:=vj + 1) hv
  have e2:(((s.row j ⟨vj + 1,.dead⟩).row r ⟨(s.rw r).ver + 1,.sli e 1 false out⟩).put (some r) (.tup [.own r ((s.rw r).ver + 1),.v (.bool ok)])) = S.row j ⟨vj + 1,.dead⟩:=by
   refine St.ext2 (fun i=>?_) fun i=>?_
   ·show _ = S.sl i
    rw [hsl]
    by_cases hi:i = r
    ·subst hi;rw [zau,zau]
    ·rw [zaG _ _ _ _ hi,zaG _ _ _ _ hi];rfl
   ·show zcR (zcR s.rw j _) r _ i = zcR S.rw j _ i
    by_cases hi:i = r
    ·subst hi;rw [zaf,zam _ _ hdj,hrow]
    ·rw [zam _ _ hi]
     by_cases hij:i = j
     ·subst hij;rw [zaf,zaf]
     ·rw [zam _ _ hij,zam _ _ hij,hoff i hij hi]
  rw [e2];exact hm
theorem zIC [zae] {P:Program} {T:Tab} {G:Ghost} {s:St} {o:Oper} {t e:TypeId} {x y:Operand} {d k ver:Nat} {c:List PV} {kk:IntKind} {m:Int} (hT:T.Ok P) (ho:o.op = .slice t x none (some y) none) (hdst:o.dst = some d) (hd:d < G.n)
 (hx:s.ev x = .own k ver) (hrow:s.rw k = ⟨ver,.sli e 1 false c⟩) (hs0:0 < (T t).size) (hkt:(T t).k = .sli e) (hes:0 < (T e).size) (he1:(T e).size = 1) (hy:s.ev y = .v (.int kk m)) (h0:0 <= m) (hm:m <= (c.length:Int)) :
 za9 P G s o ((s.row k ⟨ver + 1,.sli e 1 false (c.take m.toNat)⟩).put (some d) (.own k (ver + 1))):=by
 intro a w hs K' Q hK
 obtain ⟨E,hs⟩:=hs
 have hR:=hs.rw
 have hRk:E.R k = ⟨ver,.sli e 1 false c⟩:=by rw [hR];exact hrow
 have hxr:=zaB hs.slots x
 rw [hx] at hxr
 have hyr:=zaB hs.slots y
 rw [hy] at hyr
 have hye:=hyr.v_eq
 have hxe:a.eval x = E.rv k:=by cases hxr with | own hv hx=>exact hx (by rw [hRk]) (by rw [hRk];rfl)
 have hf:=(hT t hs0).k
 rw [hkt] at hf
 have hu:P.underlying t = some (.slice e):=hf
 have hsize:=za0 (hT e hes) w
 rw [he1] at hsize
 have hrw:=hs.wok.rows k
 unfold zav at hrw
 rw [hRk] at hrw
 have fin:∀ v:Value,(execOp a.eval o).run P w = .ok (.value v) w->(Lasts w w E (E.turn [] k ⟨ver + 1,.sli e 1 false (c.take m.toNat)⟩ (E.rm k) v)->zav w (E.turn [] k ⟨ver + 1,.sli e 1 false (c.take m.toNat)⟩ (E.rm k) v) G.C k)->o.wp P a w K' Q:=fun v hrun hr=>by
  have hturn:OneTurn E w w k ⟨ver + 1,.sli e 1 false (c.take m.toNat)⟩ (E.rm k) v :=
   ⟨fun _ _ _=>rfl,fun b hb _=>.inr ⟨hb,by rw [hRk];rfl,fun _=>by rw [hRk];rfl⟩,by rw [hRk];exact Nat.le_succ _,fun h=>by rw [hRk] at h;simp at h,fun h=>by rw [hRk] at h;simp at h,fun _=>Nat.succ_pos _,Nat.le_refl _,rfl,rfl,⟨rfl,fun _=>by first | exact Nat.le_refl _ | exact Nat.le_succ _⟩⟩
  refine zgE (fz:=[]) (p:=.own k (ver + 1)) hs hrun hturn sp hr ?_ (by simp [hdst,hd]) (fun a' w' h=>hK a' w' ?_)
  ·exact .own (by simp [Env.turn,zaf]) fun _ _=>by simp [Env.turn,zaf]
  ·rw [St.freeze_nil,hdst] at h;exact h
 have hmn:((m.toNat:Nat):Int) = m:=om
 rcases hrw with ⟨g1,g2,g3⟩ | ⟨b,n,cap,vs,rest,g1,g2,g3,g4,g5,g6,g7,g8,g9⟩
 ·subst g3
  have hm0:m = 0:=by simp at hm;omega
  subst hm0
  refine fin (.slice none 0 0) ?_ fun hl=>?_
  ·have hb:(Instr.sliceBounds true 0 0 none (some (.int kk 0)) none).run P w = .ok (0,0,0) w:=by simp [Instr.sliceBounds,run_sliceBound]
   simp [execOp,ho,hxe,g2,hye,Instr.sliceAt,run_underlying hu,Instr.slice,hb,hsize]
  ·unfold zav
   simp only [Env.turn,zaf]
   exact .inl ⟨g1,trivial,sp⟩
 ·have hvl:c.length = vs.length:=g9.1
  have hmcap:m <= (cap:Int):=om
  refine fin (.slice (some ⟨b,0,none⟩) m.toNat cap) ?_ fun hl=>?_
  ·have hb:(Instr.sliceBounds true n cap none (some (.int kk m)) none).run P w = .ok (0,m.toNat,cap) w:=by
    simp [Instr.sliceBounds,run_sliceBound,h0,hmcap]
   simp [execOp,ho,hxe,g3,hye,Instr.sliceAt,run_underlying hu,Instr.slice,hb,hsize,zdI]
  ·unfold zav
   simp only [Env.turn,zaf]
   have hmn2:m.toNat <= vs.length:=om
   refine .inr ⟨b,m.toNat,cap,vs.take m.toNat,vs.drop m.toNat ++ rest,g1,g2,rfl,by rw [<- List.append_assoc,List.take_append_drop];exact g4,by simp;omega,om,g7,by rw [<- List.append_assoc,List.take_append_drop];exact g8,?_⟩
   have h9:=g9.mono hl.bare (Nat.le_refl _)
   refine ⟨by simp;omega,fun i ha hb=>?_⟩
   rw [List.getElem_take,List.getElem_take]
   exact h9.2 i (by simp at ha;omega) (by simp at hb;omega)
end Go.Abs

/- DERIVED by an AI agent. -/
import Derived.Test.YtjikeknpidbceaaGreatA13
/- DERIVED by an AI agent. Functions that are given a cursor and draw from it: what they hand back is told by what holds of it. No program in sight. -/
namespace Go.Abs
set_option linter.unusedSimpArgs false
set_option linter.unusedVariables false
abbrev zbG:=Nat × (TypeId × Option Nat × List PV)
inductive LfG (R:Nat→Row):RV→PV→List zbG→Prop
 | im (x:Value):LfG R (.im (.v x)) (.v x) []
 | sl (fr:Bool) (sz:Nat) (c:List PV):LfG R (.im (.sl fr sz c)) (.sl true sz c) []
 | fr {e sz k v:Nat} {c:List PV} (h:R k = ⟨v,.sli e sz false c⟩) (hk:k < 1000000):LfG R (.fr e sz c) (.own k v) [(k,(e,some sz,c))]
inductive LfsG (R:Nat→Row):List RV→List PV→List zbG→Prop
 | nil:LfsG R [] [] []
 | cons {a:RV} {p:PV} {i:List zbG} {l:List RV} {ps:List PV} {is:List zbG} (h:LfG R a p i) (t:LfsG R l ps is):LfsG R (a :: l) (p :: ps) (i ++ is)
inductive G1 (R:Nat→Row):RV→PV→List zbG→Prop
 | lf {a:RV} {p:PV} {i:List zbG} (h:LfG R a p i):G1 R a p i
 | ag {l:List RV} {ps:List PV} {i:List zbG} (h:LfsG R l ps i):G1 R (.ag l) (.ag ps) i
inductive G1s (R:Nat→Row):List RV→List PV→List zbG→Prop
 | nil:G1s R [] [] []
 | cons {a:RV} {p:PV} {i:List zbG} {l:List RV} {ps:List PV} {is:List zbG} (h:G1 R a p i) (t:G1s R l ps is):G1s R (a :: l) (p :: ps) (i ++ is)
inductive G2 (R:Nat→Row):RV→PV→List zbG→Prop
 | one {a:RV} {p:PV} {i:List zbG} (h:G1 R a p i):G2 R a p i
 | tup {l:List RV} {ps:List PV} {i:List zbG} (h:G1s R l ps i):G2 R (.tup l) (.tup ps) i
section
variable {R:Nat→Row} {rho1:Nat→Option Nat} {nv:Nat→Nat} {vr:Nat→Nat} {d:Nat}
def Fits (R:Nat→Row) (rho1:Nat→Option Nat) (nv vr:Nat→Nat) (d i:Nat) (ids:List zbG):Prop :=
 ∀ j (h:j < ids.length),rho1 ids[j].1 = some (zaj d (i + j))∧nv ids[j].1 = vr (zaj d (i + j)) + 1
theorem Fits.left {i:Nat} {a b:List zbG} (h:Fits R rho1 nv vr d i (a ++ b)):Fits R rho1 nv vr d i a:=fun j hj=>by
 have:=h j (by rw [List.length_append];omega)
 rwa [List.getElem_append_left hj] at this
theorem Fits.right {i:Nat} {a b:List zbG} (h:Fits R rho1 nv vr d i (a ++ b)):Fits R rho1 nv vr d (i + a.length) b:=fun j hj=>by
 have:=h (a.length + j) (by rw [List.length_append];omega)
 rw [List.getElem_append_right (by omega)] at this
 simpa [Nat.add_assoc] using this
theorem LfG.leaves [zag] {a:RV} {p:PV} {i:List zbG} (h:LfG R a p i):Go.Abs.leaves a = i.map (·.2):=by
 cases h <;> simp [Go.Abs.leaves]
theorem LfsG.leaves [zag] {l:List RV} {ps:List PV} {i:List zbG} (h:LfsG R l ps i):(l.map Go.Abs.leaves).flatten = i.map (·.2):=by
 induction h with
 | nil=>rfl
 | cons h t ih=>simp [ih,h.leaves]
theorem G1.leaves [zag] {a:RV} {p:PV} {i:List zbG} (h:G1 R a p i):Go.Abs.leaves a = i.map (·.2):=by
 cases h with
 | lf h=>exact h.leaves
 | ag h=>rw [zb1];exact h.leaves
theorem G1s.leaves [zag] {l:List RV} {ps:List PV} {i:List zbG} (h:G1s R l ps i):(l.map Go.Abs.leaves).flatten = i.map (·.2):=by
 induction h with
 | nil=>rfl
 | cons h t ih=>simp [ih,h.leaves]
theorem G2.leaves [zag] {a:RV} {p:PV} {i:List zbG} (h:G2 R a p i):Go.Abs.leaves a = i.map (·.2):=by
 cases h with
 | one h=>exact h.leaves
 | tup h=>rw [zbr];exact h.leaves
theorem LfG.row {a:RV} {p:PV} {i:List zbG} (h:LfG R a p i):∀ x ∈ i,x.1 < 1000000∧∃ v sz,x.2.2.1 = some sz∧R x.1 = ⟨v,.sli x.2.1 sz false x.2.2.2⟩:=by
 cases h with
 | im=>simp
 | sl=>simp
 | fr h hk=>intro x hx;rw [List.mem_singleton.1 hx];exact ⟨hk,_,_,rfl,h⟩
theorem LfsG.row {l:List RV} {ps:List PV} {i:List zbG} (h:LfsG R l ps i):∀ x ∈ i,x.1 < 1000000∧∃ v sz,x.2.2.1 = some sz∧R x.1 = ⟨v,.sli x.2.1 sz false x.2.2.2⟩:=by
 induction h with
 | nil=>simp
 | cons h t ih=>intro x hx;exact (List.mem_append.1 hx).elim (h.row x) (ih x)
theorem G1.row {a:RV} {p:PV} {i:List zbG} (h:G1 R a p i):∀ x ∈ i,x.1 < 1000000∧∃ v sz,x.2.2.1 = some sz∧R x.1 = ⟨v,.sli x.2.1 sz false x.2.2.2⟩:=by
 cases h with
 | lf h=>exact h.row
 | ag h=>exact h.row
theorem G1s.row {l:List RV} {ps:List PV} {i:List zbG} (h:G1s R l ps i):∀ x ∈ i,x.1 < 1000000∧∃ v sz,x.2.2.1 = some sz∧R x.1 = ⟨v,.sli x.2.1 sz false x.2.2.2⟩:=by
 induction h with
 | nil=>simp
 | cons h t ih=>intro x hx;exact (List.mem_append.1 hx).elim (h.row x) (ih x)
theorem G2.row {a:RV} {p:PV} {i:List zbG} (h:G2 R a p i):∀ x ∈ i,x.1 < 1000000∧∃ v sz,x.2.2.1 = some sz∧R x.1 = ⟨v,.sli x.2.1 sz false x.2.2.2⟩:=by
 cases h with
 | one h=>exact h.row
 | tup h=>exact h.row
theorem LfG.ren [zag] {a:RV} {p:PV} {ids:List zbG} {i:Nat} (h:LfG R a p ids) (hf:Fits R rho1 nv vr d i ids):ztX rho1 R nv true p = zbw vr d a i:=by
 cases h with
 | im x=>rfl
 | sl=>rfl
 | fr h hk =>
   have:=hf 0 (by simp)
   simp only [List.getElem_cons_zero,Nat.add_zero] at this
   rw [zgA,this.1,h]
   simp only [beq_self_eq_true]
   rw [this.2];rfl
theorem LfG.ren1 [zag] {a:RV} {p:PV} {ids:List zbG} {i:Nat} (h:LfG R a p ids) (hf:Fits R rho1 nv vr d i ids):Go.Abs.ren1 rho1 R nv true p = zbI vr d a i:=by
 have:=h.ren hf
 cases h with
 | im x=>rfl
 | sl=>rfl
 | fr h hk=>exact this
theorem LfsG.ren [zag] {l:List RV} {ps:List PV} {ids:List zbG} (h:LfsG R l ps ids):∀ {i:Nat},Fits R rho1 nv vr d i ids→ps.map (ztX rho1 R nv true) = zba (zbw vr d) l i:=by
 induction h with
 | nil=>intro i _;rfl
 | cons h t ih =>
   intro i hf
   rw [List.map_cons,zba,h.ren hf.left,ih hf.right,h.leaves,List.length_map]
theorem G1.ren [zag] {a:RV} {p:PV} {ids:List zbG} {i:Nat} (h:G1 R a p ids) (hf:Fits R rho1 nv vr d i ids):Go.Abs.ren1 rho1 R nv true p = zbI vr d a i:=by
 cases h with
 | lf h=>exact h.ren1 hf
 | ag h=>show PV.ag _ = PV.ag _;rw [h.ren hf]
theorem G1s.ren [zag] {l:List RV} {ps:List PV} {ids:List zbG} (h:G1s R l ps ids):∀ {i:Nat},Fits R rho1 nv vr d i ids→ps.map (Go.Abs.ren1 rho1 R nv true) = zba (zbI vr d) l i:=by
 induction h with
 | nil=>intro i _;rfl
 | cons h t ih =>
   intro i hf
   rw [List.map_cons,zba,h.ren hf.left,ih hf.right,h.leaves,List.length_map]
theorem LfsG.ren' [zag] {l:List RV} {ps:List PV} {ids:List zbG} (h:LfsG R l ps ids):∀ {i:Nat},Fits R rho1 nv vr d i ids→ps.map (ztX rho1 R nv true) = zba (zbI vr d) l i:=by
 induction h with
 | nil=>intro i _;rfl
 | @cons a p _ _ _ _ h t ih =>
   intro i hf
   have e:ztX rho1 R nv true p = zbI vr d a i:=by
    rw [h.ren hf.left]
    cases h <;> rfl
   rw [List.map_cons,zba,e,ih hf.right,h.leaves,List.length_map]
theorem G2.ren [zag] {a:RV} {p:PV} {ids:List zbG} (h:G2 R a p ids) (hf:Fits R rho1 nv vr d 0 ids):zCl rho1 R nv true p = zaV vr d a 0:=by
 cases h with
 | one h =>
   cases h with
   | lf h =>
     have:=h.ren hf
     cases h with
     | im x=>rfl
     | sl=>rfl
     | fr h hk=>exact this
   | ag h=>show PV.ag _ = PV.ag _;rw [h.ren' hf]
 | tup h=>show PV.tup _ = PV.tup _;rw [h.ren hf]
end
theorem zve [zag] (d i:Nat):zaj d i % 1000 = d % 1000:=by unfold zaj;omega
theorem zre [zag] {P:Program} {s:St} {K:St→Prop} {f:FuncId} {args raw:List PV} {d:Nat} {R0:Nat→Row} {post:(Nat→Row)→PV→Prop}
 (hc:AG P f args R0 post) (rho:Nat→Option Nat) (hl:GvL rho (fun _=>False) R0 s.rw args raw) (hg:Give rho (fun _=>False) R0 s.rw)
 (hd:∀ a j,(R0 a).kind.nd = true→rho a = some j→(d % 1000 == j % 1000) = false)
 (hpost:∀ R1 p,post R1 p→∃ (rv:RV) (ids:List zbG) (s':St),G2 R1 rv p ids∧(ids.map (·.1)).Nodup∧(∀ a,(R0 a).kind.nd = true→(R1 a).ver = (R0 a).ver∧∀ rho1 nv,zmN rho1 R1 nv true (R1 a).kind = (R1 a).kind)∧s'.sl = s.sl ∧
  (∀ a j,(R0 a).kind.nd = true→rho a = some j→s'.rw j = ⟨(s.rw j).ver,(R1 a).kind⟩)∧(∀ j,(∀ a,(R0 a).kind.nd = true→rho a ≠ some j)→s'.rw j = s.rw j)∧K (zak s' d rv)) :
 askG P s f raw (some d) K:=by
 refine ⟨args,R0,post,rho,_,hc,hl,hg,fun R1 p hp=>?_⟩
 obtain ⟨rv,ids,s',hG,hnd,hver,hsl,hgiv,hoth,hK⟩:=hpost R1 p hp
 have hrow:=hG.row
 have hlow:∀ a,(R0 a).kind.nd = true→1000000 ≤ a:=fun a ha=>(hg.row a ha).1
 have hsm:∀ n (hn:n < ids.length),¬ (R0 ids[n].1).kind.nd = true:=fun n hn h=>by
  have:=(hrow _ (List.getElem_mem hn)).1;have:=hlow _ h;omega
 let rho1:Nat→Option Nat:=fun a=>if (R0 a).kind.nd = true then rho a else (ids.findIdx? (fun x=>x.1 == a)).map (zaj d)
 let nv:Nat→Nat:=fun a=>if (R0 a).kind.nd = true then ((rho a).map fun j=>(s.rw j).ver).getD 0 else (match ids.findIdx? (fun x=>x.1 == a) with | some n=>(s.rw (zaj d n)).ver + 1 | none=>0)
 have hfi:∀ n (hn:n < ids.length),ids.findIdx? (fun x=>x.1 == ids[n].1) = some n:=fun n hn=>by
  rw [List.findIdx?_eq_some_iff_getElem]
  refine ⟨hn,by simp,fun j hj=>?_⟩
  simp only [beq_iff_eq]
  intro e
  have h1:(ids.map (·.1))[j]'(by simp;omega) = (ids.map (·.1))[n]'(by simpa using hn):=by simpa using e
  exact absurd ((List.getElem_inj hnd).1 h1) (by omega)
 have r1:∀ a,(R0 a).kind.nd = true→rho1 a = rho a:=fun a h=>if_pos h
 have r3:∀ n (hn:n < ids.length),rho1 ids[n].1 = some (zaj d n):=fun n hn=>by
  show (if (R0 ids[n].1).kind.nd = true then _ else _) = _
  rw [if_neg (hsm n hn),hfi n hn];rfl
 have n1:∀ a j,(R0 a).kind.nd = true→rho a = some j→nv a = (s.rw j).ver:=fun a j h hj=>by
  show (if (R0 a).kind.nd = true then _ else _) = _
  rw [if_pos h,hj];rfl
 have n3:∀ n (hn:n < ids.length),nv ids[n].1 = (s.rw (zaj d n)).ver + 1:=fun n hn=>by
  show (if (R0 ids[n].1).kind.nd = true then _ else _) = _
  rw [if_neg (hsm n hn),hfi n hn]
 have inv:∀ a x,rho1 a = some x→((R0 a).kind.nd = true∧rho a = some x) ∨ ∃ n,∃ hn:n < ids.length,a = ids[n].1∧x = zaj d n:=fun a x ha=>by
  by_cases h1:(R0 a).kind.nd = true
  ·exact .inl ⟨h1,(r1 a h1).symm.trans ha⟩
  ·have ha:(if (R0 a).kind.nd = true then rho a else (ids.findIdx? (fun x=>x.1 == a)).map (zaj d)) = some x:=ha
   rw [if_neg h1] at ha
   cases hf:ids.findIdx? (fun x=>x.1 == a) with
   | none=>rw [hf] at ha;cases ha
   | some n =>
     rw [hf] at ha;cases ha
     rw [List.findIdx?_eq_some_iff_getElem] at hf
     obtain ⟨hn,e,_⟩:=hf
     exact .inr ⟨n,hn,(beq_iff_eq.1 e).symm,rfl⟩
 have lj:∀ n a j,(R0 a).kind.nd = true→rho a = some j→zaj d n ≠ j:=fun n a j h hj e=>beq_eq_false_iff_ne.1 (hd a j h hj) (by rw [← e,zve])
 refine ⟨rho1,nv,true,⟨r1,fun a b x ha hb=>?_,fun a x ha hn hv=>?_,fun a x ha hn=>?_,fun _ _ h=>h⟩,fun S hS=>?_⟩
 ·rcases inv a x ha with ⟨a1,a2⟩ | ⟨n,hn,a1,a2⟩ <;> rcases inv b x hb with ⟨b1,b2⟩ | ⟨m,hm,b1,b2⟩
  ·exact hg.inj a b x a1 b1 a2 b2
  ·exact absurd b2.symm (lj m a x a1 a2)
  ·exact absurd a2.symm (lj n b x b1 b2)
  ·have:=zlU (a2.symm.trans b2)
   subst this;rw [a1,b1]
 ·rcases inv a x ha with ⟨_,a2⟩ | ⟨n,hn',rfl,_⟩
  ·exact n1 a x hn a2
  ·exact absurd hn (hsm n hn')
 ·rcases inv a x ha with ⟨a1,a2⟩ | ⟨n,hn',rfl,rfl⟩
  ·exact absurd (hver a a1).1 (hn a1)
  ·rw [n3 n hn'];exact Nat.lt_succ_self _
 ·have hsr:∀ n,s'.rw (zaj d n) = s.rw (zaj d n):=fun n=>hoth _ fun a h e=>lj n a _ h e rfl
  have hfits:Fits R1 rho1 nv (fun i=>(s'.rw i).ver) d 0 ids:=fun n hn=>by
   rw [Nat.zero_add]
   exact ⟨r3 n hn,by show _ = (s'.rw (zaj d n)).ver + 1;rw [hsr,n3 n hn]⟩
  have hlv:=hG.leaves
  have hS2:S = zak s' d rv:=by
   refine St.ext2 (fun i=>?_) fun a=>?_
   ·rw [hS.sl,hG.ren hfits]
    unfold zak
    by_cases e:i = d
    ·subst e;rw [zaA,zaA]
    ·rw [zaU _ _ _ _ e,zaU _ _ _ _ e];exact (congrFun hsl i).symm
   ·unfold zak
    rw [zew]
    show S.rw a = zau _ d (leaves rv) 0 a
    rw [zct,hlv]
    by_cases hex:∃ n,n < ids.length∧a = zaj d n
    ·obtain ⟨n,hn,rfl⟩:=hex
     have hm:n < (ids.map fun x:zbG=>x.2).length:=by simpa using hn
     have hm':n < (zbh s'.rw d (ids.map (·.2)) 0).length:=by rw [za1];exact hm
     have h1:=zc9 s'.rw d _ 0 n hm'
     rw [Nat.zero_add] at h1
     rw [h1,zc3 _ _ _ _ _ hm hm',Nat.zero_add,hsr,hS.row _ _ (r3 n hn),n3 n hn]
     obtain ⟨_,v1,sz,e1,e2⟩:=hrow _ (List.getElem_mem hn)
     rw [e2]
     have e3:((ids.map fun x:zbG=>x.2)[n]'hm).2.1 = some sz:=by simpa using e1
     simp only [zbC,e3]
     simp [zmN]
    ·rw [zce _ _ _ _ _ fun n hn e=>hex ⟨n,by rw [za1] at hn;simpa using hn,by rw [e,Nat.zero_add]⟩]
     by_cases hgv:∃ b,(R0 b).kind.nd = true∧rho b = some a
     ·obtain ⟨b,h1,h2⟩:=hgv
      rw [hS.row _ _ ((r1 b h1).trans h2),hgiv b a h1 h2,n1 b a h1 h2,(hver b h1).2]
     ·rw [hoth a fun b h1 h2=>hgv ⟨b,h1,h2⟩]
      refine hS.off a fun b hb=>?_
      rcases inv b a hb with h | ⟨n,hn,_,e⟩
      ·exact hgv ⟨b,h⟩
      ·exact hex ⟨n,hn,e⟩
  rw [hS2]
  exact hK
theorem zpQ [zag] {P:Program} {s:St} {K:St→Prop} {f:FuncId} {args raw lents:List PV} {Ka:RV→Prop} {d:Nat} {us:Dm s} {u:Dm K} {R0:Nat→Row} {post:(Nat→Row)→PV→Prop}
 (hc:AG P f args R0 post) (rho:Nat→Option Nat) (hl:GvL rho (fun _=>False) R0 s.rw args raw) (hg:Give rho (fun _=>False) R0 s.rw)
 (hd:∀ a j,(R0 a).kind.nd = true→rho a = some j→(d % 1000 == j % 1000) = false)
 (hpost:∀ R1 p,post R1 p→∃ (rv:RV) (ids:List zbG) (s':St),G2 R1 rv p ids∧(ids.map (·.1)).Nodup∧(∀ a,(R0 a).kind.nd = true→(R1 a).ver = (R0 a).ver∧∀ rho1 nv,zmN rho1 R1 nv true (R1 a).kind = (R1 a).kind)∧s'.sl = s.sl ∧
  (∀ a j,(R0 a).kind.nd = true→rho a = some j→s'.rw j = ⟨(s.rw j).ver,(R1 a).kind⟩)∧(∀ j,(∀ a,(R0 a).kind.nd = true→rho a ≠ some j)→s'.rw j = s.rw j)∧K (zak s' d rv)) :
 zhY P f lents Ka (zqy P f lents raw (some d) (kk s us) (kk K u)) :=
 .inr (.inr (.inr (.inr (zre hc rho hl hg hd hpost))))
def zDs (Q:RV→Prop) (R1:Nat→Row) (p:PV):Prop:=∃ (rv:RV) (ids:List zbG),Q rv∧G2 R1 rv p ids∧(ids.map (·.1)).Nodup
def ADr [zag] (P:Program) (f:FuncId) (args:List PV) (Q:RV→Prop):Prop:=AG P f args (fun _=>⟨0,.dead⟩) (zDs Q)
theorem zmT [zag] {P:Program} {s:St} {K:St→Prop} {f:FuncId} {args raw lents:List PV} {Ka:RV→Prop} {d:Nat} {us:Dm s} {u:Dm K} {Q:RV→Prop} (hc:ADr P f args Q)
 (hl:GvL (fun _=>none) (fun _=>False) (fun _=>⟨0,.dead⟩) s.rw args raw) (hK:∀ rv,Q rv→K (zak s d rv)):zhY P f lents Ka (zqy P f lents raw (some d) (kk s us) (kk K u)) :=
 zpQ hc _ hl ⟨fun _ h=>(by cases h),fun _ _ _ h=>(by cases h),fun _ _ h=>(by cases h)⟩ (fun _ _ h=>(by cases h)) fun R1 p ⟨rv,ids,hq,h1,h2⟩ =>
  ⟨rv,ids,s,h1,h2,fun _ h=>(by cases h),rfl,fun _ _ h=>(by cases h),fun _ _=>rfl,hK rv hq⟩
def zjU (t:TypeId) (bs:List Int) (i h:Int):RK:=.box t [.sl false 1 (kL .u8 bs),.v (.int .i64 i),.v (.int .i64 h)]
def zt7 (t:TypeId) (bs:List Int) (i h:Int) (L:Row) (k:Nat):Row:=if k = 1000000 then ⟨1,zjU t bs i h⟩ else if k = 1000500 then L else ⟨0,.dead⟩
def zDt (t:TypeId) (bs:List Int) (L:Row) (Q:RV→Prop) (R1:Nat→Row) (p:PV):Prop :=
 ∃ (rv:RV) (i:Nat) (h:Int) (ids:List zbG),Q rv∧G2 R1 rv p ids∧(ids.map (·.1)).Nodup∧R1 1000000 = ⟨1,zjU t bs i h⟩∧R1 1000500 = L
def zCs [zag] (P:Program) (f:FuncId) (t:TypeId) (bs:List Int) (L:Row) (args:List PV) (Q:RV→Prop):Prop :=
 ∀ (i:Nat) (h:Int),AG P f (.ref 1000000 1 0 :: args) (zt7 t bs i h L) (zDt t bs L Q)
inductive LRow (s:St):Row→Option Nat→Prop
 | none:LRow s ⟨0,.dead⟩ none
 | some {j v e sz:Nat} {c:List PV} (hj:s.rw j = ⟨v,.sli e sz false c⟩) (hp:zbB c):LRow s ⟨1,.sli e sz false c⟩ (some j)
def zhP (k:Nat) (j:Option Nat) (a:Nat):Option Nat:=if a = 1000000 then some k else if a = 1000500 then j else none
theorem zaP (k:Nat) (j:Option Nat):zhP k j 1000000 = some k:=if_pos rfl
theorem zbd (k:Nat) (j:Option Nat):zhP k j 1000500 = j:=by unfold zhP;rw [if_neg (by decide),if_pos rfl]
theorem zbR {t:TypeId} {bs:List Int} {i h:Int} {L:Row}:zt7 t bs i h L 1000000 = ⟨1,zjU t bs i h⟩:=if_pos rfl
theorem zcK {t:TypeId} {bs:List Int} {i h:Int} {L:Row}:zt7 t bs i h L 1000500 = L:=by unfold zt7;rw [if_neg (by decide),if_pos rfl]
theorem zyL {t:TypeId} {bs:List Int} {i h:Int} {L:Row} {k:Nat} (hk:k < 1000000):zt7 t bs i h L k = ⟨0,.dead⟩:=by unfold zt7;rw [if_neg (by omega),if_neg (by omega)]
theorem zbN {t:TypeId} {bs:List Int} {i h:Int} {L:Row} {k:Nat} (hn:(zt7 t bs i h L k).kind.nd = true):k = 1000000 ∨ (k = 1000500∧L.kind.nd = true):=by
 unfold zt7 at hn
 split at hn
 ·exact .inl ‹_›
 ·split at hn
  ·exact .inr ⟨‹_›,hn⟩
  ·cases hn
theorem za3 [zag] {P:Program} {s:St} {K:St→Prop} {f:FuncId} {args raw lents:List PV} {Ka:RV→Prop} {d k v:Nat} {t:TypeId} {bs:List Int} {i:Nat} {h:Int} {us:Dm s} {u:Dm K} {L:Row} {oj:Option Nat} {fr:Bool} {Q:RV→Prop}
 (hc:zCs P f t bs L args Q) (hL:LRow s L oj) (hk:s.rw k = ⟨v,.box t [.sl fr 1 (kL .u8 bs),.v (.int .i64 i),.v (.int .i64 h)]⟩)
 (hl:GvL (zhP k oj) (fun _=>False) (zt7 t bs i h L) s.rw (.ref 1000000 1 0 :: args) raw) (hdk:(d % 1000 == k % 1000) = false) (hoj:∀ j,oj = some j→(d % 1000 == j % 1000) = false∧(k % 1000 == j % 1000) = false)
 (hK:∀ (rv:RV) (i':Nat) (h':Int),Q rv→K (zak (s.row k ⟨v,.box t [.sl false 1 (kL .u8 bs),.v (.int .i64 i'),.v (.int .i64 h')]⟩) d rv)) :
 zhY P f lents Ka (zqy P f lents raw (some d) (kk s us) (kk K u)):=by
 have hkj:∀ j,oj = some j→k ≠ j:=fun j hj e=>beq_eq_false_iff_ne.1 (hoj j hj).2 (by rw [e])
 have hlr:∀ j,oj = some j→∃ vj e sz c,s.rw j = ⟨vj,.sli e sz false c⟩∧L = ⟨1,.sli e sz false c⟩∧zbB c:=fun j hj=>by
  cases hL with
  | none=>cases hj
  | some h1 h2=>cases hj;exact ⟨_,_,_,_,h1,rfl,h2⟩
 have hLn:L.kind.nd = true→∃ j,oj = some j:=fun hn=>by
  cases hL with
  | none=>cases hn
  | some h1 h2=>exact ⟨_,rfl⟩
 refine zpQ (hc i h) _ hl ⟨fun a ha=>?_,fun a b x na nb ha hb=>?_,fun _ _ _ _ h=>h⟩ (fun a j ha hj=>?_) fun R1 p ⟨rv,i',h',ids,hq,hg,hnd,ht1,hl1⟩=>?_
 ·rcases zbN ha with rfl | ⟨rfl,hn⟩
  ·refine ⟨Nat.le_refl _,by rw [zbR];exact Nat.one_pos,k,zaP _ _,?_⟩
   rw [zbR,hk]
   exact ⟨rfl,.one (.sl _ _ _) (.one (.v _) (.one (.v _) .nil))⟩
  ·obtain ⟨j,hj⟩:=hLn hn
   obtain ⟨vj,e,sz,c,h1,h2,h3⟩:=hlr j hj
   refine ⟨by decide,by rw [zcK,h2];exact Nat.one_pos,j,by rw [zbd];exact hj,?_⟩
   rw [zcK,h1,h2]
   exact ⟨rfl,rfl,rfl,h3⟩
 ·rcases zbN na with rfl | ⟨rfl,_⟩ <;> rcases zbN nb with rfl | ⟨rfl,_⟩
  ·rfl
  ·rw [zaP] at ha;rw [zbd] at hb;cases ha;exact absurd rfl (hkj _ hb)
  ·rw [zaP] at hb;rw [zbd] at ha;cases hb;exact absurd rfl (hkj _ ha)
  ·rfl
 ·rcases zbN ha with rfl | ⟨rfl,hn⟩
  ·rw [zaP] at hj;cases hj;exact hdk
  ·rw [zbd] at hj;exact (hoj j hj).1
 ·refine ⟨rv,ids,s.row k ⟨v,.box t [.sl false 1 (kL .u8 bs),.v (.int .i64 i'),.v (.int .i64 h')]⟩,hg,hnd,fun a ha=>?_,rfl,fun a j ha hj=>?_,fun j hj=>?_,hK rv i' h' hq⟩
  ·rcases zbN ha with rfl | ⟨rfl,hn⟩
   ·rw [ht1,zbR];exact ⟨rfl,fun _ _=>rfl⟩
   ·obtain ⟨j,hj⟩:=hLn hn
    obtain ⟨_,_,_,_,_,e,_⟩:=hlr j hj
    rw [hl1,zcK,e];exact ⟨rfl,fun _ _=>rfl⟩
  ·rcases zbN ha with rfl | ⟨rfl,hn⟩
   ·rw [zaP] at hj;cases hj
    rw [zaE,hk,ht1];rfl
   ·rw [zbd] at hj
    obtain ⟨vj,e,sz,c,h1,h2,_⟩:=hlr j hj
    rw [zao _ _ _ _ (Ne.symm (hkj j hj)),h1,hl1,h2]
  ·refine zao _ _ _ _ fun e=>hj 1000000 (by rw [zbR];rfl) (by rw [e];exact zaP _ _)
def zvf (t:TypeId) (bs:List Int) (R1:Nat→Row) (p:PV):Prop:=∃ (k v:Nat) (h:Int),p = .ref k v 0∧R1 k = ⟨v,zjU t bs 0 h⟩
def zyM [zag] (P:Program) (f:FuncId) (t:TypeId) (bs:List Int):Prop:=AG P f [.sl false 1 (kL .u8 bs)] (fun _=>⟨0,.dead⟩) (zvf t bs)
theorem zhQ [zag] {P:Program} {s:St} {K:St→Prop} {f:FuncId} {raw lents:List PV} {Ka:RV→Prop} {d:Nat} {us:Dm s} {u:Dm K} {t:TypeId} {bs:List Int} (hc:zyM P f t bs)
 (hl:GvL (fun _=>none) (fun _=>False) (fun _=>⟨0,.dead⟩) s.rw [.sl false 1 (kL .u8 bs)] raw)
 (hK:∀ h:Int,K ((s.row d ⟨(s.rw d).ver + 1,.box t [.sl false 1 (kL .u8 bs),.v (.int .i64 ((0:Nat):Int)),.v (.int .i64 h)]⟩).put (some d) (.ref d ((s.rw d).ver + 1) 0))):zhY P f lents Ka (zqy P f lents raw (some d) (kk s us) (kk K u)):=by
 refine zqA hc _ _ hl ⟨fun _ h=>(by cases h),fun _ _ _ h=>(by cases h),fun _ _ h=>(by cases h)⟩ fun R1 p ⟨k,v,h,hp,hr⟩=>?_
 subst hp
 refine ⟨fun a=>if a = k then some d else none,fun _=>(s.rw d).ver + 1,true,⟨fun _ h=>(by cases h),fun a b x ha hb=>?_,fun _ _ _ h=>(by cases h),fun a x ha _=>?_,fun _ _ h=>h⟩,fun S hS=>?_⟩
 ·have ha:(if a = k then some d else none) = some x:=ha
  have hb:(if b = k then some d else none) = some x:=hb
  by_cases h1:a = k
  ·by_cases h2:b = k
   ·rw [h1,h2]
   ·rw [if_neg h2] at hb;cases hb
  ·rw [if_neg h1] at ha;cases ha
 ·have ha:(if a = k then some d else none) = some x:=ha
  split at ha
  ·cases ha;exact Nat.lt_succ_self _
  ·cases ha
 ·have e:S = (s.row d ⟨(s.rw d).ver + 1,.box t [.sl false 1 (kL .u8 bs),.v (.int .i64 ((0:Nat):Int)),.v (.int .i64 h)]⟩).put (some d) (.ref d ((s.rw d).ver + 1) 0):=by
   refine St.ext2 (fun i=>?_) fun a=>?_
   ·rw [hS.sl]
    have hr2:zCl (fun a=>if a = k then some d else none) R1 (fun _=>(s.rw d).ver + 1) true (.ref k v 0) = .ref d ((s.rw d).ver + 1) 0:=by
     unfold zCl ren1
     simp only [ztY,if_pos,hr,beq_self_eq_true]
    rw [hr2]
    by_cases e:i = d
    ·subst e;rw [zaA,zaA]
    ·rw [zaU _ _ _ _ e,zaU _ _ _ _ e];rfl
   ·rw [zew]
    by_cases e:a = d
    ·subst e;rw [zaE,hS.row k a (if_pos rfl),hr];rfl
    ·rw [zao _ _ _ _ e]
     refine hS.off a fun b hb=>?_
     have hb:(if b = k then some d else none) = some a:=hb
     split at hb
     ·cases hb;exact e rfl
     ·cases hb
  rw [e];exact hK h
theorem zkD [zag] {P:Program} {T:Tab} {s:St} {K:St→Prop} {dst:Option Nat} {ty:TypeId} {pos:String} {af:Array Edge} {g:Option (Nat × Bool)}:opK P T s ⟨dst,.assign (.const (.pointer none)),ty,pos,af,g⟩ K = K (s.put dst (.v (.pointer none))):=(rfl)
theorem zcq {k v:Nat} {oj:Option Nat} {Ln:Nat→Prop} {t:TypeId} {bs:List Int} {i h:Int} {L:Row} {R:Nat→Row} (hv:(R k).ver = v):GvA (zhP k oj) Ln (zt7 t bs i h L) R (.ref 1000000 1 0) (.ref k v 0) :=
 .ref (zaP _ _) (by rw [zbR]) hv (by rw [zbR];rfl)
theorem zmU {k j v e sz:Nat} {c:List PV} {Ln:Nat→Prop} {t:TypeId} {bs:List Int} {i h:Int} {R:Nat→Row} (hv:(R j).ver = v):GvA (zhP k (some j)) Ln (zt7 t bs i h ⟨1,.sli e sz false c⟩) R (.own 1000500 1) (.own j v) :=
 .own (zbd _ _) (by rw [zcK]) hv (by rw [zcK];rfl)
def zAJ (t:TypeId) (bs:List Int) (x:Value × Nat × Int) (R1:Nat→Row) (p:PV):Prop:=p = .v x.1∧R1 1000000 = ⟨1,zjU t bs x.2.1 x.2.2⟩∧R1 1000500 = ⟨0,.dead⟩
def zmV [zag] (P:Program) (f:FuncId) (t:TypeId) (bs:List Int) (args:List PV) (F:Nat→Int→Value × Nat × Int):Prop :=
 ∀ (i:Nat) (h:Int),AG P f (.ref 1000000 1 0 :: args) (zt7 t bs i h ⟨0,.dead⟩) (zAJ t bs (F i h))
theorem zmV.toCur [zag] {P:Program} {f:FuncId} {t:TypeId} {bs:List Int} {args:List PV} {F:Nat→Int→Value × Nat × Int} {Q:RV→Prop} (hc:zmV P f t bs args F) (hQ:∀ i h,Q (.im (.v (F i h).1))):zCs P f t bs ⟨0,.dead⟩ args Q:=fun i h=>by
 obtain ⟨h1,h2⟩:=hc i h
 refine ⟨h1,fun w M E vals hw hR hv=>(h2 w M E vals hw hR hv).mono ?_⟩
 rintro en w' ⟨E',p,v,e1,e2,e3,e4,e5,e6⟩
 exact ⟨E',p,v,e1,e2,e3,_,(F i h).2.1,(F i h).2.2,[],hQ i h,by rw [e4];exact .one (.lf (.im _)),List.nodup_nil,e5,e6⟩
theorem zpR {rho:Nat→Option Nat} {Ln:Nat→Prop} {R0 R:Nat→Row}:∀ {l:List PV},zbB l→GvL rho Ln R0 R l l
 | [],_=>.nil
 | p :: l,h=>by
   have hp:=h p (by simp)
   cases p <;> first | exact .one (.v _) (zpR fun q hq=>h q (by simp [hq])) | (simp [isV] at hp)
def zAK (t:TypeId) (bs:List Int) (x:RV × Nat × Int) (R1:Nat→Row) (p:PV):Prop:=(∃ ids,G2 R1 x.1 p ids∧(ids.map (·.1)).Nodup)∧R1 1000000 = ⟨1,zjU t bs x.2.1 x.2.2⟩∧R1 1000500 = ⟨0,.dead⟩
def zDu [zag] (P:Program) (f:FuncId) (t:TypeId) (bs:List Int) (args:List PV) (F:Nat→Int→RV × Nat × Int):Prop :=
 ∀ (i:Nat) (h:Int),AG P f (.ref 1000000 1 0 :: args) (zt7 t bs i h ⟨0,.dead⟩) (zAK t bs (F i h))
theorem zDu.askG [zag] {P:Program} {s:St} {K:St→Prop} {f:FuncId} {args:List PV} {d k v:Nat} {t:TypeId} {bs:List Int} {i:Nat} {h:Int} {fr:Bool} {F:Nat→Int→RV × Nat × Int} (hc:zDu P f t bs args F) (hp:zbB args)
 (hk:s.rw k = ⟨v,.box t [.sl fr 1 (kL .u8 bs),.v (.int .i64 i),.v (.int .i64 h)]⟩) (hdk:(d % 1000 == k % 1000) = false)
 (hK:K (zak (s.row k ⟨v,.box t [.sl false 1 (kL .u8 bs),.v (.int .i64 (F i h).2.1),.v (.int .i64 (F i h).2.2)]⟩) d (F i h).1)):Go.Abs.askG P s f (.ref k v 0 :: args) (some d) K:=by
 refine zre (hc i h) (zhP k none) (.one (zcq (by rw [hk])) (zpR hp)) ⟨fun a ha=>?_,fun a b x na nb ha hb=>?_,fun _ _ _ _ h=>h⟩ (fun a j ha hj=>?_) fun R1 p ⟨⟨ids,e1,en⟩,e2,e3⟩=>?_
 ·rcases zbN ha with rfl | ⟨_,hn⟩
  ·refine ⟨Nat.le_refl _,by rw [zbR];exact Nat.one_pos,k,zaP _ _,?_⟩
   rw [zbR,hk]
   exact ⟨rfl,.one (.sl _ _ _) (.one (.v _) (.one (.v _) .nil))⟩
  ·cases hn
 ·rcases zbN na with rfl | ⟨_,hn⟩
  ·rcases zbN nb with rfl | ⟨_,hn⟩
   ·rfl
   ·cases hn
  ·cases hn
 ·rcases zbN ha with rfl | ⟨_,hn⟩
  ·rw [zaP] at hj;cases hj;exact hdk
  ·cases hn
 ·refine ⟨(F i h).1,ids,s.row k ⟨v,.box t [.sl false 1 (kL .u8 bs),.v (.int .i64 (F i h).2.1),.v (.int .i64 (F i h).2.2)]⟩,e1,en,fun a ha=>?_,rfl,fun a j ha hj=>?_,fun j hj=>?_,hK⟩
  ·rcases zbN ha with rfl | ⟨_,hn⟩
   ·rw [e2,zbR];exact ⟨rfl,fun _ _=>rfl⟩
   ·cases hn
  ·rcases zbN ha with rfl | ⟨_,hn⟩
   ·rw [zaP] at hj;cases hj
    rw [zaE,hk,e2];rfl
   ·cases hn
  ·exact zao _ _ _ _ fun e=>hj 1000000 (by rw [zbR];rfl) (by rw [e];exact zaP _ _)
theorem zmV.askG [zag] {P:Program} {s:St} {K:St→Prop} {f:FuncId} {args:List PV} {d k v:Nat} {t:TypeId} {bs:List Int} {i:Nat} {h:Int} {fr:Bool} {F:Nat→Int→Value × Nat × Int} (hc:zmV P f t bs args F) (hp:zbB args)
 (hk:s.rw k = ⟨v,.box t [.sl fr 1 (kL .u8 bs),.v (.int .i64 i),.v (.int .i64 h)]⟩) (hdk:(d % 1000 == k % 1000) = false)
 (hK:K ((s.row k ⟨v,.box t [.sl false 1 (kL .u8 bs),.v (.int .i64 (F i h).2.1),.v (.int .i64 (F i h).2.2)]⟩).put (some d) (.v (F i h).1))):Go.Abs.askG P s f (.ref k v 0 :: args) (some d) K :=
 zDu.askG (F:=fun i h=>(.im (.v (F i h).1),(F i h).2)) (fun i h=>(hc i h).imp id fun h2 w M E vals hw hR hv=>(h2 w M E vals hw hR hv).mono (by
  rintro en w' ⟨E',p,v,e1,e2,e3,e4,e5,e6⟩
  exact ⟨E',p,v,e1,e2,e3,⟨[],by rw [e4];exact .one (.lf (.im _)),List.nodup_nil⟩,e5,e6⟩)) hp hk hdk (by rw [zdp];exact hK)
theorem zvg [zag] {P:Program} {s:St} {Ke:Ent→St→Prop} {f:FuncId} {args lents:List PV} {Ka:RV→Prop} {d k v:Nat} {t:TypeId} {bs:List Int} {i:Nat} {h:Int} {fr:Bool} {F:Nat→Int→Value × Nat × Int} {us:Dm s} {u:Dm Ke} (hc:zmV P f t bs args F) (hp:zbB args)
 (hk:s.rw k = ⟨v,.box t [.sl fr 1 (kL .u8 bs),.v (.int .i64 i),.v (.int .i64 h)]⟩) (hdk:(d % 1000 == k % 1000) = false)
 (hK:Ke ⟨[],.ids [d,k]⟩ ((s.row k ⟨v,.box t [.sl false 1 (kL .u8 bs),.v (.int .i64 (F i h).2.1),.v (.int .i64 (F i h).2.2)]⟩).put (some d) (.v (F i h).1))) :
 zhY P f lents Ka (zEd P f (.ref k v 0 :: args) d (kk s us) (kk Ke u)) :=
 zAe [] (fun s' hs' _ _ hK'=>hc.askG hp (hs'.trans hk) hdk hK') (beq_eq_false_iff_ne.1 hdk) hK
theorem zd7 [zag] {P:Program} {s:St} {K:St→Prop} {f:FuncId} {args lents:List PV} {Ka:RV→Prop} {d k v:Nat} {t:TypeId} {bs:List Int} {i:Nat} {h:Int} {fr:Bool} {F:Nat→Int→Value × Nat × Int} {us:Dm s} {u:Dm K} (hc:zmV P f t bs args F) (hp:zbB args)
 (hk:s.rw k = ⟨v,.box t [.sl fr 1 (kL .u8 bs),.v (.int .i64 i),.v (.int .i64 h)]⟩) (hdk:(d % 1000 == k % 1000) = false)
 (hK:K ((s.row k ⟨v,.box t [.sl false 1 (kL .u8 bs),.v (.int .i64 (F i h).2.1),.v (.int .i64 (F i h).2.2)]⟩).put (some d) (.v (F i h).1))) :
 zhY P f lents Ka (zqy P f lents (.ref k v 0 :: args) (some d) (kk s us) (kk K u)):=.inr (.inr (.inr (.inr (hc.askG hp hk hdk hK))))
def zAL (t:TypeId) (bs:List Int) (L:Row) (x:Value × Nat × Int) (R1:Nat→Row) (p:PV):Prop:=p = .v x.1∧R1 1000000 = ⟨1,zjU t bs x.2.1 x.2.2⟩∧R1 1000500 = L
def zyN [zag] (P:Program) (f:FuncId) (t:TypeId) (bs:List Int) (e:TypeId) (c:List PV) (F:Nat→Int→Value × Nat × Int):Prop :=
 ∀ (i:Nat) (h:Int),AG P f [.ref 1000000 1 0,.own 1000500 1] (zt7 t bs i h ⟨1,.sli e 1 false c⟩) (zAL t bs ⟨1,.sli e 1 false c⟩ (F i h))
theorem zyN.toCur [zag] {P:Program} {f:FuncId} {t:TypeId} {bs:List Int} {e:TypeId} {c:List PV} {F:Nat→Int→Value × Nat × Int} {Q:RV→Prop} (hc:zyN P f t bs e c F) (hQ:∀ i h,Q (.im (.v (F i h).1))):zCs P f t bs ⟨1,.sli e 1 false c⟩ [.own 1000500 1] Q:=fun i h=>by
 obtain ⟨h1,h2⟩:=hc i h
 refine ⟨h1,fun w M E vals hw hR hv=>(h2 w M E vals hw hR hv).mono ?_⟩
 rintro en w' ⟨E',p,v,e1,e2,e3,e4,e5,e6⟩
 exact ⟨E',p,v,e1,e2,e3,_,(F i h).2.1,(F i h).2.2,[],hQ i h,by rw [e4];exact .one (.lf (.im _)),List.nodup_nil,e5,e6⟩
theorem zyN.askG [zag] {P:Program} {s:St} {K:St→Prop} {f:FuncId} {d k v j vj:Nat} {t e:TypeId} {c:List PV} {bs:List Int} {i:Nat} {h:Int} {fr:Bool} {F:Nat→Int→Value × Nat × Int} (hc:zyN P f t bs e c F) (hp:zbB c)
 (hk:s.rw k = ⟨v,.box t [.sl fr 1 (kL .u8 bs),.v (.int .i64 i),.v (.int .i64 h)]⟩) (hj:s.rw j = ⟨vj,.sli e 1 false c⟩) (hdk:(d % 1000 == k % 1000) = false) (hdj:(d % 1000 == j % 1000) = false) (hkj:(k % 1000 == j % 1000) = false)
 (hK:K ((s.row k ⟨v,.box t [.sl false 1 (kL .u8 bs),.v (.int .i64 (F i h).2.1),.v (.int .i64 (F i h).2.2)]⟩).put (some d) (.v (F i h).1))):Go.Abs.askG P s f [.ref k v 0,.own j vj] (some d) K:=by
 have hkj':k ≠ j:=fun e=>beq_eq_false_iff_ne.1 hkj (by rw [e])
 refine zre (hc i h) (zhP k (some j)) (.one (zcq (by rw [hk])) (.one (zmU (by rw [hj])) .nil)) ⟨fun a ha=>?_,fun a b x na nb ha hb=>?_,fun _ _ _ _ h=>h⟩ (fun a x ha hx=>?_) fun R1 p ⟨e1,e2,e3⟩=>?_
 ·rcases zbN ha with rfl | ⟨rfl,_⟩
  ·refine ⟨Nat.le_refl _,by rw [zbR];exact Nat.one_pos,k,zaP _ _,?_⟩
   rw [zbR,hk]
   exact ⟨rfl,.one (.sl _ _ _) (.one (.v _) (.one (.v _) .nil))⟩
  ·refine ⟨by decide,by rw [zcK];exact Nat.one_pos,j,zbd _ _,?_⟩
   rw [zcK,hj]
   exact ⟨rfl,rfl,rfl,hp⟩
 ·rcases zbN na with rfl | ⟨rfl,_⟩ <;> rcases zbN nb with rfl | ⟨rfl,_⟩
  ·rfl
  ·rw [zaP] at ha;rw [zbd] at hb;cases ha;cases hb;exact absurd rfl hkj'
  ·rw [zaP] at hb;rw [zbd] at ha;cases ha;cases hb;exact absurd rfl hkj'
  ·rfl
 ·rcases zbN ha with rfl | ⟨rfl,_⟩
  ·rw [zaP] at hx;cases hx;exact hdk
  ·rw [zbd] at hx;cases hx;exact hdj
 ·refine ⟨.im (.v (F i h).1),[],s.row k ⟨v,.box t [.sl false 1 (kL .u8 bs),.v (.int .i64 (F i h).2.1),.v (.int .i64 (F i h).2.2)]⟩,by rw [e1];exact .one (.lf (.im _)),List.nodup_nil,fun a ha=>?_,rfl,fun a x ha hx=>?_,fun x hx=>?_,by rw [zdp];exact hK⟩
  ·rcases zbN ha with rfl | ⟨rfl,_⟩
   ·rw [e2,zbR];exact ⟨rfl,fun _ _=>rfl⟩
   ·rw [e3,zcK];exact ⟨rfl,fun _ _=>rfl⟩
  ·rcases zbN ha with rfl | ⟨rfl,_⟩
   ·rw [zaP] at hx;cases hx
    rw [zaE,hk,e2];rfl
   ·rw [zbd] at hx;cases hx
    rw [zao _ _ _ _ (Ne.symm hkj'),hj,e3]
  ·exact zao _ _ _ _ fun e=>hx 1000000 (by rw [zbR];rfl) (by rw [e];exact zaP _ _)
theorem zeQ (T:Tab) (s:St) (r1 r2:ResultVar) (post:(Nat→Row)→PV→Prop):zxO T s [r1,r2] post = zvO T s [r1,r2] (kk fun ps=>post s.rw (.tup ps)):=(rfl)
end Go.Abs

/- DERIVED by an AI agent. Texts told step by step where the abstract walk has no rule: a code's meaning over states; the end of an own row put behind another row. No program in sight. -/
namespace Go.Abs
set_option linter.unusedSimpArgs false
set_option linter.unusedVariables false
section
variable {P:Program} {T:Tab} {n:Nat} {Q:AX→St→Prop} {s:St}
theorem zeg [zag] {x y:Code} (h:zqH P n x (AX.seq (zqH P n y Q) Q) s):zqH P n (.seq x y) Q s:=fun G hn a w hs=>by
 refine wp_seq (wp_mono (h G hn a w hs) fun e a' w' h=>?_)
 cases e with
 | normal=>obtain ⟨s',hs',hq⟩:=h;exact hq G hn a' w' hs'
 | exit id=>exact h
 | ret=>exact h
 | goto l=>exact h.elim
 | panic ch=>exact h.elim
 | outgrown=>exact h.elim
theorem zfg [zag] {id:Nat} {x:Code} (h:zqH P n x (AX.blk id Q) s):zqH P n (.block id x) Q s:=fun G hn a w hs=>by
 refine wp_block (wp_mono (h G hn a w hs) fun e a' w' h=>?_)
 cases e with
 | normal=>exact h
 | exit i =>
   obtain ⟨s',hs',hq⟩:=h
   simp only [Exit.inBlock]
   simp only [AX.blk] at hq
   by_cases hi:i = id
   ·rw [if_pos hi] at hq ⊢;exact ⟨s',hs',hq⟩
   ·rw [if_neg hi] at hq ⊢;exact ⟨s',hs',hq⟩
 | ret=>exact h
 | goto l=>exact h.elim
 | panic ch=>exact h.elim
 | outgrown=>exact h.elim
theorem zzT [zag] {x:Code} (h:zqG (zqH P n x) Q s):zqH P n (.loop x) Q s:=fun G hn a w hs=>by
 obtain ⟨α,I,μ,⟨x0,s0,hw0,hI0⟩,hround⟩:=h
 have key:∀ m x1 s1,μ x1 = m→I x1 s1→∀ a w,Sim G s1 a w→∀ (b:Frame) (k:List Item) (cs:List Frame),
  ∃ e a' w',zFL G Q e a' w'∧Arrives P (lone (b.at a (.code x :: .inLoop x :: k)) cs w) b k cs e a' w':=by
  intro m
  induction m using Nat.strongRecOn with
  | _ m ihn =>
    intro x1 s1 hm hI a w hs b k cs
    obtain ⟨e,a₁,w₁,hq,harr⟩:=hround x1 s1 hI G hn a w hs b (.inLoop x :: k) cs
    cases e with
    | normal =>
      obtain ⟨s2,hs2,x',s3,hw3,hI3,hlt⟩:=hq
      obtain ⟨e₂,a₂,w₂,hq₂,harr₂⟩:=ihn (μ x') (hm ▸ hlt) x' s3 rfl hI3 a₁ w₁ (hw3 G a₁ w₁ hs2) b k cs
      exact ⟨e₂,a₂,w₂,hq₂,.of_steps (Steps.trans harr (.one step_inLoop)) harr₂⟩
    | exit id=>exact ⟨.exit id,a₁,w₁,hq,.pass (x:=.inLoop x) rfl (fun _ _=>.inl (by simp)) harr⟩
    | ret=>exact ⟨.ret,a₁,w₁,hq,.pass (x:=.inLoop x) rfl (fun _ _=>.inl (by simp)) harr⟩
    | goto l=>exact hq.elim
    | panic ch=>exact hq.elim
    | outgrown=>exact hq.elim
 intro b k cs
 obtain ⟨e,a',w',hq,harr⟩:=key _ x0 s0 rfl hI0 a w (hw0 G a w hs) b k cs
 exact ⟨e,a',w',hq,.of_steps (.one step_loop) harr⟩
def zvL [zag] (P:Program) (n:Nat) (ops:Array Oper) (l:List Oper) (K:St→Prop) (s:St):Prop :=
 ∀ G:Ghost,G.n = n→∀ (Q:Exit→Act→World→Prop),(∀ s' a' w',K s'→Sim G s' a' w'→Q .normal a' w')→∀ (a:Act) (w:World),Sim G s a w→wpList P ops Q l a w
theorem zkm [zag] {id:Nat} {ops:Array Oper} (h:zvL P n ops ops.toList (Q .norm) s):zqH P n (.region id ops false) Q s :=
 fun G hn a w hs=>wp_region_list (h G hn _ (fun s' a' w' hq hs'=>⟨s',hs',hq⟩) a w hs)
end
theorem zci [zag] {P:Program} {T:Tab} {n:Nat} {s:St} {ops:Array Oper} {o:Oper} {l:List Oper} {K:St→Prop} (hT:T.Ok P) (hg:o.guard = none) (hd:∀ d,o.dst = some d→d < n) (h:zdI P T s o fun s'=>zvL P n ops l K s'):zvL P n ops (o :: l) K s :=
 fun G hn Q hQ a w hs=>wpList_plain hg fun K1 hK1=>zpt hT (fun d hod=>by rw [hn];exact hd d hod) h hs fun s' a' w' hk hs'=>hK1 a' w' (hk G hn Q hQ a' w' hs')
theorem zql [zag] {P:Program} {n:Nat} {s:St} {ops:Array Oper} {K:St→Prop} (h:K s):zvL P n ops [] K s:=fun G hn Q hQ a w hs=>hQ s a w h hs
theorem zcB [zag] {P:Program} {T:Tab} {n:Nat} {Q:AX→St→Prop} {s:St} {x y:Code} (hT:T.Ok P) (hm:P.follows .mixedOrders = true) (hf:fits n x = true) (h:cwp P T x (AX.seq (zqH P n y Q) Q) s):zqH P n (.seq x y) Q s:=zeg (zeA hT hm hf h)
theorem zmg [zag] {P:Program} {n:Nat} {Q:AX→St→Prop} {s:St} {x:Code} (h:zqG (kk (zqH P n x)) (kk Q) s):zqH P n (.loop x) Q s:=zzT h
theorem zmh [zag] {P:Program} {T:Tab} {n:Nat} {s:St} (hT:T.Ok P) {ops:Array Oper} {o1 o2:Oper} {l:List Oper} {K:St→Prop} {t e:TypeId} {x lo z:Operand} {d d2 k v j vj:Nat} {c c0:List PV} {kd:IntKind} {m:Int}
 (g1:o1.guard = none) (h1:o1.op = .slice t x (some lo) none none) (hd1:o1.dst = some d) (hdn:d < n)
 (g2:o2.guard = none) (h2:o2.op = .call ⟨.builtin .append,#[z,.tmp d],#[t,t]⟩) (hd2:o2.dst = some d2) (hdn2:d2 < n)
 (ht:0 < (T t).size) (hkt:(T t).k = .sli e) (he:0 < (T e).size) (he1:(T e).size = 1) (hby:0 < (T e).bytes)
 (hx:s.ev x = .own k v) (hr:s.rw k = ⟨v,.sli e 1 false c⟩) (hc:∀ p ∈ c,isV p = true)
 (hlo:s.ev lo = .v (.int kd m)) (h0:0 ≤ m) (hm:m ≤ (c.length:Int))
 (hz:(s.put (some d) .junk).ev z = .own j vj) (hj:s.rw j = ⟨vj,.sli e 1 false c0⟩) (hlen:(c0.length + (c.length - m.toNat)) * (T e).bytes ≤ 140737488355328)
 (hk:zvL P n ops l K (zcG (s.put (some d) .junk) d2 j (.sli e (T e).size false (c0 ++ c.drop m.toNat)))):zvL P n ops (o1 :: o2 :: l) K s:=by
 intro G hn Q hQ a w hs
 refine wpList_plain g1 fun K1 hK1=>?_
 obtain ⟨E,hs⟩:=hs
 have hR:=hs.rw
 have hRk:E.R k = ⟨v,.sli e 1 false c⟩:=by rw [hR];exact hr
 have hxr:=zay hs.slots x
 rw [hx] at hxr
 have hyr:=zay hs.slots lo
 rw [hlo] at hyr
 have hye:=hyr.v_eq
 have hxe:a.eval x = E.rv k:=by cases hxr with | own hv hx=>exact hx (by rw [hRk]) (by rw [hRk];rfl)
 have hf:=(hT t ht).k
 rw [hkt] at hf
 have hu:P.underlying t = some (.slice e):=hf
 have hsize:=zaN (hT e he) w
 rw [he1] at hsize
 have hrw:=hs.wok.rows k
 unfold zas at hrw
 rw [hRk] at hrw
 have hmm:((m.toNat:Nat):Int) = m:=by omega
 obtain ⟨ax,q,cap,ws,hrun,w1,w2,w3,w4⟩:∃ ax q cap ws,(execOp a.eval o1).run P w = .ok (.value (.slice ax q cap)) w∧ws.length = q * (T e).size∧(∀ u ∈ ws,u.oneCell' = true) ∧
  (∀ i u,ws[i]? = some u→∃ b o,ax = some ⟨b,o,none⟩∧w.cell? ⟨b,o + i,none⟩ = some u)∧zbf w E.bare E.B (c.drop m.toNat) ws:=by
  rcases hrw with ⟨g1,g2,g3⟩ | ⟨b,n,cap,vs,rest,g1,g2,g3,g4,g5,g6,g7,g8,g9⟩
  ·subst g3
   have hm0:m = 0:=by simp at hm;omega
   subst hm0
   have hb:(Instr.sliceBounds true 0 0 (some (.int kd 0)) none none).run P w = .ok (0,0,0) w:=by simp [Instr.sliceBounds,run_sliceBound]
   exact ⟨none,0,0,[],by simp [execOp,h1,hxe,g2,hye,Instr.sliceAt,run_underlying hu,Instr.slice,hb,hsize],by simp,by simp,by simp,⟨rfl,fun i p=>absurd p (by simp)⟩⟩
  ·have hvl:c.length = vs.length:=g9.1
   have hvn:vs.length = n:=by simpa using g5
   have hmn:m ≤ (n:Int):=by omega
   have hb:(Instr.sliceBounds true n cap (some (.int kd m)) none none).run P w = .ok (m.toNat,n,cap) w:=by
    simp [Instr.sliceBounds,run_sliceBound,h0,hmn]
   refine ⟨some ⟨b,if cap = m.toNat then 0 else m.toNat,none⟩,n - m.toNat,cap - m.toNat,vs.drop m.toNat,by simp [execOp,h1,hxe,g3,hye,Instr.sliceAt,run_underlying hu,Instr.slice,hb,hsize,zcD];split <;> simp_all,by simp [he1,hvn],fun u hu=>?_,fun i u hu=>?_,by simp [hvl],fun i p q=>?_⟩
   ·obtain ⟨i,hi,rfl⟩:=List.getElem_of_mem hu
    rw [List.getElem_drop]
    have hi2:m.toNat + i < c.length:=by simp at hi;omega
    exact (zg4 (lo':=0) (w':=w) (E':=E) (hc _ (List.getElem_mem hi2)) (g9.2 _ hi2 (by omega))).2
   ·refine ⟨b,_,rfl,?_⟩
    rw [List.getElem?_drop] at hu
    obtain ⟨hi2,hu⟩:=List.getElem?_eq_some_iff.1 hu
    rw [if_neg (by omega)]
    simp [World.cell?,g4,List.getElem?_append,hi2,hu]
   ·rw [List.getElem_drop,List.getElem_drop]
    exact g9.2 _ (by simp at p;omega) (by simp at q;omega)
 refine zcw hrun (hK1 _ _ ?_)
 have hs1:SimE G E (s.put (some d) .junk) (a.put o1.dst (.slice ax q cap)) w:=by rw [hd1];exact hs.put (fun x hx=>by have hq:=Option.some.inj hx;omega) (.junk _)
 have hd':(a.put o1.dst (.slice ax q cap)).eval (.tmp d) = .slice ax q cap:=by
  have hsz:=hs.size
  rw [hd1]
  simp [Act.eval,Act.put,Array.getD_eq_getD_getElem?,(by omega:d < a.tmps.size)]
 generalize ea:a.put o1.dst (.slice ax q cap) = a1 at hs1 hd'
 refine wpList_plain g2 fun K2 hK2=>?_
 have hx:=zay hs1.slots z
 rw [hz] at hx
 have hRj:E.R j = ⟨vj,.sli e 1 false c0⟩:=by rw [hR];exact hj
 have hslice:(E.R j).kind.slice = true:=by rw [hRj];rfl
 have hnd:=RK.nd_of_slice hslice
 obtain ⟨vs,hphys,hrepc⟩:∃ vs,zC7 w e (T e).size (E.rm j) (E.rv j) vs∧zbf w E.bare E.B c0 vs:=by
  have hrow:=hs.wok.rows j
  unfold zas at hrow
  rw [hRj] at hrow
  rw [he1]
  rcases hrow with ⟨g1,g2,g3⟩ | ⟨b,n,cap,vs,rest,g1,g2,g3,g4,g5,g6,g7,g8,g9⟩
  ·subst g3;exact ⟨[],.inl ⟨g1,g2,rfl⟩,⟨rfl,fun i p=>absurd p (by simp)⟩⟩
  ·exact ⟨vs,.inr ⟨b,n,cap,rest,g1,g3,g4,g5,g6,g7,g8⟩,g9⟩
 have hze:a1.eval z = E.rv j:=by cases hx with | own hv hx=>exact hx (by rw [hRj]) hslice
 obtain ⟨v',w',m',hrun,hap⟩:=zdY (P:=P) hT o2.type ht hkt he hby hphys w1 w3 w2 (by rw [← hrepc.1,← w4.1,List.length_drop];exact hlen)
 rw [← hze,← hd'] at hrun
 have hver':(E.R j).ver = vj:=by rw [hRj]
 have hlive:(E.R j).kind.live = true:=by rw [hRj];rfl
 have hturn:OneTurn E w w' j ⟨vj + 1,.sli e (T e).size false (c0 ++ c.drop m.toNat)⟩ m' v' :=
  ⟨fun b hb hne=>hap.block b hb fun h=>absurd (hne h) (by rw [hlive];decide),
   fun b hb _=>(by
    rcases hap.fresh b hb with h | h
    ·exact .inr ⟨h,hnd,fun _=>hlive⟩
    ·exact .inl h),
   by rw [hver'];exact Nat.le_succ _,fun h=>by rw [hver'] at h;simp at h,fun h=>by rw [hver'] at h;simp at h,fun _=>Nat.succ_pos _,hap.size,hap.os,hap.tape,hap.output⟩
 refine zdW (fz:=[]) (p:=.own j (vj + 1)) hs1 (zbU h2 hrun) hturn (by simp) (fun hl=>?_) ?_ (fun x hx=>by rw [hd2] at hx;cases hx;rw [hn];exact hdn2) (fun a' w' h=>hK2 a' w' ?_)
 ·refine zeF (fz:=false) (c:=c0 ++ c.drop m.toNat) hap hs.wok rfl (fun b hb hn=>(hs.wok.block hb hn).2) (fun _=>hnd) (by simp [Env.turn,zai]) (by simp [Env.turn,zai]) (by simp [Env.turn,zai]) ?_
  exact (hrepc.mono hl.bare (Nat.le_refl _)).append (w4.mono hl.bare (Nat.le_refl _))
 ·exact .own (by simp [Env.turn,zai]) fun _ _=>by simp [Env.turn,zai]
 ·rw [St.freeze_nil,hd2] at h
  have e1:((s.put (some d) .junk).rw j).ver = vj:=by rw [zew,hj]
  refine hk G hn Q hQ a' w' ?_
  unfold zcG
  rw [e1]
  exact h
theorem AG.goS [zag] {P:Program} {T:Tab} {f:FuncId} {fn:Func} {c:Code} {rs:List ResultVar} {args:List PV} {R0:Nat→Row} {post:(Nat→Row)→PV→Prop} (hT:T.Ok P) (hm:P.follows .mixedOrders = true) (hf:P.funcs[f]? = some fn) (hname:(fn.name == "runtime.NumGoroutine") = false)
 (hb:fn.body = some c) (hr:fn.results.toList = rs) (hfit:(fits fn.ntmps c && decide (args.length ≤ fn.ntmps) && decide (fn.results.toList.length ≤ 4)) = true)
 (h:(∀ k,zhD (R0 k).kind)→∀ s:St,(∀ i,s.sl i = args.getD i .junk)→(∀ k,s.rw k = R0 k)→zqH P fn.ntmps c (zxP T rs post) s):AG P f args R0 post:=by
 subst hr
 exact AG.ofS hT hm hf hname hb hfit fun hl=>h hl _ (fun _=>rfl) (fun _=>rfl)
end Go.Abs

/- DERIVED by an AI agent. A function's result told otherwise; tables drawn. No program in sight. -/
namespace Go.Abs
set_option linter.unusedSimpArgs false
set_option linter.unusedVariables false
def zFb (p:PV) (R1:Nat→Row):St:=⟨fun i=>if i = 0 then p else .junk,R1⟩
theorem AG.wk [zag] {P:Program} {f:FuncId} {args:List PV} {R0:Nat→Row} {post0 post:(Nat→Row)→PV→Prop} (h:AG P f args R0 post0)
 (hc:∀ R1 p,post0 R1 p→∃ s',Wk (zFb p R1) s'∧post s'.rw (s'.sl 0)):AG P f args R0 post:=by
 refine ⟨h.1,fun w M E vals hw hR hv=>(h.2 w M E vals hw hR hv).mono fun en w' ⟨E',p,v,he,hw',hrep,hpost⟩=>?_⟩
 obtain ⟨s',hwk,hs'⟩:=hc _ _ hpost
 have hsim:Sim ⟨w,M,1,E.R,E.rm,E.rv,E.X⟩ (zFb p E'.R) { tmps:=#[v],defers:=[] } w':=by
  refine ⟨E',rfl,⟨hw'.1,hw'.2,hw'.3,hw'.4,hw'.5,hw'.6,hw'.7,hw'.8,⟨hw'.9.1,hw'.9.2,hw'.9.3,hw'.9.4,hw'.9.5⟩,hw'.10⟩,rfl,rfl,fun i=>?_⟩
  cases i with
  | zero=>exact hrep
  | succ i=>exact .junk _
 obtain ⟨E2,q⟩:=hwk _ _ _ hsim
 refine ⟨E2,s'.sl 0,v,he,⟨q.wok.1,q.wok.2,q.wok.3,q.wok.4,q.wok.5,q.wok.6,q.wok.7,q.wok.8,⟨q.wok.9.1,q.wok.9.2,q.wok.9.3,q.wok.9.4,q.wok.9.5⟩,q.wok.10⟩,q.slots 0,?_⟩
 rw [q.rw];exact hs'
end Go.Abs

/- DERIVED by an AI agent. Functions that are given a cursor and draw from it: what they hand back is told by what holds of it. No program in sight. -/
import Derived.Test.YtpnknaaehcljoaaA13
namespace Go.Abs
set_option linter.unusedSimpArgs false
set_option linter.unusedVariables false
abbrev zbo:=Nat × (TypeId × Option Nat × List PV)
inductive LfG (R:Nat→Row):RV→PV→List zbo→Prop
 | im (x:Value):LfG R (.im (.v x)) (.v x) []
 | sl (fr:Bool) (sz:Nat) (c:List PV):LfG R (.im (.sl fr sz c)) (.sl true sz c) []
 | fr {e sz k v:Nat} {c:List PV} (h:R k = ⟨v,.sli e sz false c⟩) (hk:k < 1000000):LfG R (.fr e sz c) (.own k v) [(k,(e,some sz,c))]
inductive LfsG (R:Nat→Row):List RV→List PV→List zbo→Prop
 | nil:LfsG R [] [] []
 | cons {a:RV} {p:PV} {i:List zbo} {l:List RV} {ps:List PV} {is:List zbo} (h:LfG R a p i) (t:LfsG R l ps is):LfsG R (a :: l) (p :: ps) (i ++ is)
inductive G1 (R:Nat→Row):RV→PV→List zbo→Prop
 | lf {a:RV} {p:PV} {i:List zbo} (h:LfG R a p i):G1 R a p i
 | ag {l:List RV} {ps:List PV} {i:List zbo} (h:LfsG R l ps i):G1 R (.ag l) (.ag ps) i
inductive G1s (R:Nat→Row):List RV→List PV→List zbo→Prop
 | nil:G1s R [] [] []
 | cons {a:RV} {p:PV} {i:List zbo} {l:List RV} {ps:List PV} {is:List zbo} (h:G1 R a p i) (t:G1s R l ps is):G1s R (a :: l) (p :: ps) (i ++ is)
inductive G2 (R:Nat→Row):RV→PV→List zbo→Prop
 | one {a:RV} {p:PV} {i:List zbo} (h:G1 R a p i):G2 R a p i
 | tup {l:List RV} {ps:List PV} {i:List zbo} (h:G1s R l ps i):G2 R (.tup l) (.tup ps) i
section
variable {R:Nat→Row} {rho1:Nat→Option Nat} {nv:Nat→Nat} {vr:Nat→Nat} {d:Nat}
def Fits (R:Nat→Row) (rho1:Nat→Option Nat) (nv vr:Nat→Nat) (d i:Nat) (ids:List zbo):Prop :=
 ∀ j (h:j < ids.length),rho1 ids[j].1 = some (zan d (i + j))∧nv ids[j].1 = vr (zan d (i + j)) + 1
theorem Fits.left {i:Nat} {a b:List zbo} (h:Fits R rho1 nv vr d i (a ++ b)):Fits R rho1 nv vr d i a:=fun j hj=>by
 have:=h j (by rw [List.length_append];omega)
 rwa [List.getElem_append_left hj] at this
theorem Fits.right {i:Nat} {a b:List zbo} (h:Fits R rho1 nv vr d i (a ++ b)):Fits R rho1 nv vr d (i + a.length) b:=fun j hj=>by
 have:=h (a.length + j) (by rw [List.length_append];omega)
 rw [List.getElem_append_right (by omega)] at this
 simpa [Nat.add_assoc] using this
theorem LfG.leaves [zah] {a:RV} {p:PV} {i:List zbo} (h:LfG R a p i):Go.Abs.leaves a = i.map (·.2):=by
 cases h <;> simp [Go.Abs.leaves]
theorem LfsG.leaves [zah] {l:List RV} {ps:List PV} {i:List zbo} (h:LfsG R l ps i):(l.map Go.Abs.leaves).flatten = i.map (·.2):=by
 induction h with
 | nil=>rfl
 | cons h t ih=>simp [ih,h.leaves]
theorem G1.leaves [zah] {a:RV} {p:PV} {i:List zbo} (h:G1 R a p i):Go.Abs.leaves a = i.map (·.2):=by
 cases h with
 | lf h=>exact h.leaves
 | ag h=>rw [zbs];exact h.leaves
theorem G1s.leaves [zah] {l:List RV} {ps:List PV} {i:List zbo} (h:G1s R l ps i):(l.map Go.Abs.leaves).flatten = i.map (·.2):=by
 induction h with
 | nil=>rfl
 | cons h t ih=>simp [ih,h.leaves]
theorem G2.leaves [zah] {a:RV} {p:PV} {i:List zbo} (h:G2 R a p i):Go.Abs.leaves a = i.map (·.2):=by
 cases h with
 | one h=>exact h.leaves
 | tup h=>rw [zbf];exact h.leaves
theorem LfG.row {a:RV} {p:PV} {i:List zbo} (h:LfG R a p i):∀ x ∈ i,x.1 < 1000000∧∃ v sz,x.2.2.1 = some sz∧R x.1 = ⟨v,.sli x.2.1 sz false x.2.2.2⟩:=by
 cases h with
 | im=>simp
 | sl=>simp
 | fr h hk=>intro x hx;rw [List.mem_singleton.1 hx];exact ⟨hk,_,_,rfl,h⟩
theorem LfsG.row {l:List RV} {ps:List PV} {i:List zbo} (h:LfsG R l ps i):∀ x ∈ i,x.1 < 1000000∧∃ v sz,x.2.2.1 = some sz∧R x.1 = ⟨v,.sli x.2.1 sz false x.2.2.2⟩:=by
 induction h with
 | nil=>simp
 | cons h t ih=>intro x hx;exact (List.mem_append.1 hx).elim (h.row x) (ih x)
theorem G1.row {a:RV} {p:PV} {i:List zbo} (h:G1 R a p i):∀ x ∈ i,x.1 < 1000000∧∃ v sz,x.2.2.1 = some sz∧R x.1 = ⟨v,.sli x.2.1 sz false x.2.2.2⟩:=by
 cases h with
 | lf h=>exact h.row
 | ag h=>exact h.row
theorem G1s.row {l:List RV} {ps:List PV} {i:List zbo} (h:G1s R l ps i):∀ x ∈ i,x.1 < 1000000∧∃ v sz,x.2.2.1 = some sz∧R x.1 = ⟨v,.sli x.2.1 sz false x.2.2.2⟩:=by
 induction h with
 | nil=>simp
 | cons h t ih=>intro x hx;exact (List.mem_append.1 hx).elim (h.row x) (ih x)
theorem G2.row {a:RV} {p:PV} {i:List zbo} (h:G2 R a p i):∀ x ∈ i,x.1 < 1000000∧∃ v sz,x.2.2.1 = some sz∧R x.1 = ⟨v,.sli x.2.1 sz false x.2.2.2⟩:=by
 cases h with
 | one h=>exact h.row
 | tup h=>exact h.row
theorem LfG.ren [zah] {a:RV} {p:PV} {ids:List zbo} {i:Nat} (h:LfG R a p ids) (hf:Fits R rho1 nv vr d i ids):zsX rho1 R nv true p = za8 vr d a i:=by
 cases h with
 | im x=>rfl
 | sl=>rfl
 | fr h hk =>
   have:=hf 0 (by simp)
   simp only [List.getElem_cons_zero,Nat.add_zero] at this
   rw [zeg,this.1,h]
   simp only [beq_self_eq_true]
   rw [this.2];rfl
theorem LfG.ren1 [zah] {a:RV} {p:PV} {ids:List zbo} {i:Nat} (h:LfG R a p ids) (hf:Fits R rho1 nv vr d i ids):Go.Abs.ren1 rho1 R nv true p = zbk vr d a i:=by
 have:=h.ren hf
 cases h with
 | im x=>rfl
 | sl=>rfl
 | fr h hk=>exact this
theorem LfsG.ren [zah] {l:List RV} {ps:List PV} {ids:List zbo} (h:LfsG R l ps ids):∀ {i:Nat},Fits R rho1 nv vr d i ids→ps.map (zsX rho1 R nv true) = zaU (za8 vr d) l i:=by
 induction h with
 | nil=>intro i _;rfl
 | cons h t ih =>
   intro i hf
   rw [List.map_cons,zaU,h.ren hf.left,ih hf.right,h.leaves,List.length_map]
theorem G1.ren [zah] {a:RV} {p:PV} {ids:List zbo} {i:Nat} (h:G1 R a p ids) (hf:Fits R rho1 nv vr d i ids):Go.Abs.ren1 rho1 R nv true p = zbk vr d a i:=by
 cases h with
 | lf h=>exact h.ren1 hf
 | ag h=>show PV.ag _ = PV.ag _;rw [h.ren hf]
theorem G1s.ren [zah] {l:List RV} {ps:List PV} {ids:List zbo} (h:G1s R l ps ids):∀ {i:Nat},Fits R rho1 nv vr d i ids→ps.map (Go.Abs.ren1 rho1 R nv true) = zaU (zbk vr d) l i:=by
 induction h with
 | nil=>intro i _;rfl
 | cons h t ih =>
   intro i hf
   rw [List.map_cons,zaU,h.ren hf.left,ih hf.right,h.leaves,List.length_map]
theorem LfsG.ren' [zah] {l:List RV} {ps:List PV} {ids:List zbo} (h:LfsG R l ps ids):∀ {i:Nat},Fits R rho1 nv vr d i ids→ps.map (zsX rho1 R nv true) = zaU (zbk vr d) l i:=by
 induction h with
 | nil=>intro i _;rfl
 | @cons a p _ _ _ _ h t ih =>
   intro i hf
   have e:zsX rho1 R nv true p = zbk vr d a i:=by
    rw [h.ren hf.left]
    cases h <;> rfl
   rw [List.map_cons,zaU,e,ih hf.right,h.leaves,List.length_map]
theorem G2.ren [zah] {a:RV} {p:PV} {ids:List zbo} (h:G2 R a p ids) (hf:Fits R rho1 nv vr d 0 ids):zzo rho1 R nv true p = zaJ vr d a 0:=by
 cases h with
 | one h =>
   cases h with
   | lf h =>
     have:=h.ren hf
     cases h with
     | im x=>rfl
     | sl=>rfl
     | fr h hk=>exact this
   | ag h=>show PV.ag _ = PV.ag _;rw [h.ren' hf]
 | tup h=>show PV.tup _ = PV.tup _;rw [h.ren hf]
end
theorem zs2 [zah] (d i:Nat):zan d i % 1000 = d % 1000:=by unfold zan;omega
theorem zpo [zah] {P:Program} {s:St} {K:St→Prop} {f:FuncId} {args raw:List PV} {d:Nat} {R0:Nat→Row} {post:(Nat→Row)→PV→Prop}
 (hc:AG P f args R0 post) (rho:Nat→Option Nat) (hl:GvL rho (fun _=>False) R0 s.rw args raw) (hg:Give rho (fun _=>False) R0 s.rw)
 (hd:∀ a j,(R0 a).kind.nd = true→rho a = some j→(d % 1000 == j % 1000) = false)
 (hpost:∀ R1 p,post R1 p→∃ (rv:RV) (ids:List zbo) (s':St),G2 R1 rv p ids∧(ids.map (·.1)).Nodup∧(∀ a,(R0 a).kind.nd = true→(R1 a).ver = (R0 a).ver∧∀ rho1 nv,zlo rho1 R1 nv true (R1 a).kind = (R1 a).kind)∧s'.sl = s.sl ∧
  (∀ a j,(R0 a).kind.nd = true→rho a = some j→s'.rw j = ⟨(s.rw j).ver,(R1 a).kind⟩)∧(∀ j,(∀ a,(R0 a).kind.nd = true→rho a ≠ some j)→s'.rw j = s.rw j)∧K (zam s' d rv)) :
 askG P s f raw (some d) K:=by
 refine ⟨args,R0,post,rho,_,hc,hl,hg,fun R1 p hp=>?_⟩
 obtain ⟨rv,ids,s',hG,hnd,hver,hsl,hgiv,hoth,hK⟩:=hpost R1 p hp
 have hrow:=hG.row
 have hlow:∀ a,(R0 a).kind.nd = true→1000000 ≤ a:=fun a ha=>(hg.row a ha).1
 have hsm:∀ n (hn:n < ids.length),¬ (R0 ids[n].1).kind.nd = true:=fun n hn h=>by
  have:=(hrow _ (List.getElem_mem hn)).1;have:=hlow _ h;omega
 let rho1:Nat→Option Nat:=fun a=>if (R0 a).kind.nd = true then rho a else (ids.findIdx? (fun x=>x.1 == a)).map (zan d)
 let nv:Nat→Nat:=fun a=>if (R0 a).kind.nd = true then ((rho a).map fun j=>(s.rw j).ver).getD 0 else (match ids.findIdx? (fun x=>x.1 == a) with | some n=>(s.rw (zan d n)).ver + 1 | none=>0)
 have hfi:∀ n (hn:n < ids.length),ids.findIdx? (fun x=>x.1 == ids[n].1) = some n:=fun n hn=>by
  rw [List.findIdx?_eq_some_iff_getElem]
  refine ⟨hn,by simp,fun j hj=>?_⟩
  simp only [beq_iff_eq]
  intro e
  have h1:(ids.map (·.1))[j]'(by simp;omega) = (ids.map (·.1))[n]'(by simpa using hn):=by simpa using e
  exact absurd ((List.getElem_inj hnd).1 h1) (by omega)
 have r1:∀ a,(R0 a).kind.nd = true→rho1 a = rho a:=fun a h=>if_pos h
 have r3:∀ n (hn:n < ids.length),rho1 ids[n].1 = some (zan d n):=fun n hn=>by
  show (if (R0 ids[n].1).kind.nd = true then _ else _) = _
  rw [if_neg (hsm n hn),hfi n hn];rfl
 have n1:∀ a j,(R0 a).kind.nd = true→rho a = some j→nv a = (s.rw j).ver:=fun a j h hj=>by
  show (if (R0 a).kind.nd = true then _ else _) = _
  rw [if_pos h,hj];rfl
 have n3:∀ n (hn:n < ids.length),nv ids[n].1 = (s.rw (zan d n)).ver + 1:=fun n hn=>by
  show (if (R0 ids[n].1).kind.nd = true then _ else _) = _
  rw [if_neg (hsm n hn),hfi n hn]
 have inv:∀ a x,rho1 a = some x→((R0 a).kind.nd = true∧rho a = some x) ∨ ∃ n,∃ hn:n < ids.length,a = ids[n].1∧x = zan d n:=fun a x ha=>by
  by_cases h1:(R0 a).kind.nd = true
  ·exact .inl ⟨h1,(r1 a h1).symm.trans ha⟩
  ·have ha:(if (R0 a).kind.nd = true then rho a else (ids.findIdx? (fun x=>x.1 == a)).map (zan d)) = some x:=ha
   rw [if_neg h1] at ha
   cases hf:ids.findIdx? (fun x=>x.1 == a) with
   | none=>rw [hf] at ha;cases ha
   | some n =>
     rw [hf] at ha;cases ha
     rw [List.findIdx?_eq_some_iff_getElem] at hf
     obtain ⟨hn,e,_⟩:=hf
     exact .inr ⟨n,hn,(beq_iff_eq.1 e).symm,rfl⟩
 have lj:∀ n a j,(R0 a).kind.nd = true→rho a = some j→zan d n ≠ j:=fun n a j h hj e=>beq_eq_false_iff_ne.1 (hd a j h hj) (by rw [← e,zs2])
 refine ⟨rho1,nv,true,⟨r1,fun a b x ha hb=>?_,fun a x ha hn hv=>?_,fun a x ha hn=>?_,fun _ _ h=>h⟩,fun S hS=>?_⟩
 ·rcases inv a x ha with ⟨a1,a2⟩ | ⟨n,hn,a1,a2⟩ <;> rcases inv b x hb with ⟨b1,b2⟩ | ⟨m,hm,b1,b2⟩
  ·exact hg.inj a b x a1 b1 a2 b2
  ·exact absurd b2.symm (lj m a x a1 a2)
  ·exact absurd a2.symm (lj n b x b1 b2)
  ·have:=zky (a2.symm.trans b2)
   subst this;rw [a1,b1]
 ·rcases inv a x ha with ⟨_,a2⟩ | ⟨n,hn',rfl,_⟩
  ·exact n1 a x hn a2
  ·exact absurd hn (hsm n hn')
 ·rcases inv a x ha with ⟨a1,a2⟩ | ⟨n,hn',rfl,rfl⟩
  ·exact absurd (hver a a1).1 (hn a1)
  ·rw [n3 n hn'];exact Nat.lt_succ_self _
 ·have hsr:∀ n,s'.rw (zan d n) = s.rw (zan d n):=fun n=>hoth _ fun a h e=>lj n a _ h e rfl
  have hfits:Fits R1 rho1 nv (fun i=>(s'.rw i).ver) d 0 ids:=fun n hn=>by
   rw [Nat.zero_add]
   exact ⟨r3 n hn,by show _ = (s'.rw (zan d n)).ver + 1;rw [hsr,n3 n hn]⟩
  have hlv:=hG.leaves
  have hS2:S = zam s' d rv:=by
   refine St.ext2 (fun i=>?_) fun a=>?_
   ·rw [hS.sl,hG.ren hfits]
    unfold zam
    by_cases e:i = d
    ·subst e;rw [zax,zax]
    ·rw [zaO _ _ _ _ e,zaO _ _ _ _ e];exact (congrFun hsl i).symm
   ·unfold zam
    rw [zcD]
    show S.rw a = zau _ d (leaves rv) 0 a
    rw [zcB,hlv]
    by_cases hex:∃ n,n < ids.length∧a = zan d n
    ·obtain ⟨n,hn,rfl⟩:=hex
     have hm:n < (ids.map fun x:zbo=>x.2).length:=by simpa using hn
     have hm':n < (zbe s'.rw d (ids.map (·.2)) 0).length:=by rw [zaV];exact hm
     have h1:=zc4 s'.rw d _ 0 n hm'
     rw [Nat.zero_add] at h1
     rw [h1,zdf _ _ _ _ _ hm hm',Nat.zero_add,hsr,hS.row _ _ (r3 n hn),n3 n hn]
     obtain ⟨_,v1,sz,e1,e2⟩:=hrow _ (List.getElem_mem hn)
     rw [e2]
     have e3:((ids.map fun x:zbo=>x.2)[n]'hm).2.1 = some sz:=by simpa using e1
     simp only [zbn,e3]
     simp [zlo]
    ·rw [zbW _ _ _ _ _ fun n hn e=>hex ⟨n,by rw [zaV] at hn;simpa using hn,by rw [e,Nat.zero_add]⟩]
     by_cases hgv:∃ b,(R0 b).kind.nd = true∧rho b = some a
     ·obtain ⟨b,h1,h2⟩:=hgv
      rw [hS.row _ _ ((r1 b h1).trans h2),hgiv b a h1 h2,n1 b a h1 h2,(hver b h1).2]
     ·rw [hoth a fun b h1 h2=>hgv ⟨b,h1,h2⟩]
      refine hS.off a fun b hb=>?_
      rcases inv b a hb with h | ⟨n,hn,_,e⟩
      ·exact hgv ⟨b,h⟩
      ·exact hex ⟨n,hn,e⟩
  rw [hS2]
  exact hK
theorem zok [zah] {P:Program} {s:St} {K:St→Prop} {f:FuncId} {args raw lents:List PV} {Ka:RV→Prop} {d:Nat} {us:Dm s} {u:Dm K} {R0:Nat→Row} {post:(Nat→Row)→PV→Prop}
 (hc:AG P f args R0 post) (rho:Nat→Option Nat) (hl:GvL rho (fun _=>False) R0 s.rw args raw) (hg:Give rho (fun _=>False) R0 s.rw)
 (hd:∀ a j,(R0 a).kind.nd = true→rho a = some j→(d % 1000 == j % 1000) = false)
 (hpost:∀ R1 p,post R1 p→∃ (rv:RV) (ids:List zbo) (s':St),G2 R1 rv p ids∧(ids.map (·.1)).Nodup∧(∀ a,(R0 a).kind.nd = true→(R1 a).ver = (R0 a).ver∧∀ rho1 nv,zlo rho1 R1 nv true (R1 a).kind = (R1 a).kind)∧s'.sl = s.sl ∧
  (∀ a j,(R0 a).kind.nd = true→rho a = some j→s'.rw j = ⟨(s.rw j).ver,(R1 a).kind⟩)∧(∀ j,(∀ a,(R0 a).kind.nd = true→rho a ≠ some j)→s'.rw j = s.rw j)∧K (zam s' d rv)) :
 zhS P f lents Ka (zsk P f lents raw (some d) (kk s us) (kk K u)) :=
 .inr (.inr (.inr (.inr (zpo hc rho hl hg hd hpost))))
def zAd (Q:RV→Prop) (R1:Nat→Row) (p:PV):Prop:=∃ (rv:RV) (ids:List zbo),Q rv∧G2 R1 rv p ids∧(ids.map (·.1)).Nodup
def ADr [zah] (P:Program) (f:FuncId) (args:List PV) (Q:RV→Prop):Prop:=AG P f args (fun _=>⟨0,.dead⟩) (zAd Q)
theorem zhy [zah] {P:Program} {s:St} {K:St→Prop} {f:FuncId} {args raw lents:List PV} {Ka:RV→Prop} {d:Nat} {us:Dm s} {u:Dm K} {Q:RV→Prop} (hc:ADr P f args Q)
 (hl:GvL (fun _=>none) (fun _=>False) (fun _=>⟨0,.dead⟩) s.rw args raw) (hK:∀ rv,Q rv→K (zam s d rv)):zhS P f lents Ka (zsk P f lents raw (some d) (kk s us) (kk K u)) :=
 zok hc _ hl ⟨fun _ h=>(by cases h),fun _ _ _ h=>(by cases h),fun _ _ h=>(by cases h)⟩ (fun _ _ h=>(by cases h)) fun R1 p ⟨rv,ids,hq,h1,h2⟩ =>
  ⟨rv,ids,s,h1,h2,fun _ h=>(by cases h),rfl,fun _ _ h=>(by cases h),fun _ _=>rfl,hK rv hq⟩
def zd5 (t:TypeId) (bs:List Int) (i h:Int):RK:=.box t [.sl false 1 (kL .u8 bs),.v (.int .i64 i),.v (.int .i64 h)]
def zlv (t:TypeId) (bs:List Int) (i h:Int) (L:Row) (k:Nat):Row:=if k = 1000000 then ⟨1,zd5 t bs i h⟩ else if k = 1000500 then L else ⟨0,.dead⟩
def zAe (t:TypeId) (bs:List Int) (L:Row) (Q:RV→Prop) (R1:Nat→Row) (p:PV):Prop :=
 ∃ (rv:RV) (i:Nat) (h:Int) (ids:List zbo),Q rv∧G2 R1 rv p ids∧(ids.map (·.1)).Nodup∧R1 1000000 = ⟨1,zd5 t bs i h⟩∧R1 1000500 = L
def zoF [zah] (P:Program) (f:FuncId) (t:TypeId) (bs:List Int) (L:Row) (args:List PV) (Q:RV→Prop):Prop :=
 ∀ (i:Nat) (h:Int),AG P f (.ref 1000000 1 0 :: args) (zlv t bs i h L) (zAe t bs L Q)
inductive LRow (s:St):Row→Option Nat→Prop
 | none:LRow s ⟨0,.dead⟩ none
 | some {j v e sz:Nat} {c:List PV} (hj:s.rw j = ⟨v,.sli e sz false c⟩) (hp:zbY c):LRow s ⟨1,.sli e sz false c⟩ (some j)
def zgL (k:Nat) (j:Option Nat) (a:Nat):Option Nat:=if a = 1000000 then some k else if a = 1000500 then j else none
theorem zaL (k:Nat) (j:Option Nat):zgL k j 1000000 = some k:=if_pos rfl
theorem zaZ (k:Nat) (j:Option Nat):zgL k j 1000500 = j:=by unfold zgL;rw [if_neg (by decide),if_pos rfl]
theorem zbA {t:TypeId} {bs:List Int} {i h:Int} {L:Row}:zlv t bs i h L 1000000 = ⟨1,zd5 t bs i h⟩:=if_pos rfl
theorem zcm {t:TypeId} {bs:List Int} {i h:Int} {L:Row}:zlv t bs i h L 1000500 = L:=by unfold zlv;rw [if_neg (by decide),if_pos rfl]
theorem zlw {t:TypeId} {bs:List Int} {i h:Int} {L:Row} {k:Nat} (hk:k < 1000000):zlv t bs i h L k = ⟨0,.dead⟩:=by unfold zlv;rw [if_neg (by omega),if_neg (by omega)]
theorem zbv {t:TypeId} {bs:List Int} {i h:Int} {L:Row} {k:Nat} (hn:(zlv t bs i h L k).kind.nd = true):k = 1000000 ∨ (k = 1000500∧L.kind.nd = true):=by
 unfold zlv at hn
 split at hn
 ·exact .inl ‹_›
 ·split at hn
  ·exact .inr ⟨‹_›,hn⟩
  ·cases hn
theorem zaE [zah] {P:Program} {s:St} {K:St→Prop} {f:FuncId} {args raw lents:List PV} {Ka:RV→Prop} {d k v:Nat} {t:TypeId} {bs:List Int} {i:Nat} {h:Int} {us:Dm s} {u:Dm K} {L:Row} {oj:Option Nat} {fr:Bool} {Q:RV→Prop}
 (hc:zoF P f t bs L args Q) (hL:LRow s L oj) (hk:s.rw k = ⟨v,.box t [.sl fr 1 (kL .u8 bs),.v (.int .i64 i),.v (.int .i64 h)]⟩)
 (hl:GvL (zgL k oj) (fun _=>False) (zlv t bs i h L) s.rw (.ref 1000000 1 0 :: args) raw) (hdk:(d % 1000 == k % 1000) = false) (hoj:∀ j,oj = some j→(d % 1000 == j % 1000) = false∧(k % 1000 == j % 1000) = false)
 (hK:∀ (rv:RV) (i':Nat) (h':Int),Q rv→K (zam (s.row k ⟨v,.box t [.sl false 1 (kL .u8 bs),.v (.int .i64 i'),.v (.int .i64 h')]⟩) d rv)) :
 zhS P f lents Ka (zsk P f lents raw (some d) (kk s us) (kk K u)):=by
 have hkj:∀ j,oj = some j→k ≠ j:=fun j hj e=>beq_eq_false_iff_ne.1 (hoj j hj).2 (by rw [e])
 have hlr:∀ j,oj = some j→∃ vj e sz c,s.rw j = ⟨vj,.sli e sz false c⟩∧L = ⟨1,.sli e sz false c⟩∧zbY c:=fun j hj=>by
  cases hL with
  | none=>cases hj
  | some h1 h2=>cases hj;exact ⟨_,_,_,_,h1,rfl,h2⟩
 have hLn:L.kind.nd = true→∃ j,oj = some j:=fun hn=>by
  cases hL with
  | none=>cases hn
  | some h1 h2=>exact ⟨_,rfl⟩
 refine zok (hc i h) _ hl ⟨fun a ha=>?_,fun a b x na nb ha hb=>?_,fun _ _ _ _ h=>h⟩ (fun a j ha hj=>?_) fun R1 p ⟨rv,i',h',ids,hq,hg,hnd,ht1,hl1⟩=>?_
 ·rcases zbv ha with rfl | ⟨rfl,hn⟩
  ·refine ⟨Nat.le_refl _,by rw [zbA];exact Nat.one_pos,k,zaL _ _,?_⟩
   rw [zbA,hk]
   exact ⟨rfl,.one (.sl _ _ _) (.one (.v _) (.one (.v _) .nil))⟩
  ·obtain ⟨j,hj⟩:=hLn hn
   obtain ⟨vj,e,sz,c,h1,h2,h3⟩:=hlr j hj
   refine ⟨by decide,by rw [zcm,h2];exact Nat.one_pos,j,by rw [zaZ];exact hj,?_⟩
   rw [zcm,h1,h2]
   exact ⟨rfl,rfl,rfl,h3⟩
 ·rcases zbv na with rfl | ⟨rfl,_⟩ <;> rcases zbv nb with rfl | ⟨rfl,_⟩
  ·rfl
  ·rw [zaL] at ha;rw [zaZ] at hb;cases ha;exact absurd rfl (hkj _ hb)
  ·rw [zaL] at hb;rw [zaZ] at ha;cases hb;exact absurd rfl (hkj _ ha)
  ·rfl
 ·rcases zbv ha with rfl | ⟨rfl,hn⟩
  ·rw [zaL] at hj;cases hj;exact hdk
  ·rw [zaZ] at hj;exact (hoj j hj).1
 ·refine ⟨rv,ids,s.row k ⟨v,.box t [.sl false 1 (kL .u8 bs),.v (.int .i64 i'),.v (.int .i64 h')]⟩,hg,hnd,fun a ha=>?_,rfl,fun a j ha hj=>?_,fun j hj=>?_,hK rv i' h' hq⟩
  ·rcases zbv ha with rfl | ⟨rfl,hn⟩
   ·rw [ht1,zbA];exact ⟨rfl,fun _ _=>rfl⟩
   ·obtain ⟨j,hj⟩:=hLn hn
    obtain ⟨_,_,_,_,_,e,_⟩:=hlr j hj
    rw [hl1,zcm,e];exact ⟨rfl,fun _ _=>rfl⟩
  ·rcases zbv ha with rfl | ⟨rfl,hn⟩
   ·rw [zaL] at hj;cases hj
    rw [zaz,hk,ht1];rfl
   ·rw [zaZ] at hj
    obtain ⟨vj,e,sz,c,h1,h2,_⟩:=hlr j hj
    rw [zao _ _ _ _ (Ne.symm (hkj j hj)),h1,hl1,h2]
  ·refine zao _ _ _ _ fun e=>hj 1000000 (by rw [zbA];rfl) (by rw [e];exact zaL _ _)
def zs3 (t:TypeId) (bs:List Int) (R1:Nat→Row) (p:PV):Prop:=∃ (k v:Nat) (h:Int),p = .ref k v 0∧R1 k = ⟨v,zd5 t bs 0 h⟩
def zwe [zah] (P:Program) (f:FuncId) (t:TypeId) (bs:List Int):Prop:=AG P f [.sl false 1 (kL .u8 bs)] (fun _=>⟨0,.dead⟩) (zs3 t bs)
theorem zcX [zah] {P:Program} {s:St} {K:St→Prop} {f:FuncId} {raw lents:List PV} {Ka:RV→Prop} {d:Nat} {us:Dm s} {u:Dm K} {t:TypeId} {bs:List Int} (hc:zwe P f t bs)
 (hl:GvL (fun _=>none) (fun _=>False) (fun _=>⟨0,.dead⟩) s.rw [.sl false 1 (kL .u8 bs)] raw)
 (hK:∀ h:Int,K ((s.row d ⟨(s.rw d).ver + 1,.box t [.sl false 1 (kL .u8 bs),.v (.int .i64 ((0:Nat):Int)),.v (.int .i64 h)]⟩).put (some d) (.ref d ((s.rw d).ver + 1) 0))):zhS P f lents Ka (zsk P f lents raw (some d) (kk s us) (kk K u)):=by
 refine zuc hc _ _ hl ⟨fun _ h=>(by cases h),fun _ _ _ h=>(by cases h),fun _ _ h=>(by cases h)⟩ fun R1 p ⟨k,v,h,hp,hr⟩=>?_
 subst hp
 refine ⟨fun a=>if a = k then some d else none,fun _=>(s.rw d).ver + 1,true,⟨fun _ h=>(by cases h),fun a b x ha hb=>?_,fun _ _ _ h=>(by cases h),fun a x ha _=>?_,fun _ _ h=>h⟩,fun S hS=>?_⟩
 ·have ha:(if a = k then some d else none) = some x:=ha
  have hb:(if b = k then some d else none) = some x:=hb
  by_cases h1:a = k
  ·by_cases h2:b = k
   ·rw [h1,h2]
   ·rw [if_neg h2] at hb;cases hb
  ·rw [if_neg h1] at ha;cases ha
 ·have ha:(if a = k then some d else none) = some x:=ha
  split at ha
  ·cases ha;exact Nat.lt_succ_self _
  ·cases ha
 ·have e:S = (s.row d ⟨(s.rw d).ver + 1,.box t [.sl false 1 (kL .u8 bs),.v (.int .i64 ((0:Nat):Int)),.v (.int .i64 h)]⟩).put (some d) (.ref d ((s.rw d).ver + 1) 0):=by
   refine St.ext2 (fun i=>?_) fun a=>?_
   ·rw [hS.sl]
    have hr2:zzo (fun a=>if a = k then some d else none) R1 (fun _=>(s.rw d).ver + 1) true (.ref k v 0) = .ref d ((s.rw d).ver + 1) 0:=by
     unfold zzo ren1
     simp only [zrW,if_pos,hr,beq_self_eq_true]
    rw [hr2]
    by_cases e:i = d
    ·subst e;rw [zax,zax]
    ·rw [zaO _ _ _ _ e,zaO _ _ _ _ e];rfl
   ·rw [zcD]
    by_cases e:a = d
    ·subst e;rw [zaz,hS.row k a (if_pos rfl),hr];rfl
    ·rw [zao _ _ _ _ e]
     refine hS.off a fun b hb=>?_
     have hb:(if b = k then some d else none) = some a:=hb
     split at hb
     ·cases hb;exact e rfl
     ·cases hb
  rw [e];exact hK h
theorem zjo [zah] {P:Program} {T:Tab} {s:St} {K:St→Prop} {dst:Option Nat} {ty:TypeId} {pos:String} {af:Array Edge} {g:Option (Nat × Bool)}:opK P T s ⟨dst,.assign (.const (.pointer none)),ty,pos,af,g⟩ K = K (s.put dst (.v (.pointer none))):=(rfl)
theorem zbj {k v:Nat} {oj:Option Nat} {Ln:Nat→Prop} {t:TypeId} {bs:List Int} {i h:Int} {L:Row} {R:Nat→Row} (hv:(R k).ver = v):GvA (zgL k oj) Ln (zlv t bs i h L) R (.ref 1000000 1 0) (.ref k v 0) :=
 .ref (zaL _ _) (by rw [zbA]) hv (by rw [zbA];rfl)
theorem zlx {k j v e sz:Nat} {c:List PV} {Ln:Nat→Prop} {t:TypeId} {bs:List Int} {i h:Int} {R:Nat→Row} (hv:(R j).ver = v):GvA (zgL k (some j)) Ln (zlv t bs i h ⟨1,.sli e sz false c⟩) R (.own 1000500 1) (.own j v) :=
 .own (zaZ _ _) (by rw [zcm]) hv (by rw [zcm];rfl)
def zxP (t:TypeId) (bs:List Int) (x:Value × Nat × Int) (R1:Nat→Row) (p:PV):Prop:=p = .v x.1∧R1 1000000 = ⟨1,zd5 t bs x.2.1 x.2.2⟩∧R1 1000500 = ⟨0,.dead⟩
def zly [zah] (P:Program) (f:FuncId) (t:TypeId) (bs:List Int) (args:List PV) (F:Nat→Int→Value × Nat × Int):Prop :=
 ∀ (i:Nat) (h:Int),AG P f (.ref 1000000 1 0 :: args) (zlv t bs i h ⟨0,.dead⟩) (zxP t bs (F i h))
theorem zly.toCur [zah] {P:Program} {f:FuncId} {t:TypeId} {bs:List Int} {args:List PV} {F:Nat→Int→Value × Nat × Int} {Q:RV→Prop} (hc:zly P f t bs args F) (hQ:∀ i h,Q (.im (.v (F i h).1))):zoF P f t bs ⟨0,.dead⟩ args Q:=fun i h=>by
 obtain ⟨h1,h2⟩:=hc i h
 refine ⟨h1,fun w M E vals hw hR hv=>(h2 w M E vals hw hR hv).mono ?_⟩
 rintro en w' ⟨E',p,v,e1,e2,e3,e4,e5,e6⟩
 exact ⟨E',p,v,e1,e2,e3,_,(F i h).2.1,(F i h).2.2,[],hQ i h,by rw [e4];exact .one (.lf (.im _)),List.nodup_nil,e5,e6⟩
theorem zol {rho:Nat→Option Nat} {Ln:Nat→Prop} {R0 R:Nat→Row}:∀ {l:List PV},zbY l→GvL rho Ln R0 R l l
 | [],_=>.nil
 | p :: l,h=>by
   have hp:=h p (by simp)
   cases p <;> first | exact .one (.v _) (zol fun q hq=>h q (by simp [hq])) | (simp [isV] at hp)
def zxQ (t:TypeId) (bs:List Int) (x:RV × Nat × Int) (R1:Nat→Row) (p:PV):Prop:=(∃ ids,G2 R1 x.1 p ids∧(ids.map (·.1)).Nodup)∧R1 1000000 = ⟨1,zd5 t bs x.2.1 x.2.2⟩∧R1 1000500 = ⟨0,.dead⟩
def zAf [zah] (P:Program) (f:FuncId) (t:TypeId) (bs:List Int) (args:List PV) (F:Nat→Int→RV × Nat × Int):Prop :=
 ∀ (i:Nat) (h:Int),AG P f (.ref 1000000 1 0 :: args) (zlv t bs i h ⟨0,.dead⟩) (zxQ t bs (F i h))
theorem zAf.askG [zah] {P:Program} {s:St} {K:St→Prop} {f:FuncId} {args:List PV} {d k v:Nat} {t:TypeId} {bs:List Int} {i:Nat} {h:Int} {fr:Bool} {F:Nat→Int→RV × Nat × Int} (hc:zAf P f t bs args F) (hp:zbY args)
 (hk:s.rw k = ⟨v,.box t [.sl fr 1 (kL .u8 bs),.v (.int .i64 i),.v (.int .i64 h)]⟩) (hdk:(d % 1000 == k % 1000) = false)
 (hK:K (zam (s.row k ⟨v,.box t [.sl false 1 (kL .u8 bs),.v (.int .i64 (F i h).2.1),.v (.int .i64 (F i h).2.2)]⟩) d (F i h).1)):Go.Abs.askG P s f (.ref k v 0 :: args) (some d) K:=by
 refine zpo (hc i h) (zgL k none) (.one (zbj (by rw [hk])) (zol hp)) ⟨fun a ha=>?_,fun a b x na nb ha hb=>?_,fun _ _ _ _ h=>h⟩ (fun a j ha hj=>?_) fun R1 p ⟨⟨ids,e1,en⟩,e2,e3⟩=>?_
 ·rcases zbv ha with rfl | ⟨_,hn⟩
  ·refine ⟨Nat.le_refl _,by rw [zbA];exact Nat.one_pos,k,zaL _ _,?_⟩
   rw [zbA,hk]
   exact ⟨rfl,.one (.sl _ _ _) (.one (.v _) (.one (.v _) .nil))⟩
  ·cases hn
 ·rcases zbv na with rfl | ⟨_,hn⟩
  ·rcases zbv nb with rfl | ⟨_,hn⟩
   ·rfl
   ·cases hn
  ·cases hn
 ·rcases zbv ha with rfl | ⟨_,hn⟩
  ·rw [zaL] at hj;cases hj;exact hdk
  ·cases hn
 ·refine ⟨(F i h).1,ids,s.row k ⟨v,.box t [.sl false 1 (kL .u8 bs),.v (.int .i64 (F i h).2.1),.v (.int .i64 (F i h).2.2)]⟩,e1,en,fun a ha=>?_,rfl,fun a j ha hj=>?_,fun j hj=>?_,hK⟩
  ·rcases zbv ha with rfl | ⟨_,hn⟩
   ·rw [e2,zbA];exact ⟨rfl,fun _ _=>rfl⟩
   ·cases hn
  ·rcases zbv ha with rfl | ⟨_,hn⟩
   ·rw [zaL] at hj;cases hj
    rw [zaz,hk,e2];rfl
   ·cases hn
  ·exact zao _ _ _ _ fun e=>hj 1000000 (by rw [zbA];rfl) (by rw [e];exact zaL _ _)
theorem zly.askG [zah] {P:Program} {s:St} {K:St→Prop} {f:FuncId} {args:List PV} {d k v:Nat} {t:TypeId} {bs:List Int} {i:Nat} {h:Int} {fr:Bool} {F:Nat→Int→Value × Nat × Int} (hc:zly P f t bs args F) (hp:zbY args)
 (hk:s.rw k = ⟨v,.box t [.sl fr 1 (kL .u8 bs),.v (.int .i64 i),.v (.int .i64 h)]⟩) (hdk:(d % 1000 == k % 1000) = false)
 (hK:K ((s.row k ⟨v,.box t [.sl false 1 (kL .u8 bs),.v (.int .i64 (F i h).2.1),.v (.int .i64 (F i h).2.2)]⟩).put (some d) (.v (F i h).1))):Go.Abs.askG P s f (.ref k v 0 :: args) (some d) K :=
 zAf.askG (F:=fun i h=>(.im (.v (F i h).1),(F i h).2)) (fun i h=>(hc i h).imp id fun h2 w M E vals hw hR hv=>(h2 w M E vals hw hR hv).mono (by
  rintro en w' ⟨E',p,v,e1,e2,e3,e4,e5,e6⟩
  exact ⟨E',p,v,e1,e2,e3,⟨[],by rw [e4];exact .one (.lf (.im _)),List.nodup_nil⟩,e5,e6⟩)) hp hk hdk (by rw [zcQ];exact hK)
theorem zs4 [zah] {P:Program} {s:St} {Ke:Ent→St→Prop} {f:FuncId} {args lents:List PV} {Ka:RV→Prop} {d k v:Nat} {t:TypeId} {bs:List Int} {i:Nat} {h:Int} {fr:Bool} {F:Nat→Int→Value × Nat × Int} {us:Dm s} {u:Dm Ke} (hc:zly P f t bs args F) (hp:zbY args)
 (hk:s.rw k = ⟨v,.box t [.sl fr 1 (kL .u8 bs),.v (.int .i64 i),.v (.int .i64 h)]⟩) (hdk:(d % 1000 == k % 1000) = false)
 (hK:Ke ⟨[],.ids [d,k]⟩ ((s.row k ⟨v,.box t [.sl false 1 (kL .u8 bs),.v (.int .i64 (F i h).2.1),.v (.int .i64 (F i h).2.2)]⟩).put (some d) (.v (F i h).1))) :
 zhS P f lents Ka (zBM P f (.ref k v 0 :: args) d (kk s us) (kk Ke u)) :=
 zrp [] (fun s' hs' _ _ hK'=>hc.askG hp (hs'.trans hk) hdk hK') (beq_eq_false_iff_ne.1 hdk) hK
theorem zdB [zah] {P:Program} {s:St} {K:St→Prop} {f:FuncId} {args lents:List PV} {Ka:RV→Prop} {d k v:Nat} {t:TypeId} {bs:List Int} {i:Nat} {h:Int} {fr:Bool} {F:Nat→Int→Value × Nat × Int} {us:Dm s} {u:Dm K} (hc:zly P f t bs args F) (hp:zbY args)
 (hk:s.rw k = ⟨v,.box t [.sl fr 1 (kL .u8 bs),.v (.int .i64 i),.v (.int .i64 h)]⟩) (hdk:(d % 1000 == k % 1000) = false)
 (hK:K ((s.row k ⟨v,.box t [.sl false 1 (kL .u8 bs),.v (.int .i64 (F i h).2.1),.v (.int .i64 (F i h).2.2)]⟩).put (some d) (.v (F i h).1))) :
 zhS P f lents Ka (zsk P f lents (.ref k v 0 :: args) (some d) (kk s us) (kk K u)):=.inr (.inr (.inr (.inr (hc.askG hp hk hdk hK))))
def zxR (t:TypeId) (bs:List Int) (L:Row) (x:Value × Nat × Int) (R1:Nat→Row) (p:PV):Prop:=p = .v x.1∧R1 1000000 = ⟨1,zd5 t bs x.2.1 x.2.2⟩∧R1 1000500 = L
def zs5 [zah] (P:Program) (f:FuncId) (t:TypeId) (bs:List Int) (e:TypeId) (c:List PV) (F:Nat→Int→Value × Nat × Int):Prop :=
 ∀ (i:Nat) (h:Int),AG P f [.ref 1000000 1 0,.own 1000500 1] (zlv t bs i h ⟨1,.sli e 1 false c⟩) (zxR t bs ⟨1,.sli e 1 false c⟩ (F i h))
theorem zs5.toCur [zah] {P:Program} {f:FuncId} {t:TypeId} {bs:List Int} {e:TypeId} {c:List PV} {F:Nat→Int→Value × Nat × Int} {Q:RV→Prop} (hc:zs5 P f t bs e c F) (hQ:∀ i h,Q (.im (.v (F i h).1))):zoF P f t bs ⟨1,.sli e 1 false c⟩ [.own 1000500 1] Q:=fun i h=>by
 obtain ⟨h1,h2⟩:=hc i h
 refine ⟨h1,fun w M E vals hw hR hv=>(h2 w M E vals hw hR hv).mono ?_⟩
 rintro en w' ⟨E',p,v,e1,e2,e3,e4,e5,e6⟩
 exact ⟨E',p,v,e1,e2,e3,_,(F i h).2.1,(F i h).2.2,[],hQ i h,by rw [e4];exact .one (.lf (.im _)),List.nodup_nil,e5,e6⟩
theorem zs5.askG [zah] {P:Program} {s:St} {K:St→Prop} {f:FuncId} {d k v j vj:Nat} {t e:TypeId} {c:List PV} {bs:List Int} {i:Nat} {h:Int} {fr:Bool} {F:Nat→Int→Value × Nat × Int} (hc:zs5 P f t bs e c F) (hp:zbY c)
 (hk:s.rw k = ⟨v,.box t [.sl fr 1 (kL .u8 bs),.v (.int .i64 i),.v (.int .i64 h)]⟩) (hj:s.rw j = ⟨vj,.sli e 1 false c⟩) (hdk:(d % 1000 == k % 1000) = false) (hdj:(d % 1000 == j % 1000) = false) (hkj:(k % 1000 == j % 1000) = false)
 (hK:K ((s.row k ⟨v,.box t [.sl false 1 (kL .u8 bs),.v (.int .i64 (F i h).2.1),.v (.int .i64 (F i h).2.2)]⟩).put (some d) (.v (F i h).1))):Go.Abs.askG P s f [.ref k v 0,.own j vj] (some d) K:=by
 have hkj':k ≠ j:=fun e=>beq_eq_false_iff_ne.1 hkj (by rw [e])
 refine zpo (hc i h) (zgL k (some j)) (.one (zbj (by rw [hk])) (.one (zlx (by rw [hj])) .nil)) ⟨fun a ha=>?_,fun a b x na nb ha hb=>?_,fun _ _ _ _ h=>h⟩ (fun a x ha hx=>?_) fun R1 p ⟨e1,e2,e3⟩=>?_
 ·rcases zbv ha with rfl | ⟨rfl,_⟩
  ·refine ⟨Nat.le_refl _,by rw [zbA];exact Nat.one_pos,k,zaL _ _,?_⟩
   rw [zbA,hk]
   exact ⟨rfl,.one (.sl _ _ _) (.one (.v _) (.one (.v _) .nil))⟩
  ·refine ⟨by decide,by rw [zcm];exact Nat.one_pos,j,zaZ _ _,?_⟩
   rw [zcm,hj]
   exact ⟨rfl,rfl,rfl,hp⟩
 ·rcases zbv na with rfl | ⟨rfl,_⟩ <;> rcases zbv nb with rfl | ⟨rfl,_⟩
  ·rfl
  ·rw [zaL] at ha;rw [zaZ] at hb;cases ha;cases hb;exact absurd rfl hkj'
  ·rw [zaL] at hb;rw [zaZ] at ha;cases ha;cases hb;exact absurd rfl hkj'
  ·rfl
 ·rcases zbv ha with rfl | ⟨rfl,_⟩
  ·rw [zaL] at hx;cases hx;exact hdk
  ·rw [zaZ] at hx;cases hx;exact hdj
 ·refine ⟨.im (.v (F i h).1),[],s.row k ⟨v,.box t [.sl false 1 (kL .u8 bs),.v (.int .i64 (F i h).2.1),.v (.int .i64 (F i h).2.2)]⟩,by rw [e1];exact .one (.lf (.im _)),List.nodup_nil,fun a ha=>?_,rfl,fun a x ha hx=>?_,fun x hx=>?_,by rw [zcQ];exact hK⟩
  ·rcases zbv ha with rfl | ⟨rfl,_⟩
   ·rw [e2,zbA];exact ⟨rfl,fun _ _=>rfl⟩
   ·rw [e3,zcm];exact ⟨rfl,fun _ _=>rfl⟩
  ·rcases zbv ha with rfl | ⟨rfl,_⟩
   ·rw [zaL] at hx;cases hx
    rw [zaz,hk,e2];rfl
   ·rw [zaZ] at hx;cases hx
    rw [zao _ _ _ _ (Ne.symm hkj'),hj,e3]
  ·exact zao _ _ _ _ fun e=>hx 1000000 (by rw [zbA];rfl) (by rw [e];exact zaL _ _)
theorem zi1 [zah] {P:Program} {s:St} {Ke:Ent→St→Prop} {f:FuncId} {lents:List PV} {Ka:RV→Prop} {d k v j vj:Nat} {t e:TypeId} {c:List PV} {bs:List Int} {i:Nat} {h:Int} {fr:Bool} {F:Nat→Int→Value × Nat × Int} {us:Dm s} {u:Dm Ke} (hc:zs5 P f t bs e c F) (hp:zbY c)
 (hk:s.rw k = ⟨v,.box t [.sl fr 1 (kL .u8 bs),.v (.int .i64 i),.v (.int .i64 h)]⟩) (hj:s.rw j = ⟨vj,.sli e 1 false c⟩) (hdk:(d % 1000 == k % 1000) = false) (hdj:(d % 1000 == j % 1000) = false) (hkj:(k % 1000 == j % 1000) = false)
 (hK:Ke ⟨[j],.ids [d,k]⟩ ((s.row k ⟨v,.box t [.sl false 1 (kL .u8 bs),.v (.int .i64 (F i h).2.1),.v (.int .i64 (F i h).2.2)]⟩).put (some d) (.v (F i h).1))) :
 zhS P f lents Ka (zBM P f [.ref k v 0,.own j vj] d (kk s us) (kk Ke u)) :=
 zrp [j] (fun s' hs' ha _ hK'=>hc.askG hp (hs'.trans hk) ((ha j (by simp)).trans hj) hdk hdj hkj hK') (beq_eq_false_iff_ne.1 hdk) hK
theorem zAg (T:Tab) (s:St) (r1 r2:ResultVar) (post:(Nat→Row)→PV→Prop):zvm T s [r1,r2] post = ztk T s [r1,r2] (kk fun ps=>post s.rw (.tup ps)):=(rfl)
end Go.Abs

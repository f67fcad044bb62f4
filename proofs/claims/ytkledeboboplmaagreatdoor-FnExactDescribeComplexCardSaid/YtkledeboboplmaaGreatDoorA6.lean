/- DERIVED by an AI agent. -/
import Derived.Test.YtkledeboboplmaaGreatDoorA5
/- DERIVED by an AI agent. Tables that grow: append, a slice of one row. No program in sight. -/
namespace Go.Abs
set_option linter.unusedSimpArgs false
set_option linter.unusedVariables false
def zxh (rw:Nat→Row) (y:PV) (K:List PV→Prop):Prop :=
 match y with
 | .own j v=>(rw j).ver = v∧(match (rw j).kind with
  | .sli _ sz _ c=>sz = 1∧(∀ p ∈ c,isV p = true)∧K c
  | .tab _ c=>(∀ p ∈ c,zjb rw p)∧K c
  | _=>False)
 | _=>False
def zKG (T:Tab) (s:St) (d:Nat) (t t2:TypeId) (k ver e:Nat) (c:List PV) (y:PV) (K:St→Prop):Prop :=
 t = t2∧0 < (T t).size∧(T t).k = .sli e∧(T e).size = 1∧0 < (T e).bytes∧(s.rw k).ver = ver ∧
  zxh s.rw y fun news=>(c.length + news.length) * (T e).bytes ≤ 140737488355328∧K (zdm s d k (.tab e (c ++ news)))
def zlf (T:Tab) (s:St) (d:Nat) (t:TypeId) (n i:Nat) (k ver:Nat) (K:St→Prop):Prop :=
 0 < (T t).size∧n = 1∧i = 0∧(s.rw k).ver = ver∧(s.rw k).kind.slice = true∧d ≠ k∧(match (T t).k with
  | .sli e=>(T e).size = 1∧K ((s.row d ⟨(s.rw d).ver + 1,.tab e [.own k ver]⟩).put (some d) (.own d ((s.rw d).ver + 1)))
  | _=>False)
section
variable {P:Program} {T:Tab} {G:Ghost} {s:St} {E:Env} {a:Act} {w w':World} {o:Oper}
theorem zi7 [zae] {lo sz:Nat} {c:List PV} {vs:List Value} {b n cap e:Nat} {rest:List Value} (hh:w.heap[b]? = some (.cells (vs ++ rest).toArray e (0,0))):∀ i u,vs[i]? = some u→∃ b' o,(some ⟨b,0,none⟩:Option Addr) = some ⟨b',o,none⟩∧w.cell? ⟨b',o + i,none⟩ = some u:=by
 intro i u hu
 obtain ⟨hi,rfl⟩:=List.getElem?_eq_some_iff.1 hu
 refine ⟨b,0,rfl,?_⟩
 rw [Nat.zero_add,zaJ hh (by simp;omega)]
 simp [List.getElem_append_left hi]
theorem zs3 [zae] {y:PV} {K:List PV→Prop} {x:Value} (hk:zxh E.R y K) (hw:WOk G E w) (hp:Rep w E 0 y x) :
 ∃ news,K news∧∃ ax n cap vs,x = .slice ax n cap∧vs.length = n∧(∀ u ∈ vs,u.oneCell' = true)∧(∀ i u,vs[i]? = some u→∃ b o,ax = some ⟨b,o,none⟩∧w.cell? ⟨b,o + i,none⟩ = some u)∧zbl w E 0 news vs:=by
 unfold zxh at hk
 split at hk
 ·rename_i j v
  obtain ⟨hv,hk⟩:=hk
  have hrow:=hw.rows j
  unfold zav at hrow
  cases hp with
  | own _ hx =>
    cases hkd:(E.R j).kind with
    | mp f=>simp only [hkd] at hk
    | sli e sz fz c =>
      simp only [hkd] at hk hrow
      obtain ⟨rfl,hone,hk⟩:=hk
      have hx:=hx hv (by rw [hkd];rfl)
      refine ⟨_,hk,?_⟩
      rcases hrow with ⟨h1,h2,h3⟩ | ⟨b,n,cap,vs,rest,h1,h2,h3,h4,h5,h6,h7,h8,h9⟩
      ·exact ⟨none,0,0,[],hx.trans h2,rfl,by simp,by simp,by subst h3;exact ⟨rfl,fun i a=>absurd a (by simp)⟩⟩
      ·refine ⟨_,n,cap,vs,hx.trans h3,by rw [h5,Nat.mul_one],fun u hu=>?_,zi7 (lo:=0) (sz:=0) (c:=[]) (n:=0) (cap:=0) h4,zc7 hone h9⟩
       obtain ⟨i,hi,rfl⟩:=List.getElem_of_mem hu
       have hi':i < c.length:=by rw [h9.1];exact hi
       exact (zll (w':=w) (E':=E) (lo':=0) (hone _ (List.getElem_mem hi')) (h9.2 i hi' hi)).2
    | tab e c =>
      simp only [hkd] at hk hrow
      obtain ⟨hone,hk⟩:=hk
      have hx:=hx hv (by rw [hkd];rfl)
      refine ⟨_,hk,?_⟩
      rcases hrow with ⟨h1,h2,h3⟩ | ⟨b,n,cap,vs,rest,h1,h2,h3,h4,h5,h6,h7,h8,h9⟩
      ·exact ⟨none,0,0,[],hx.trans h2,rfl,by simp,by simp,by subst h3;exact ⟨rfl,fun i a=>absurd a (by simp)⟩⟩
      ·refine ⟨_,n,cap,vs,hx.trans h3,h5,fun u hu=>?_,zi7 (lo:=0) (sz:=0) (c:=[]) (n:=0) (cap:=0) h4,h9⟩
       obtain ⟨i,hi,rfl⟩:=List.getElem_of_mem hu
       have hi':i < c.length:=by rw [h9.1];exact hi
       exact zil (hone _ (List.getElem_mem hi')) hw (h9.2 i hi' hi)
    | dead=>simp only [hkd] at hk
    | nil=>simp only [hkd] at hk
    | box t c=>simp only [hkd] at hk
 ·exact hk.elim
theorem zxi [zae] (hT:T.Ok P) {d:Nat} {t t2:TypeId} {x y:Operand} {k ver e:Nat} {c:List PV} {K:St→Prop} (ho:o.op = .call ⟨.builtin .append,#[x,y],#[t,t2]⟩) (hdst:o.dst = some d) (hd:d < G.n)
 (hev:s.ev x = .own k ver) (hkind:(s.rw k).kind = .tab e c) (hk:zKG T s d t t2 k ver e c (s.ev y) K) {a:Act} (hs:Sim G s a w) {K':Act→World→Prop} {Q:Exit→Act→World→Prop}
 (hK:∀ s' a' w',K s'→Sim G s' a' w'→K' a' w'):o.wp P a w K' Q:=by
 obtain ⟨rfl,ht,hte,he1,hby,hver,hk⟩:=hk
 obtain ⟨E,hs⟩:=hs
 have hR:=hs.rw
 rw [← hR] at hk
 obtain ⟨news,⟨hlen,hk⟩,ax,n,cap,ws,h1,h2,h3,h4,h5⟩:=zs3 hk hs.wok (zaz hs.slots y)
 have hx:=zaz hs.slots x
 rw [hev] at hx
 have hkindE:(E.R k).kind = .tab e c:=by rw [hR];exact hkind
 have hslice:(E.R k).kind.slice = true:=by rw [hkindE];rfl
 have hnd:=RK.nd_of_slice hslice
 obtain ⟨vs,hphys,hrepc⟩:∃ vs,zHT w e (T e).size (E.rm k) (E.rv k) vs∧zbl w E 0 c vs:=by
  have hrow:=hs.wok.rows k
  unfold zav at hrow
  simp only [hkindE] at hrow
  rw [he1]
  rcases hrow with ⟨g1,g2,g3⟩ | ⟨b,n,cap,vs,rest,g1,g2,g3,g4,g5,g6,g7,g8,g9⟩
  ·subst g3;exact ⟨[],.inl ⟨g1,g2,rfl⟩,⟨rfl,fun i p=>absurd p (by simp)⟩⟩
  ·exact ⟨vs,.inr ⟨b,n,cap,rest,g1,g3,g4,by rw [Nat.mul_one];exact g5,g6,g7,by rw [Nat.mul_one];exact g8⟩,g9⟩
 have hxe:a.eval x = E.rv k:=by cases hx with | own hv hx=>exact hx (by rw [hR];exact hver) hslice
 obtain ⟨v',w',m',hrun,hap⟩:=zgF (P:=P) hT o.type ht hte (by omega) hby hphys (mx:=n) (cx:=cap) (by rw [h2,he1,Nat.mul_one]) h4 h3 (by rw [← hrepc.1,← h5.1];exact hlen)
 rw [← hxe,← h1] at hrun
 have hver':(E.R k).ver = (s.rw k).ver:=by rw [hR]
 have hturn:OneTurn E w w' k ⟨(s.rw k).ver + 1,.tab e (c ++ news)⟩ m' v' :=
  ⟨fun b hb hne=>hap.block b hb fun h=>(by
   have:=hne h
   rw [hkindE] at this;cases this),
   fun b hb _=>(by
    rcases hap.fresh b hb with h | h
    ·exact .inr ⟨h,hnd,fun _=>by rw [hkindE];rfl⟩
    ·exact .inl h),
   by rw [hver'];exact Nat.le_succ _,fun h=>by rw [hver'] at h;simp at h,fun h=>by rw [hver'] at h;simp at h,fun _=>Nat.succ_pos _,hap.size,hap.os,hap.tape,hap.output⟩
 refine zfX (fz:=[]) (p:=.own k ((s.rw k).ver + 1)) hs (zcH ho hrun) hturn (by simp) (fun hl=>?_) ?_ (by simp [hdst,hd]) (fun a' w' h=>hK _ a' w' hk ?_)
 ·unfold zav
  simp only [Env.turn,zaf]
  have hrep:zbl w' (E.turn [] k ⟨(s.rw k).ver + 1,.tab e (c ++ news)⟩ m' v') 0 (c ++ news) (vs ++ ws):=(hrepc.mono hl (Nat.le_refl _)).append (h5.mono hl (Nat.le_refl _))
  rcases hap.phys with ⟨q1,q2,q3⟩ | ⟨b,n,cap,rest,q1,q2,q3,q4,q5,q6,q7⟩
  ·refine .inl ⟨q1,q2,?_⟩
   have:=hrep.1
   rw [q3] at this
   exact List.eq_nil_of_length_eq_zero this
  ·rw [he1,Nat.mul_one] at q4 q7
   refine .inr ⟨b,n,cap,vs ++ ws,rest,q1,?_,q2,q3,q4,q5,q6,q7,hrep⟩
   rcases hap.fresh b q1 with hf | hf
   ·exact (hs.wok.block hf hnd).2
   ·exact .inl (Nat.le_trans hs.wok.kept.size hf)
 ·exact .own (by simp [Env.turn,zaf]) fun _ _=>by simp [Env.turn,zaf]
 ·rw [St.freeze_nil,hdst] at h;exact h
theorem zi8 [zae] (hT:T.Ok P) {d:Nat} {t:TypeId} {n i:Nat} {x:Operand} {k ver:Nat} {K:St→Prop} (ho:o.op = .buildSlice t n #[(i,x)]) (hdst:o.dst = some d) (hd:d < G.n)
 (hev:s.ev x = .own k ver) (hk:zlf T s d t n i k ver K) {a:Act} (hs:Sim G s a w) {K':Act→World→Prop} {Q:Exit→Act→World→Prop}
 (hK:∀ s' a' w',K s'→Sim G s' a' w'→K' a' w'):o.wp P a w K' Q:=by
 obtain ⟨ht,rfl,rfl,hver,hsl,hdk,hk⟩:=hk
 split at hk
 ·rename_i e hte
  obtain ⟨he1,hk⟩:=hk
  have hu:P.underlying t = some (.slice e):=by have:=(hT t ht).k;rw [hte] at this;exact this
  obtain ⟨ii,zz,hi,hsz,hby,hz',hzl⟩:=(hT e (by omega)).info
  have hzs:zz.cells.size = 1:=by rw [← Array.length_toList,hzl,(hT e (by omega)).zlen,he1]
  obtain ⟨E,hs⟩:=hs
  have hx:=zaz hs.slots x
  rw [hev] at hx
  have hslE:(E.R k).kind.slice = true:=by rw [hs.rw];exact hsl
  have hxe:a.eval x = E.rv k:=by cases hx with | own hv hx=>exact hx (by rw [hs.rw];exact hver) hslE
  have h1:(a.eval x).oneCell' = true:=by rw [hxe];exact zln hs.wok hslE
  have hc1:=zcw h1
  have hrun:(execOp a.eval o).run P w = .ok (.value (.slice (some ⟨w.heap.size,0,none⟩) 1 1)) (w.alloc (.cells [a.eval x].toArray e)):=by
   have hsz1:ii.size = 1:=by rw [hsz,he1]
   simp [execOp,ho,Instr.buildSlice,run_underlying hu,sizeOf,typeInfo,zeroValue,hi,hz',hsz1,newRow,Instr.fill,hc1]
   congr 2
   refine Array.ext (by simp) fun j p q=>?_
   have hj:j = 0:=by simp at q;omega
   subst hj
   simp
  have hturn:OneTurn E w (w.alloc (.cells ([a.eval x] ++ []).toArray e)) d ⟨(s.rw d).ver + 1,.tab e [.own k ver]⟩ (some w.heap.size) (.slice (some ⟨w.heap.size,0,none⟩) 1 1) :=
   ⟨fun b hb _=>(Ext.alloc w _).block b hb,fun b hb _=>.inl (by simp at hb;omega),by rw [hs.rw];exact Nat.le_succ _,fun h=>by rw [hs.rw] at h;simp at h,fun h=>by rw [hs.rw] at h;simp at h,fun _=>Nat.succ_pos _,by simp,rfl,rfl,⟨rfl,fun _=>by first | exact Nat.le_refl _ | exact Nat.le_succ _⟩⟩
  rw [← List.append_nil [a.eval x]] at hrun
  refine zfX (fz:=[]) (p:=.own d ((s.rw d).ver + 1)) hs hrun hturn (by simp) (fun hl=>?_) ?_ (by simp [hdst,hd]) (fun a' w' h=>hK _ a' w' hk (by rw [hdst,St.freeze_nil] at h;exact h))
  ·unfold zav
   simp only [Env.turn,zaf]
   refine .inr ⟨w.heap.size,1,1,[a.eval x],[],rfl,.inl hs.wok.kept.size,rfl,heap_alloc_new w _,rfl,Nat.le_refl _,by simp [maxLen],rfl,?_⟩
   refine ⟨rfl,fun j p q=>?_⟩
   have hj:j = 0:=by simp at p;omega
   subst hj
   simp only [List.getElem_cons_zero]
   have:=hx.mono hl (Nat.le_refl 0)
   simpa [Env.turn] using this
  ·exact .own (by simp [Env.turn,zaf]) fun _ _=>by simp [Env.turn,zaf]
 ·exact hk.elim
end
end Go.Abs

/- DERIVED by an AI agent. Contracts of functions that are given rows to write into, whatever these are: boxes behind pointers, slices, tables. No program in sight. -/
namespace Go.Abs
set_option linter.unusedSimpArgs false
set_option linter.unusedVariables false
theorem Rep.above {w:World} {E E':Env} {lo:Nat} {p:PV} {x:Value} (h:Rep w E lo p x) (hR:∀ k,(E.R k) = ⟨0,.dead⟩) (hR':∀ k,(E'.R k) = ⟨0,.dead⟩) (hB:E.B = 0) (hB':E'.B = 0)
 (hL:∀ b,lo ≤ b→¬ E.L b→¬ E'.L b):Rep w E' lo p x:=by
 induction h generalizing E' with
 | v x=>exact .v x
 | @sl E lo fr sz len cap cells a cs hl hc hm hr hcs ih =>
   have e:E.lo lo fr = lo:=by simp [Env.lo,hB]
   have e':E'.lo lo fr = lo:=by simp [Env.lo,hB']
   refine .sl cs hl hc hm (fun i hi=>?_) (fun i hi=>?_)
   ·obtain ⟨b,o,ha,hb,hLb,hcell⟩:=hr i hi
    rw [e] at hb
    exact ⟨b,o,ha,by rw [e'];exact hb,hL b hb hLb,hcell⟩
   ·have:=ih i hi (E':=E'.bare) (fun _=>rfl) (fun _=>rfl) rfl rfl (fun b hb h=>hL b (by rw [e] at hb;exact hb) h)
    rw [e'] ;rw [e] at this;exact this
 | @own E lo k ver x hv hx =>
   refine .own (by rw [hR'] ;rw [hR] at hv;exact hv) fun _ hs=>?_
   rw [hR'] at hs;cases hs
 | @ref E lo k ver off x hv hx =>
   refine .ref (by rw [hR'] ;rw [hR] at hv;exact hv) fun _ hs=>?_
   rw [hR'] at hs;cases hs
 | @eref E lo fr cells off b o cs hr hcs ih =>
   have e:E.lo lo fr = lo:=by simp [Env.lo,hB]
   have e':E'.lo lo fr = lo:=by simp [Env.lo,hB']
   refine .eref cs (fun i hi=>?_) (fun i hi=>?_)
   ·obtain ⟨hb,hLb,hcell⟩:=hr i hi
    rw [e] at hb
    exact ⟨by rw [e'];exact hb,hL _ hb hLb,hcell⟩
   ·have:=ih i hi (E':=E'.bare) (fun _=>rfl) (fun _=>rfl) rfl rfl (fun b hb h=>hL b (by rw [e] at hb;exact hb) h)
    rw [e'];rw [e] at this;exact this
 | ag hl _ ih=>exact .ag hl fun i a b=>ih i a b hR hR' hB hB' hL
 | tup hl _ ih=>exact .tup hl fun i a b=>ih i a b hR hR' hB hB' hL
 | clo hl _ ih=>exact .clo hl fun i a b=>ih i a b hR hR' hB hB' hL
 | junk x=>exact .junk x
def AG [zae] (P:Program) (f:FuncId) (args:List PV) (R0:Nat→Row) (post:(Nat→Row)→PV→Prop):Prop :=
 zlo P f∧∀ (w:World) (M:Nat→Nat→Prop) (E:Env) (vals:List Value),WOk ⟨w,M,0,E.R,E.rm,E.rv,E.X⟩ E w→E.R = R0→zbl w E 0 args vals →
  Calls P f vals.toArray w fun en w'=>∃ (E':Env) (p:PV) (v:Value),en = .returned v∧WOk ⟨w,M,0,E.R,E.rm,E.rv,E.X⟩ E' w'∧Rep w' E' 0 p v∧post E'.R p
inductive GvA (rho:Nat→Option Nat) (Ln:Nat→Prop) (R0 R:Nat→Row):PV→PV→Prop
 | v (x:Value):GvA rho Ln R0 R (.v x) (.v x)
 | sl (fr:Bool) (sz:Nat) (c:List PV):GvA rho Ln R0 R (.sl false sz c) (.sl fr sz c)
 | eref (fr:Bool) (c:List PV) (off:Nat):GvA rho Ln R0 R (.eref false c off) (.eref fr c off)
 | junk (p:PV):GvA rho Ln R0 R .junk p
 | own {k v k' v':Nat} (h:rho k = some k') (h1:(R0 k).ver = v) (h2:(R k').ver = v') (h3:(R0 k).kind.slice = true):GvA rho Ln R0 R (.own k v) (.own k' v')
 | ref {k v k' v' off:Nat} (h:rho k = some k') (h1:(R0 k).ver = v) (h2:(R k').ver = v') (h3:(R0 k).kind.nd = true):GvA rho Ln R0 R (.ref k v off) (.ref k' v' off)
 | lent {k' v' e sz:Nat} {fz:Bool} {c:List PV} (h:Ln k') (hr:R k' = ⟨v',.sli e sz fz c⟩):GvA rho Ln R0 R (.sl false sz c) (.own k' v')
inductive GvL (rho:Nat→Option Nat) (Ln:Nat→Prop) (R0 R:Nat→Row):List PV→List PV→Prop
 | nil:GvL rho Ln R0 R [] []
 | one {p q:PV} {l l':List PV} (h:GvA rho Ln R0 R p q) (t:GvL rho Ln R0 R l l'):GvL rho Ln R0 R (p :: l) (q :: l')
 | ag {c c' l l':List PV} (h:GvL rho Ln R0 R c c') (t:GvL rho Ln R0 R l l'):GvL rho Ln R0 R (.ag c :: l) (.ag c' :: l')
 | clo {f:FuncId} {c c' l l':List PV} (h:GvL rho Ln R0 R c c') (t:GvL rho Ln R0 R l l'):GvL rho Ln R0 R (.clo f c :: l) (.clo f c' :: l')
def gvK (rho:Nat→Option Nat) (Ln:Nat→Prop) (R0 R:Nat→Row):RK→RK→Prop
 | .box t c,.box t' c'=>t = t'∧GvL rho Ln R0 R c c'
 | .sli e sz false c,.sli e' sz' false c'=>e = e'∧sz = sz'∧c = c'∧zbM c
 | .tab e c,.tab e' c'=>e = e'∧GvL rho Ln R0 R c c'
 | .tab e c,.sli e' sz false c'=>e = e'∧sz = 1∧c = []∧c' = []
 | .mp f,.mp f'=>f = f'
 | _,_=>False
theorem zb1 {rho:Nat→Option Nat} {Ln:Nat→Prop} {R0 R:Nat→Row} {a b:RK} (h:gvK rho Ln R0 R a b):a.live = true∧b.live = true∧a.slice = b.slice:=by
 unfold gvK at h
 split at h <;> first | exact ⟨rfl,rfl,rfl⟩ | exact h.elim
structure Give (rho:Nat→Option Nat) (Ln:Nat→Prop) (R0 R:Nat→Row):Prop where
 row:∀ k,(R0 k).kind.nd = true→lent ≤ k∧0 < (R0 k).ver∧∃ j,rho k = some j∧gvK rho Ln R0 R (R0 k).kind (R j).kind
 inj:∀ k k' j,(R0 k).kind.nd = true→(R0 k').kind.nd = true→rho k = some j→rho k' = some j→k = k'
 ln:∀ k j,(R0 k).kind.nd = true→rho k = some j→¬ Ln j
def gvX (E:Env) (rho:Nat→Option Nat) (Ln:Nat→Prop) (R0:Nat→Row) (b:Nat):Prop :=
 (∃ j,E.rm j = some b∧(E.R j).kind.live = true∧¬ Ln j∧∀ k,(R0 k).kind.nd = true→rho k ≠ some j) ∨ E.X b
def zAL (E:Env) (rho:Nat→Option Nat) (R0:Nat→Row) (k:Nat):Option Nat:=if (R0 k).kind.nd = true then (rho k).bind E.rm else none
def Env.gv (E:Env) (rho:Nat→Option Nat) (Ln:Nat→Prop) (R0:Nat→Row) (B:Nat):Env :=
 { R:=R0,rm:=zAL E rho R0,rv:=fun k=>match rho k with | some j=>E.rv j | none=>default,L:=mkL (gvX E rho Ln R0) R0 (zAL E rho R0),B:=B,X:=gvX E rho Ln R0 }
def gvM (E:Env) (rho:Nat→Option Nat) (R0:Nat→Row) (k b:Nat):Prop:=(R0 k).kind.nd = true∧∃ j,rho k = some j∧E.rm j = some b
section
variable {P:Program} {G:Ghost} {s:St} {E E':Env} {w w':World} {rho:Nat→Option Nat} {Ln:Nat→Prop} {R0:Nat→Row}
theorem zti {k j:Nat} (hn:(R0 k).kind.nd = true) (h:rho k = some j):zAL E rho R0 k = E.rm j:=by
 unfold zAL;rw [if_pos hn,h];rfl
theorem zfF {k b:Nat} (h:zAL E rho R0 k = some b):(R0 k).kind.nd = true∧∃ j,rho k = some j∧E.rm j = some b:=by
 unfold zAL at h
 by_cases hn:(R0 k).kind.nd = true
 ·rw [if_pos hn] at h
  cases hr:rho k with
  | none=>rw [hr] at h;cases h
  | some j=>rw [hr] at h;exact ⟨hn,j,rfl,h⟩
 ·rw [if_neg hn] at h;cases h
theorem zKY [zae] (hw:WOk G E w) (hg:Give rho Ln R0 E.R) {B b:Nat} (h:(E.gv rho Ln R0 B).L b):E.L b:=by
 rcases h with ⟨k,h1,h2⟩ | h
 ·have h1:zAL E rho R0 k = some b:=h1
  obtain ⟨hn,j,hj,hb⟩:=zfF h1
  obtain ⟨_,_,j',hj',hk⟩:=hg.row k hn
  rw [hj] at hj';cases hj'
  exact (hw.live b).2 (.inl ⟨j,hb,(zb1 hk).2.1⟩)
 ·rcases h with ⟨j,h1,h2,_⟩ | h
  ·exact (hw.live b).2 (.inl ⟨j,h1,h2⟩)
  ·exact (hw.live b).2 (.inr h)
theorem zGm [zae] (hw:WOk G E w) (hg:Give rho Ln R0 E.R) (B:Nat):Lasts w w E.bare (E.gv rho Ln R0 B).bare :=
 ⟨fun b _ hL=>⟨rfl,fun hL'=>hL (zKY (B:=B) hw hg hL')⟩,fun _=>Nat.le_refl _,fun _ _ h=>absurd h (by simp [Env.bare,RK.slice]),fun _ _ h=>absurd h (by simp [Env.bare,RK.nd]),Nat.le_refl _⟩
theorem zGn [zae] (hw:WOk G E w) (hg:Give rho Ln R0 E.R) (B:Nat) {p q:PV} (h:GvA rho Ln R0 E.R p q) {x:Value} (hr:Rep w E 0 q x):Rep w (E.gv rho Ln R0 B) 0 p x:=by
 have hbare:=zGm hw hg B
 cases h with
 | v y=>have:=hr.v_eq;subst this;exact .v _
 | junk=>exact .junk _
 | sl fr sz c =>
   cases hr with
   | @sl _ _ _ _ len cap _ a cs hl hc hm hr hh =>
     refine .sl cs hl hc hm (fun i hi=>?_) (fun i hi=>(hh i hi).mono hbare (by simp [Env.lo]))
     obtain ⟨b,o,ha,hb,hL,hcell⟩:=hr i hi
     exact ⟨b,o,ha,by simp [Env.lo],fun hL'=>hL (zKY hw hg hL'),hcell⟩
 | eref fr c off =>
   cases hr with
   | @eref _ _ _ _ _ b o cs hr hh =>
     refine .eref cs (fun i hi=>?_) (fun i hi=>(hh i hi).mono hbare (by simp [Env.lo]))
     obtain ⟨hb,hL,hcell⟩:=hr i hi
     exact ⟨by simp [Env.lo],fun hL'=>hL (zKY hw hg hL'),hcell⟩
 | @own k v k' v' h h1 h2 h3 =>
   cases hr with
   | own hv hx =>
     obtain ⟨_,_,j,hj,hk⟩:=hg.row k (RK.nd_of_slice h3)
     rw [h] at hj;cases hj
     refine .own (by show v ≤ (R0 k).ver;omega) fun _ _=>?_
     have:=hx h2 (by rw [← (zb1 hk).2.2];exact h3)
     show x = (match rho k with | some j=>E.rv j | none=>default)
     rw [h];exact this
 | @ref k v k' v' off h h1 h2 h3 =>
   cases hr with
   | ref hv hx =>
     obtain ⟨_,_,j,hj,hk⟩:=hg.row k h3
     rw [h] at hj;cases hj
     refine .ref (by show v ≤ (R0 k).ver;omega) fun _ _=>?_
     obtain ⟨b,hb,hp⟩:=hx h2 (RK.nd_of_live (zb1 hk).2.1)
     exact ⟨b,(zti h3 h).trans hb,hp⟩
 | @lent k' v' e sz fz c h hr0 =>
   cases hr with
   | own hv hx =>
     have hx:=hx (by rw [hr0]) (by rw [hr0];rfl)
     have hrow:=hw.rows k'
     unfold zav at hrow
     rw [hr0] at hrow
     simp only at hrow
     rcases hrow with ⟨h1,h2,h3⟩ | ⟨b,n,cap,vs,rest,h1,h2,h3,h4,h5,h6,h7,h8,h9⟩
     ·subst h3;rw [hx,h2]
      exact .sl (fun _=>undef) (by simp) (Nat.le_refl _) (Nat.zero_le _) (fun i hi=>absurd hi (by simp)) (fun i hi=>absurd hi (by simp))
     ·rw [hx,h3]
      have hL:¬ (E.gv rho Ln R0 B).L b:=fun hL=>by
       rcases hL with ⟨k,g1,g2⟩ | hL
       ·have g1:zAL E rho R0 k = some b:=g1
        obtain ⟨hn,j,hj,hb⟩:=zfF g1
        obtain ⟨_,_,j',hj',hk⟩:=hg.row k hn
        rw [hj] at hj';cases hj'
        have:=hw.inj j k' b (RK.nd_of_live (zb1 hk).2.1) (by rw [hr0];rfl) hb h1
        subst this
        exact hg.ln k j hn hj h
       ·rcases hL with ⟨j,g1,g2,g3,_⟩ | hL
        ·have:=hw.inj j k' b (RK.nd_of_live g2) (by rw [hr0];rfl) g1 h1
         subst this
         exact g3 h
        ·rw [hw.xs] at hL;exact hw.apart k' b (by rw [hr0];rfl) h1 hL
      refine .sl (fun i=>vs.getD i undef) (h9.1.trans h5) h6 h7 (fun i hi=>⟨b,0,rfl,by simp [Env.lo],hL,?_⟩) (fun i hi=>?_)
      ·have hi':i < vs.length:=by rw [← h9.1];exact hi
       rw [Nat.zero_add,zaJ h4 (by simp;omega)]
       simp [List.getElem_append_left hi',List.getD,hi']
      ·have hi':i < vs.length:=by rw [← h9.1];exact hi
       have e:vs.getD i undef = vs[i]:=by simp [List.getD,hi']
       rw [e]
       exact (h9.2 i hi hi').mono hbare (by simp [Env.lo])
theorem zlw {w:World} {E:Env} {lo:Nat} {p:PV} {ps:List PV} {vals:List Value} (h:zbl w E lo (p :: ps) vals):∃ x xs,vals = x :: xs∧Rep w E lo p x∧zbl w E lo ps xs:=by
 cases vals with
 | nil=>simp [zbl] at h
 | cons y ys=>exact ⟨y,ys,rfl,h.2 0 (by simp) (by simp),by simpa using h.1,fun i a b=>h.2 (i + 1) (by simpa using a) (by simpa using b)⟩
theorem ztj {w:World} {E:Env} {lo:Nat} {p:PV} {ps:List PV} {x:Value} {xs:List Value} (h0:Rep w E lo p x) (h:zbl w E lo ps xs):zbl w E lo (p :: ps) (x :: xs):=by
 refine ⟨by simp [h.1],fun i a b=>?_⟩
 cases i with
 | zero=>exact h0
 | succ i=>exact h.2 i (by simpa using a) (by simpa using b)
theorem ztk [zae] (hw:WOk G E w) (hg:Give rho Ln R0 E.R) (B:Nat) {l l':List PV} (h:GvL rho Ln R0 E.R l l'):∀ {vals:List Value},zbl w E 0 l' vals→zbl w (E.gv rho Ln R0 B) 0 l vals:=by
 induction h with
 | nil=>intro vals h;exact ⟨h.1,fun i a=>absurd a (by simp)⟩
 | one h _ ih =>
   intro vals hv
   obtain ⟨x,xs,rfl,h0,h1⟩:=zlw hv
   exact ztj (zGn hw hg B h h0) (ih h1)
 | ag _ _ ih1 ih2 =>
   intro vals hv
   obtain ⟨x,xs,rfl,h0,h1⟩:=zlw hv
   refine ztj ?_ (ih2 h1)
   cases h0 with
   | @ag _ _ _ vs hl hh =>
     have h2:=ih1 (vals:=vs) ⟨hl,hh⟩
     exact .ag h2.1 h2.2
 | clo _ _ ih1 ih2 =>
   intro vals hv
   obtain ⟨x,xs,rfl,h0,h1⟩:=zlw hv
   refine ztj ?_ (ih2 h1)
   cases h0 with
   | @clo _ _ _ _ vs hl hh =>
     have h2:=ih1 (vals:=vs) ⟨hl,hh⟩
     exact .clo h2.1 h2.2
theorem zKZ [zae] (hw:WOk G E w) (hg:Give rho Ln R0 E.R) :
 WOk ⟨w,gvM E rho R0,0,(E.gv rho Ln R0 w.heap.size).R,(E.gv rho Ln R0 w.heap.size).rm,(E.gv rho Ln R0 w.heap.size).rv,(E.gv rho Ln R0 w.heap.size).X⟩ (E.gv rho Ln R0 w.heap.size) w:=by
 refine ⟨fun k=>?_,fun k k' b n1 n2 e1 e2=>?_,fun b=>Iff.rfl,fun k h=>(hg.row k h).2.1,rfl,rfl,⟨fun b h=>?_,fun k b hM=>?_,hw.held⟩,fun k b hn hb hX=>?_,⟨rfl,rfl,OutLe.refl _,Nat.le_refl _,fun _ _ _=>rfl⟩,fun j=>⟨Nat.le_refl _,fun _ h=>⟨h,rfl,fun h=>⟨h,rfl⟩⟩⟩⟩
 ·show zav w (E.gv rho Ln R0 w.heap.size) _ k
  by_cases hn:(R0 k).kind.nd = true
  ·obtain ⟨hlk,_,j,hj,hk⟩:=hg.row k hn
   have em:(E.gv rho Ln R0 w.heap.size).rm k = E.rm j:=zti hn hj
   have ev:(E.gv rho Ln R0 w.heap.size).rv k = E.rv j:=by show (match rho k with | some j=>E.rv j | none=>default) = _;rw [hj]
   have hrow:=hw.rows j
   have hC:∀ b,E.rm j = some b→Ghost.C ⟨w,gvM E rho R0,0,(E.gv rho Ln R0 w.heap.size).R,(E.gv rho Ln R0 w.heap.size).rm,(E.gv rho Ln R0 w.heap.size).rv,(E.gv rho Ln R0 w.heap.size).X⟩ k b :=
    fun b hb=>.inr ⟨hlk,hn,j,hj,hb⟩
   unfold zav at hrow ⊢
   show match (R0 k).kind with | .dead=>True | .nil=>_ | .box t cells=>_ | .sli e sz _ cells=>_ | .tab e cells=>_ | .mp f=>_
   rw [em,ev]
   cases h0:(R0 k).kind with
   | dead=>trivial
   | nil=>rw [h0] at hk;cases h1:(E.R j).kind <;> rw [h1] at hk <;> exact hk.elim
   | box t c =>
     rw [h0] at hk
     cases h1:(E.R j).kind with
     | box t' c' =>
       rw [h1] at hk
       obtain ⟨rfl,hk⟩:=hk
       rw [h1] at hrow
       obtain ⟨b,vs,g1,g2,g3,g4⟩:=hrow
       exact ⟨b,vs,g1,hC b g1,g3,ztk hw hg _ hk g4⟩
     | _=>rw [h1] at hk;exact hk.elim
   | sli e sz fz c =>
     rw [h0] at hk
     cases fz with
     | true=>cases h1:(E.R j).kind <;> rw [h1] at hk <;> exact hk.elim
     | false =>
       cases h1:(E.R j).kind with
       | sli e' sz' fz' c' =>
         rw [h1] at hk
         cases fz' with
         | true=>exact hk.elim
         | false =>
           obtain ⟨rfl,rfl,rfl,hp⟩:=hk
           rw [h1] at hrow
           rcases hrow with hr | ⟨b,n,cap,vs,rest,g1,g2,g3,g4,g5,g6,g7,g8,g9⟩
           ·exact .inl hr
           ·exact .inr ⟨b,n,cap,vs,rest,g1,hC b g1,g3,g4,g5,g6,g7,g8,zc7 hp g9⟩
       | _=>rw [h1] at hk;exact hk.elim
   | tab e c =>
     rw [h0] at hk
     cases h1:(E.R j).kind with
     | tab e' c' =>
       rw [h1] at hk
       obtain ⟨rfl,hk⟩:=hk
       rw [h1] at hrow
       rcases hrow with ⟨g1,g2,g3⟩ | ⟨b,n,cap,vs,rest,g1,g2,g3,g4,g5,g6,g7,g8,g9⟩
       ·refine .inl ⟨g1,g2,?_⟩
        subst g3;cases hk;rfl
       ·exact .inr ⟨b,n,cap,vs,rest,g1,hC b g1,g3,g4,g5,g6,g7,g8,ztk hw hg _ hk g9⟩
     | sli e' sz fz c' =>
       rw [h1] at hk
       cases fz with
       | true=>exact hk.elim
       | false =>
         obtain ⟨rfl,rfl,rfl,rfl⟩:=hk
         rw [h1] at hrow
         rcases hrow with ⟨g1,g2,g3⟩ | ⟨b,n,cap,vs,rest,g1,g2,g3,g4,g5,g6,g7,g8,g9⟩
         ·exact .inl ⟨g1,g2,rfl⟩
         ·exact .inr ⟨b,n,cap,vs,rest,g1,hC b g1,g3,g4,by omega,g6,g7,by omega,g9.1,fun i a=>absurd a (by simp)⟩
     | _=>rw [h1] at hk;exact hk.elim
   | mp f =>
     rw [h0] at hk
     cases h1:(E.R j).kind with
     | mp f' =>
       rw [h1] at hk
       obtain rfl:f = f':=hk
       rw [h1] at hrow
       obtain ⟨b,es,ck,g1,g2,g3,g4,g5⟩:=hrow
       exact ⟨b,es,ck,g1,hC b g1,g3,g4,g5⟩
     | _=>rw [h1] at hk;exact hk.elim
  ·unfold zav
   show match (R0 k).kind with | .dead=>True | .nil=>_ | .box t cells=>_ | .sli e sz _ cells=>_ | .tab e cells=>_ | .mp f=>_
   cases h0:(R0 k).kind with
   | dead=>trivial
   | _=>rw [h0] at hn;exact absurd rfl hn
 ·have e1:zAL E rho R0 k = some b:=e1
  have e2:zAL E rho R0 k' = some b:=e2
  obtain ⟨_,j,hj,hb⟩:=zfF e1
  obtain ⟨_,j',hj',hb'⟩:=zfF e2
  obtain ⟨_,_,i,hi,hk⟩:=hg.row k n1
  obtain ⟨_,_,i',hi',hk'⟩:=hg.row k' n2
  rw [hj] at hi;cases hi
  rw [hj'] at hi';cases hi'
  have:=hw.inj j j' b (RK.nd_of_live (zb1 hk).2.1) (RK.nd_of_live (zb1 hk').2.1) hb hb'
  subst this
  exact hg.inj k k' j n1 n2 hj hj'
 ·rcases h with ⟨j,h1,h2,_⟩ | h
  ·exact (hw.block h1 (RK.nd_of_live h2)).1
  ·rw [hw.xs] at h
   have:=hw.fx.low b h
   have:=hw.kept.size
   show b < w.heap.size
   omega
 ·obtain ⟨hn,j,hj,hb⟩:=hM
  obtain ⟨_,_,i,hi,hk⟩:=hg.row k hn
  rw [hj] at hi;cases hi
  exact hw.ngl hb (RK.nd_of_live (zb1 hk).2.1)
 ·have hb:zAL E rho R0 k = some b:=hb
  obtain ⟨_,j,hj,hb⟩:=zfF hb
  obtain ⟨_,_,i,hi,hk⟩:=hg.row k hn
  rw [hj] at hi;cases hi
  have hnj:=RK.nd_of_live (zb1 hk).2.1
  rcases hX with ⟨j',h1,h2,_,h3⟩ | hX
  ·have:=hw.inj j j' b hnj (RK.nd_of_live h2) hb h1
   subst this
   exact h3 k hn hj
  ·rw [hw.xs] at hX;exact hw.apart j b hnj hb hX
def zxy (rho:Nat→Option Nat) (R1:Nat→Row) (nv:Nat→Nat) (nl:Bool):PV→PV
 | .v x=>.v x
 | .own k v=>match rho k,v == (R1 k).ver with | some j,true=>.own j (nv k) | _,_=>.junk
 | .ref k v off=>match rho k,v == (R1 k).ver with | some j,true=>.ref j (nv k) off | _,_=>.junk
 | .sl fr sz c=>match fr || nl with | true=>.sl fr sz c | false=>.junk
 | .eref fr c off=>match fr || nl with | true=>.eref fr c off | false=>.junk
 | _=>.junk
def zwf (rho:Nat→Option Nat) (R1:Nat→Row) (nv:Nat→Nat) (nl:Bool):PV→PV
 | .ag c=>.ag (c.map (zxy rho R1 nv nl))
 | .clo f c=>.clo f (c.map (zxy rho R1 nv nl))
 | p=>zxy rho R1 nv nl p
def zFk (rho:Nat→Option Nat) (R1:Nat→Row) (nv:Nat→Nat) (nl:Bool):PV→PV
 | .tup c=>.tup (c.map (zwf rho R1 nv nl))
 | p=>zwf rho R1 nv nl p
def zsI (rho:Nat→Option Nat) (R1:Nat→Row) (nv:Nat→Nat) (nl:Bool):RK→RK
 | .box t c=>.box t (c.map (zwf rho R1 nv nl))
 | .tab e c=>.tab e (c.map (zwf rho R1 nv nl))
 | k=>k
theorem zGo (rho:Nat→Option Nat) (R1:Nat→Row) (nv:Nat→Nat) (nl fr:Bool) (sz:Nat) (c:List PV):zxy rho R1 nv nl (.sl fr sz c) = match fr || nl with | true=>.sl fr sz c | false=>.junk:=rfl
theorem zAM (rho:Nat→Option Nat) (R1:Nat→Row) (nv:Nat→Nat) (nl fr:Bool) (c:List PV) (off:Nat):zxy rho R1 nv nl (.eref fr c off) = match fr || nl with | true=>.eref fr c off | false=>.junk:=rfl
theorem zeG (rho:Nat→Option Nat) (R1:Nat→Row) (nv:Nat→Nat) (nl:Bool) (k v:Nat):zxy rho R1 nv nl (.own k v) = match rho k,v == (R1 k).ver with | some j,true=>.own j (nv k) | _,_=>.junk:=rfl
theorem zC3 (rho:Nat→Option Nat) (R1:Nat→Row) (nv:Nat→Nat) (nl:Bool) (k v off:Nat):zxy rho R1 nv nl (.ref k v off) = match rho k,v == (R1 k).ver with | some j,true=>.ref j (nv k) off | _,_=>.junk:=rfl
theorem zlx (rho:Nat→Option Nat) (R1:Nat→Row) (nv:Nat→Nat) (nl:Bool) (k:RK):(zsI rho R1 nv nl k).nd = k.nd:=by cases k <;> rfl
theorem zAN (rho:Nat→Option Nat) (R1:Nat→Row) (nv:Nat→Nat) (nl:Bool) (k:RK):(zsI rho R1 nv nl k).live = k.live:=by cases k <;> rfl
theorem zn9 (rho:Nat→Option Nat) (R1:Nat→Row) (nv:Nat→Nat) (nl:Bool) (k:RK):(zsI rho R1 nv nl k).slice = k.slice:=by cases k <;> rfl
structure Back (rho rho1:Nat→Option Nat) (R1:Nat→Row) (nv:Nat→Nat) (nl:Bool) (Ln:Nat→Prop) (R0 R:Nat→Row):Prop where
 keep:∀ k,(R0 k).kind.nd = true→rho1 k = rho k
 inj:∀ k k' j,rho1 k = some j→rho1 k' = some j→k = k'
 ver:∀ k j,rho1 k = some j→(R0 k).kind.nd = true→(R1 k).ver = (R0 k).ver→nv k = (R j).ver
 new:∀ k j,rho1 k = some j→((R0 k).kind.nd = true→(R1 k).ver ≠ (R0 k).ver)→(R j).ver < nv k
 nl:nl = true→∀ j,¬ Ln j
variable {rho1:Nat→Option Nat} {nv:Nat→Nat} {nl:Bool} {inv:Nat→Option Nat}
def bkR (E E':Env) (rho1:Nat→Option Nat) (nv:Nat→Nat) (nl:Bool) (inv:Nat→Option Nat) (j:Nat):Row :=
 match inv j with | some k=>⟨nv k,zsI rho1 E'.R nv nl (E'.R k).kind⟩ | none=>E.R j
def Env.bk (E E':Env) (rho1:Nat→Option Nat) (nv:Nat→Nat) (nl:Bool) (inv:Nat→Option Nat):Env :=
 { R:=bkR E E' rho1 nv nl inv,rm:=fun j=>match inv j with | some k=>E'.rm k | none=>E.rm j,rv:=fun j=>match inv j with | some k=>E'.rv k | none=>E.rv j,
   L:=mkL E.X (bkR E E' rho1 nv nl inv) (fun j=>match inv j with | some k=>E'.rm k | none=>E.rm j),B:=E.B,X:=E.X }
theorem zjq {j k:Nat} (h:inv j = some k):(E.bk E' rho1 nv nl inv).R j = ⟨nv k,zsI rho1 E'.R nv nl (E'.R k).kind⟩∧(E.bk E' rho1 nv nl inv).rm j = E'.rm k∧(E.bk E' rho1 nv nl inv).rv j = E'.rv k:=by
 simp only [Env.bk,bkR,h,and_self]
theorem zAO {j:Nat} (h:inv j = none):(E.bk E' rho1 nv nl inv).R j = E.R j∧(E.bk E' rho1 nv nl inv).rm j = E.rm j∧(E.bk E' rho1 nv nl inv).rv j = E.rv j:=by
 simp only [Env.bk,bkR,h,and_self]
variable [zae] (hw:WOk G E w) (hg:Give rho Ln R0 E.R) (hb:Back rho rho1 E'.R nv nl Ln R0 E.R) (hinv:∀ j k,inv j = some k ↔ rho1 k = some j)
 (hw':WOk ⟨w,gvM E rho R0,0,(E.gv rho Ln R0 w.heap.size).R,(E.gv rho Ln R0 w.heap.size).rm,(E.gv rho Ln R0 w.heap.size).rv,(E.gv rho Ln R0 w.heap.size).X⟩ E' w')
include hw hg hb hinv hw'
theorem zK0 {b:Nat} (hL:¬ E'.L b) (hs:nl = true ∨ w.heap.size ≤ b):¬ (E.bk E' rho1 nv nl inv).L b:=by
 have _:=hg
 have hx:E'.X = gvX E rho Ln R0:=hw'.xs
 intro h
 rcases h with ⟨j,h1,h2⟩ | h
 ·cases hi:inv j with
  | some k =>
    obtain ⟨a1,a2,_⟩:=zjq (E:=E) (E':=E') (rho1:=rho1) (nv:=nv) (nl:=nl) hi
    have h1:(E.bk E' rho1 nv nl inv).rm j = some b:=h1
    have h2:((E.bk E' rho1 nv nl inv).R j).kind.live = true:=h2
    rw [a2] at h1;rw [a1] at h2
    have h2:(zsI rho1 E'.R nv nl (E'.R k).kind).live = true:=h2
    rw [zAN] at h2
    exact hL ((hw'.live b).2 (.inl ⟨k,h1,h2⟩))
  | none =>
    obtain ⟨a1,a2,_⟩:=zAO (E:=E) (E':=E') (rho1:=rho1) (nv:=nv) (nl:=nl) hi
    have h1:(E.bk E' rho1 nv nl inv).rm j = some b:=h1
    have h2:((E.bk E' rho1 nv nl inv).R j).kind.live = true:=h2
    rw [a2] at h1;rw [a1] at h2
    have hbs:=(hw.block h1 (RK.nd_of_live h2)).1
    by_cases hln:Ln j
    ·rcases hs with hs | hs
     ·exact hb.nl hs j hln
     ·omega
    ·refine hL ((hw'.live b).2 (.inr ?_))
     rw [hx]
     refine .inl ⟨j,h1,h2,hln,fun k hn hk=>?_⟩
     have:=(hinv j k).2 ((hb.keep k hn).trans hk)
     rw [hi] at this;cases this
 ·refine hL ((hw'.live b).2 (.inr ?_))
  rw [hx];exact .inr h
theorem ztl {lo:Nat} (hs:nl = true ∨ w.heap.size ≤ lo) {p:PV} {x:Value} (h:Rep w' E'.bare lo p x):Rep w' (E.bk E' rho1 nv nl inv).bare lo p x :=
 h.above (fun _=>rfl) (fun _=>rfl) rfl rfl fun b hlo hL=>zK0 hw hg hb hinv hw' hL (hs.imp id fun h=>Nat.le_trans h hlo)
theorem zC4 {p:PV} {x:Value} (h:Rep w' E' 0 p x):Rep w' (E.bk E' rho1 nv nl inv) 0 (zxy rho1 E'.R nv nl p) x:=by
 have hB:E'.B = w.heap.size:=hw'.base
 have hB3:(E.bk E' rho1 nv nl inv).B ≤ w.heap.size:=by show E.B ≤ _;rw [hw.base];exact hw.kept.size
 have hlo:∀ fr,(E.bk E' rho1 nv nl inv).lo 0 fr ≤ E'.lo 0 fr:=fun fr=>by unfold Env.lo;cases fr <;> simp;omega
 have hsz:∀ fr,(fr || nl) = true→nl = true ∨ w.heap.size ≤ E'.lo 0 fr:=fun fr h=>by
  cases fr with
  | true=>right;unfold Env.lo;simp;omega
  | false=>left;simpa using h
 cases h with
 | v y=>exact .v _
 | junk=>exact .junk _
 | ag=>exact .junk _
 | tup=>exact .junk _
 | clo=>exact .junk _
 | @sl _ _ fr sz len cap cells a cs hl hc hm hr hh =>
   rw [zGo]
   cases hf:(fr || nl) with
   | false=>exact .junk _
   | true =>
     refine .sl cs hl hc hm (fun i hi=>?_) (fun i hi=>(ztl hw hg hb hinv hw' (hsz fr hf) (hh i hi)).low (hlo fr))
     obtain ⟨b,o,ha,hbb,hL,hcell⟩:=hr i hi
     exact ⟨b,o,ha,Nat.le_trans (hlo fr) hbb,zK0 hw hg hb hinv hw' hL ((hsz fr hf).imp id fun h=>Nat.le_trans h hbb),hcell⟩
 | @eref _ _ fr cells off b o cs hr hh =>
   rw [zAM]
   cases hf:(fr || nl) with
   | false=>exact .junk _
   | true =>
     refine .eref cs (fun i hi=>?_) (fun i hi=>(ztl hw hg hb hinv hw' (hsz fr hf) (hh i hi)).low (hlo fr))
     obtain ⟨hbb,hL,hcell⟩:=hr i hi
     exact ⟨Nat.le_trans (hlo fr) hbb,zK0 hw hg hb hinv hw' hL ((hsz fr hf).imp id fun h=>Nat.le_trans h hbb),hcell⟩
 | @own _ _ k v x hv hx =>
   rw [zeG]
   cases hr:rho1 k with
   | none=>exact .junk _
   | some j =>
     cases hvv:v == (E'.R k).ver with
     | false=>exact .junk _
     | true =>
       obtain ⟨a1,a2,a3⟩:=zjq (E:=E) (E':=E') (rho1:=rho1) (nv:=nv) (nl:=nl) ((hinv j k).2 hr)
       refine .own (by rw [a1];exact Nat.le_refl _) fun he hs=>?_
       rw [a1] at hs
       have hs:(zsI rho1 E'.R nv nl (E'.R k).kind).slice = true:=hs
       rw [zn9] at hs
       rw [a3];exact hx (beq_iff_eq.1 hvv).symm hs
 | @ref _ _ k v off x hv hx =>
   rw [zC3]
   cases hr:rho1 k with
   | none=>exact .junk _
   | some j =>
     cases hvv:v == (E'.R k).ver with
     | false=>exact .junk _
     | true =>
       obtain ⟨a1,a2,a3⟩:=zjq (E:=E) (E':=E') (rho1:=rho1) (nv:=nv) (nl:=nl) ((hinv j k).2 hr)
       refine .ref (by rw [a1];exact Nat.le_refl _) fun he hs=>?_
       rw [a1] at hs
       have hs:(zsI rho1 E'.R nv nl (E'.R k).kind).nd = true:=hs
       rw [zlx] at hs
       rw [a2];exact hx (beq_iff_eq.1 hvv).symm hs
theorem zj2 (f:PV→PV) (hf:∀ p x,Rep w' E' 0 p x→Rep w' (E.bk E' rho1 nv nl inv) 0 (f p) x) {ps:List PV} {vs:List Value} (h:zbl w' E' 0 ps vs):zbl w' (E.bk E' rho1 nv nl inv) 0 (ps.map f) vs:=by
 have _:=hw;have _:=hg;have _:=hb;have _:=hinv;have _:=hw'
 exact ⟨by simpa using h.1,fun i a b=>by
  have a':i < ps.length:=by simpa using a
  have:=hf _ _ (h.2 i a' b)
  simpa using this⟩
theorem zwg {p:PV} {x:Value} (h:Rep w' E' 0 p x):Rep w' (E.bk E' rho1 nv nl inv) 0 (zwf rho1 E'.R nv nl p) x:=by
 have hA:=fun p x=>zC4 hw hg hb hinv hw' (p:=p) (x:=x)
 cases h with
 | @ag _ _ cells vs hl hh=>have:=zj2 hw hg hb hinv hw' _ hA ⟨hl,hh⟩;exact .ag this.1 this.2
 | @clo _ _ f cells vs hl hh=>have:=zj2 hw hg hb hinv hw' _ hA ⟨hl,hh⟩;exact .clo this.1 this.2
 | v y=>exact hA _ _ (.v _)
 | junk=>exact hA _ _ (.junk _)
 | tup hl hh=>exact hA _ _ (.tup hl hh)
 | sl cs a b c d e=>exact hA _ _ (.sl cs a b c d e)
 | eref cs a b=>exact hA _ _ (.eref cs a b)
 | own a b=>exact hA _ _ (.own a b)
 | ref a b=>exact hA _ _ (.ref a b)
theorem zC5 {p:PV} {x:Value} (h:Rep w' E' 0 p x):Rep w' (E.bk E' rho1 nv nl inv) 0 (zFk rho1 E'.R nv nl p) x:=by
 have hA:=fun p x=>zwg hw hg hb hinv hw' (p:=p) (x:=x)
 cases h with
 | @tup _ _ cells vs hl hh=>have:=zj2 hw hg hb hinv hw' _ hA ⟨hl,hh⟩;exact .tup this.1 this.2
 | ag hl hh=>exact hA _ _ (.ag hl hh)
 | clo hl hh=>exact hA _ _ (.clo hl hh)
 | v y=>exact hA _ _ (.v _)
 | junk=>exact hA _ _ (.junk _)
 | sl cs a b c d e=>exact hA _ _ (.sl cs a b c d e)
 | eref cs a b=>exact hA _ _ (.eref cs a b)
 | own a b=>exact hA _ _ (.own a b)
 | ref a b=>exact hA _ _ (.ref a b)
theorem zFl {j k b:Nat} (hi:inv j = some k) (hrm:E'.rm k = some b) (hn:(E'.R k).kind.nd = true):w.heap.size ≤ b ∨ (E.rm j = some b∧(E.R j).kind.live = true):=by
 have _:=hw
 rcases (hw'.block hrm hn).2 with h | ⟨_,hnd,j',hj',hb'⟩
 ·exact .inl h
 ·have h1:=(hinv j k).1 hi
  rw [hb.keep k hnd,hj'] at h1
  cases h1
  obtain ⟨_,_,j'',hj'',hk⟩:=hg.row k hnd
  rw [hj'] at hj'';cases hj''
  exact .inr ⟨hb',(zb1 hk).2.1⟩
theorem zGp:Turn G E (E.bk E' rho1 nv nl inv) w w' (fun j=>∃ k,inv j = some k):=by
 have hnone:∀ j,¬ (∃ k,inv j = some k)→inv j = none:=fun j h=>by
  cases hi:inv j with
  | none=>rfl
  | some k=>exact absurd ⟨k,hi⟩ h
 have given:∀ j k,inv j = some k→(R0 k).kind.nd = true→rho k = some j∧(E.R j).kind.live = true∧(R0 k).kind.slice = (E.R j).kind.slice:=fun j k hi hn=>by
  have h1:=(hinv j k).1 hi
  rw [hb.keep k hn] at h1
  obtain ⟨_,_,j',hj',hk⟩:=hg.row k hn
  rw [h1] at hj';cases hj'
  exact ⟨h1,(zb1 hk).2.1,(zb1 hk).2.2⟩
 have old:∀ j k,inv j = some k→nv k = (E.R j).ver→(R0 k).kind.nd = true∧(E'.R k).ver = (R0 k).ver:=fun j k hi he=>by
  by_cases hc:(R0 k).kind.nd = true∧(E'.R k).ver = (R0 k).ver
  ·exact hc
  ·have:=hb.new k j ((hinv j k).1 hi) fun h1 h2=>hc ⟨h1,h2⟩
   omega
 refine ⟨rfl,rfl,rfl,fun j hj=>?_,fun b hbs hD=>?_,fun j b ⟨k,hi⟩ hrm hn=>?_,fun j ⟨k,hi⟩=>?_,fun j ⟨k,hi⟩ he hs=>?_,fun j ⟨k,hi⟩ he hs=>?_,fun j ⟨k,hi⟩ hn=>?_,fun j j' b ⟨k,hi⟩ ⟨k',hi'⟩ n1 n2 e1 e2=>?_,hw'.kept.size,hw'.kept.os,hw'.kept.tape,hw'.kept.output⟩
 ·exact zAO (hnone j hj)
 ·refine hw'.kept.block b hbs fun k ⟨hn,j,hj,hjb⟩=>?_
  have hi:=(hinv j k).2 ((hb.keep k hn).trans hj)
  have h1:=hD j ⟨k,hi⟩ hjb
  rw [(given j k hi hn).2.1] at h1;cases h1
 ·obtain ⟨a1,a2,_⟩:=zjq (E:=E) (E':=E') (rho1:=rho1) (nv:=nv) (nl:=nl) hi
  rw [a2] at hrm;rw [a1] at hn
  have hn:(zsI rho1 E'.R nv nl (E'.R k).kind).nd = true:=hn
  rw [zlx] at hn
  rcases zFl hw hg hb hinv hw' hi hrm hn with h | ⟨h1,h2⟩
  ·exact .inl h
  ·exact .inr ⟨h1,RK.nd_of_live h2,fun _=>h2⟩
 ·rw [(zjq hi).1]
  show (E.R j).ver ≤ nv k
  by_cases hc:(R0 k).kind.nd = true∧(E'.R k).ver = (R0 k).ver
  ·exact Nat.le_of_eq (hb.ver k j ((hinv j k).1 hi) hc.1 hc.2).symm
  ·exact Nat.le_of_lt (hb.new k j ((hinv j k).1 hi) fun h1 h2=>hc ⟨h1,h2⟩)
 ·obtain ⟨a1,a2,a3⟩:=zjq (E:=E) (E':=E') (rho1:=rho1) (nv:=nv) (nl:=nl) hi
  rw [a1] at he hs
  have he:nv k = (E.R j).ver:=he
  have hs:(zsI rho1 E'.R nv nl (E'.R k).kind).slice = true:=hs
  rw [zn9] at hs
  obtain ⟨hn,hv⟩:=old j k hi he
  obtain ⟨g1,g2,g3⟩:=given j k hi hn
  obtain ⟨_,_,q⟩:=(hw'.pin k).2 hv (RK.nd_of_slice hs)
  obtain ⟨q1,q2⟩:=q hs
  have q1:(R0 k).kind.slice = true:=q1
  refine ⟨by rw [← g3];exact q1,?_⟩
  rw [a3,q2]
  show (match rho k with | some j=>E.rv j | none=>default) = _
  rw [g1]
 ·obtain ⟨a1,a2,a3⟩:=zjq (E:=E) (E':=E') (rho1:=rho1) (nv:=nv) (nl:=nl) hi
  rw [a1] at he hs
  have he:nv k = (E.R j).ver:=he
  have hs:(zsI rho1 E'.R nv nl (E'.R k).kind).nd = true:=hs
  rw [zlx] at hs
  obtain ⟨hn,hv⟩:=old j k hi he
  obtain ⟨g1,g2,g3⟩:=given j k hi hn
  obtain ⟨_,q,_⟩:=(hw'.pin k).2 hv hs
  refine ⟨RK.nd_of_live g2,?_⟩
  rw [a2,q]
  exact zti hn g1
 ·obtain ⟨a1,_,_⟩:=zjq (E:=E) (E':=E') (rho1:=rho1) (nv:=nv) (nl:=nl) hi
  rw [a1] at hn ⊢
  have hn:(zsI rho1 E'.R nv nl (E'.R k).kind).nd = true:=hn
  rw [zlx] at hn
  show 0 < nv k
  by_cases hc:(R0 k).kind.nd = true∧(E'.R k).ver = (R0 k).ver
  ·rw [hb.ver k j ((hinv j k).1 hi) hc.1 hc.2]
   exact hw.pos j (RK.nd_of_live (given j k hi hc.1).2.1)
  ·have:=hb.new k j ((hinv j k).1 hi) fun h1 h2=>hc ⟨h1,h2⟩
   omega
 ·obtain ⟨a1,a2,_⟩:=zjq (E:=E) (E':=E') (rho1:=rho1) (nv:=nv) (nl:=nl) hi
  obtain ⟨b1,b2,_⟩:=zjq (E:=E) (E':=E') (rho1:=rho1) (nv:=nv) (nl:=nl) hi'
  rw [a2] at e1;rw [b2] at e2
  rw [a1] at n1;rw [b1] at n2
  have n1:(zsI rho1 E'.R nv nl (E'.R k).kind).nd = true:=n1
  have n2:(zsI rho1 E'.R nv nl (E'.R k').kind).nd = true:=n2
  rw [zlx] at n1 n2
  have:=hw'.inj k k' b n1 n2 e1 e2
  subst this
  have h1:=(hinv j k).1 hi
  have h2:=(hinv j' k).1 hi'
  rw [h1] at h2;cases h2;rfl
theorem zGq:∀ j,(∃ k,inv j = some k)→zav w' (E.bk E' rho1 nv nl inv) G.C j:=by
 rintro j ⟨k,hi⟩
 obtain ⟨a1,a2,a3⟩:=zjq (E:=E) (E':=E') (rho1:=rho1) (nv:=nv) (nl:=nl) hi
 have hB:E'.B = w.heap.size:=hw'.base
 have hB3:(E.bk E' rho1 nv nl inv).B ≤ w.heap.size:=by show E.B ≤ _;rw [hw.base];exact hw.kept.size
 have hC:∀ b,E'.rm k = some b→(E'.R k).kind.nd = true→G.C j b:=fun b hrm hn=>by
  rcases zFl hw hg hb hinv hw' hi hrm hn with h | ⟨h1,h2⟩
  ·exact .inl (Nat.le_trans hw.kept.size h)
  ·exact (hw.block h1 (RK.nd_of_live h2)).2
 have h1:=fun ps vs=>zj2 hw hg hb hinv hw' (zwf rho1 E'.R nv nl) (fun p x=>zwg hw hg hb hinv hw' (p:=p) (x:=x)) (ps:=ps) (vs:=vs)
 have hrow:=hw'.rows k
 unfold zav at hrow ⊢
 rw [a1,a2,a3]
 show match zsI rho1 E'.R nv nl (E'.R k).kind with | .dead=>True | .nil=>_ | .box t cells=>_ | .sli e sz _ cells=>_ | .tab e cells=>_ | .mp f=>_
 cases hk:(E'.R k).kind with
 | dead=>trivial
 | nil=>rw [hk] at hrow;exact hrow
 | box t c =>
   rw [hk] at hrow
   obtain ⟨b,vs,g1,g2,g3,g4⟩:=hrow
   exact ⟨b,vs,g1,hC b g1 (by rw [hk];rfl),g3,h1 _ _ g4⟩
 | sli e sz fz c =>
   rw [hk] at hrow
   rcases hrow with hr | ⟨b,n,cap,vs,rest,g1,g2,g3,g4,g5,g6,g7,g8,g9⟩
   ·exact .inl hr
   ·exact .inr ⟨b,n,cap,vs,rest,g1,hC b g1 (by rw [hk];rfl),g3,g4,g5,g6,g7,g8,g9.1,fun i x y=>(ztl hw hg hb hinv hw' (.inr (Nat.le_of_eq hB.symm)) (g9.2 i x y)).low (by rw [hB];exact hB3)⟩
 | tab e c =>
   rw [hk] at hrow
   rcases hrow with ⟨g1,g2,g3⟩ | ⟨b,n,cap,vs,rest,g1,g2,g3,g4,g5,g6,g7,g8,g9⟩
   ·exact .inl ⟨g1,g2,by rw [g3];rfl⟩
   ·exact .inr ⟨b,n,cap,vs,rest,g1,hC b g1 (by rw [hk];rfl),g3,g4,g5,g6,g7,g8,h1 _ _ g9⟩
 | mp f =>
   rw [hk] at hrow
   obtain ⟨b,es,ck,g1,g2,g3,g4,g5⟩:=hrow
   exact ⟨b,es,ck,g1,hC b g1 (by rw [hk];rfl),g3,g4,g5⟩
end
theorem zJL {rho:Nat→Option Nat} (h:∀ k k' j,rho k = some j→rho k' = some j→k = k'):∃ inv:Nat→Option Nat,∀ j k,inv j = some k ↔ rho k = some j:=by
 classical
 refine ⟨fun j=>if hj:∃ k,rho k = some j then some hj.choose else none,fun j k=>?_⟩
 by_cases hj:∃ k,rho k = some j
 ·simp only [dif_pos hj,Option.some.injEq]
  constructor
  ·rintro rfl;exact hj.choose_spec
  ·exact fun hk=>h _ _ j hj.choose_spec hk
 ·simp only [dif_neg hj]
  constructor
  ·intro h;cases h
  ·exact fun hk=>absurd ⟨k,hk⟩ hj
structure After (s S:St) (dst:Option Nat) (rho1:Nat→Option Nat) (nv:Nat→Nat) (nl:Bool) (R1:Nat→Row) (p:PV):Prop where
 row:∀ k j,rho1 k = some j→S.rw j = ⟨nv k,zsI rho1 R1 nv nl (R1 k).kind⟩
 off:∀ j,(∀ k,rho1 k ≠ some j)→S.rw j = s.rw j
 sl:S.sl = (s.put dst (zFk rho1 R1 nv nl p)).sl
def askG [zae] (P:Program) (s:St) (g:FuncId) (raw:List PV) (dst:Option Nat) (K:St→Prop):Prop :=
 ∃ (args:List PV) (R0:Nat→Row) (post:(Nat→Row)→PV→Prop) (rho:Nat→Option Nat) (Ln:Nat→Prop),
  AG P g args R0 post∧GvL rho Ln R0 s.rw args raw∧Give rho Ln R0 s.rw ∧
  ∀ R1 p,post R1 p→∃ (rho1:Nat→Option Nat) (nv:Nat→Nat) (nl:Bool),Back rho rho1 R1 nv nl Ln R0 s.rw∧∀ S:St,After s S dst rho1 nv nl R1 p→K S
theorem zgH [zae] {P:Program} {G:Ghost} {s:St} {w:World} {o:Oper} {c:Call} {f:Operand} {K:St→Prop} (ho:o.op = .call c) (hc:c.callee = .value f) (hd:∀ d,o.dst = some d→d < G.n)
 (hk:match s.ev f with | .clo g caps=>askG P s g (c.args.toList.map s.ev ++ caps) o.dst K | _=>False) {a:Act} (hs:Sim G s a w) {K':Act→World→Prop} {Q:Exit→Act→World→Prop}
 (hK:∀ s' a' w',K s'→Sim G s' a' w'→K' a' w'):o.wp P a w K' Q:=by
 split at hk
 ·rename_i g caps hev
  obtain ⟨args,R0,post,rho,Ln,hag,hgl,hgv,hk⟩:=hk
  obtain ⟨E,hs⟩:=hs
  have hfx:=zaz hs.slots f
  rw [hev] at hfx
  generalize hvf:a.eval f = vf at hfx
  cases hfx with
  | @clo _ _ _ _ vs hl hh' =>
    obtain ⟨hent,hcall⟩:=hag
    rw [← hs.rw] at hgl hgv
    have hraw:zbl w E 0 (c.args.toList.map s.ev ++ caps) (c.args.toList.map a.eval ++ vs) :=
     zbl.append (zbl.map fun x _=>zaz hs.slots x) ⟨hl,hh'⟩
    have hcall:=hcall w (gvM E rho R0) (E.gv rho Ln R0 w.heap.size) _ (zKZ hs.wok hgv) rfl (ztk hs.wok hgv _ hgl hraw)
    unfold Oper.wp
    rw [zj1 ho hc hvf hent]
    show Calls P g _ w _
    refine hcall.mono fun en w' ⟨E',p,v,he,hw',hrep,hpost⟩=>?_
    subst he
    obtain ⟨rho1,nv,nl,hbk,hk⟩:=hk E'.R p hpost
    rw [← hs.rw] at hbk
    obtain ⟨inv,hinv⟩:=zJL hbk.inj
    have hsim:=(zGp hs.wok hgv hbk hinv hw').sim hs (zGq hs.wok hgv hbk hinv hw')
    have hput:=hsim.put hd (zC5 hs.wok hgv hbk hinv hw' hrep)
    refine hK _ _ _ (hk _ ⟨fun k j hkj=>?_,fun j hj=>?_,?_⟩) ⟨_,hput⟩
    ·have:(St.put { s with rw:=(E.bk E' rho1 nv nl inv).R } o.dst (zFk rho1 E'.R nv nl p)).rw j = (E.bk E' rho1 nv nl inv).R j:=by cases o.dst <;> rfl
     rw [this,(zjq ((hinv j k).2 hkj)).1]
    ·have:(St.put { s with rw:=(E.bk E' rho1 nv nl inv).R } o.dst (zFk rho1 E'.R nv nl p)).rw j = (E.bk E' rho1 nv nl inv).R j:=by cases o.dst <;> rfl
     have hn:inv j = none:=by
      cases hi:inv j with
      | none=>rfl
      | some k=>exact absurd ((hinv j k).1 hi) (hj k)
     rw [this,(zAO hn).1,hs.rw]
    ·cases o.dst <;> rfl
 ·exact hk.elim
end Go.Abs

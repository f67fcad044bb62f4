/- DERIVED by an AI agent. -/
import Derived.Test.YtkledeboboplmaaGreatA6
import Derived.Test.YtkledeboboplmaaGreatA4
/- DERIVED by an AI agent. Rows written no more; all operations together; a region in the order of the text. No program in sight. -/
namespace Go.Abs
set_option linter.unusedSimpArgs false
def Wk [zae] (s s':St):Prop:=∀ (G:Ghost) (a:Act) (w:World),Sim G s a w→Sim G s' a w
theorem Wk.refl [zae] (s:St):Wk s s:=fun _ _ _ h=>h
theorem Wk.trans [zae] {a b c:St} (h:Wk a b) (k:Wk b c):Wk a c:=fun G x w hs=>k G x w (h G x w hs)
theorem Wk.freeze [zae] (s:St) (ks:List Nat):Wk s (s.freeze ks):=by
 intro G a w ⟨E,hs⟩
 have ht:Turn G E { R:=zgM E.R ks,rm:=E.rm,rv:=E.rv,L:=mkL E.X (zgM E.R ks) E.rm,B:=E.B,X:=E.X } w w (· ∈ ks):=by
  have at_:∀ k,k ∈ ks→zgM E.R ks k = frz (E.R k):=fun k hk=>by simp [zgM,hk]
  refine ⟨rfl,rfl,rfl,fun k hk=>⟨by simp [zgM,hk],rfl,rfl⟩,fun _ _ _=>rfl,fun k b hk hb hn=>.inr ⟨hb,?_,fun hl=>?_⟩,fun k hk=>?_,fun k hk _ h=>⟨?_,rfl⟩,fun k hk _ h=>⟨?_,rfl⟩,fun k hk hn=>?_,fun k k' b hk hk' hn hn' hb hb'=>?_,Nat.le_refl _,rfl,rfl,⟨rfl,fun _=>by first | exact Nat.le_refl _ | exact Nat.le_succ _⟩⟩
  ·simpa [at_ k hk,zeW] using hn
  ·exact zi0 _ (by simpa [at_ k hk] using hl)
  ·simp [at_ k hk,znK]
  ·simpa [at_ k hk,zqt] using h
  ·simpa [at_ k hk,zeW] using h
  ·have:=hs.wok.pos k (by simpa [at_ k hk,zeW] using hn)
   simpa [at_ k hk,znK] using this
  ·exact hs.wok.inj k k' b (by simpa [at_ k hk,zeW] using hn) (by simpa [at_ k' hk',zeW] using hn') hb hb'
 have hl:=ht.lasts hs.wok
 have hrows:∀ k,k ∈ ks→zas w { R:=zgM E.R ks,rm:=E.rm,rv:=E.rv,L:=mkL E.X (zgM E.R ks) E.rm,B:=E.B,X:=E.X } G.C k:=by
  intro k hk
  have hr:=hs.wok.rows k
  have hf:zgM E.R ks k = frz (E.R k):=by simp [zgM,hk]
  unfold zas at hr ⊢
  simp only [hf]
  cases hkd:(E.R k).kind with
  | dead=>simp [frz,hkd]
  | nil=>simp only [hkd,frz] at hr ⊢;exact hr
  | box t cells =>
    simp only [hkd,frz] at hr ⊢
    obtain ⟨b,vs,h1,h2,h3,h4⟩:=hr
    exact ⟨b,vs,h1,h2,h3,h4.mono hl (Nat.le_refl _)⟩
  | sli e sz fz' cells =>
    simp only [hkd,frz] at hr ⊢
    rcases hr with hr | ⟨b,n,cap,vs,rest,h1,h2,h3,h4,h5,h6,h7,h8,h9⟩
    ·exact .inl hr
    ·exact .inr ⟨b,n,cap,vs,rest,h1,h2,h3,h4,h5,h6,h7,h8,h9.mono hl.bare (Nat.le_refl _)⟩
  | tab e cells =>
    simp only [hkd,frz] at hr ⊢
    rcases hr with hr | ⟨b,n,cap,vs,rest,h1,h2,h3,h4,h5,h6,h7,h8,h9⟩
    ·exact .inl hr
    ·exact .inr ⟨b,n,cap,vs,rest,h1,h2,h3,h4,h5,h6,h7,h8,h9.mono hl (Nat.le_refl _)⟩
  | mp f=>simp only [hkd,frz] at hr ⊢;exact hr
 have key:=ht.sim hs hrows
 have e:({ s with rw:=zgM E.R ks }:St) = s.freeze ks:=by rw [hs.rw];rfl
 exact ⟨_,e ▸ key⟩
def zGo (k:Nat) (p:List Nat) (j:Nat):Bool:=j == k || p.any fun x=>j == sid k x
theorem zuG {k:Nat} {p:List Nat} {j:Nat}:zGo k p j = true ↔ InT k p j:=by
 unfold zGo InT
 simp
def za4 (R:Nat→Row) (k:Nat) (p:List Nat) (j:Nat):Row:=match zGo k p j with | true=>⟨(R j).ver + 1,.dead⟩ | false=>R j
def St.killed (s:St) (k:Nat) (p:List Nat):St:={ s with rw:=za4 s.rw k p }
theorem zd2 [zae] {R:Nat→Row} {k:Nat} {p:List Nat} {j:Nat} (h:InT k p j):za4 R k p j = ⟨(R j).ver + 1,.dead⟩:=by
 unfold za4;rw [zuG.2 h]
theorem zbZ [zae] {R:Nat→Row} {k:Nat} {p:List Nat} {j:Nat} (h:¬ InT k p j):za4 R k p j = R j:=by
 unfold za4
 cases hb:zGo k p j with
 | true=>exact absurd (zuG.1 hb) h
 | false=>rfl
theorem Wk.kill [zae] (s:St) (k:Nat) (p:List Nat):Wk s (s.killed k p):=by
 intro G a w ⟨E,hs⟩
 have dead:∀ j,InT k p j→(za4 E.R k p j).kind.nd = true→False:=fun j hj h=>by rw [zd2 hj] at h;cases h
 have ht:Turn G E { R:=za4 E.R k p,rm:=E.rm,rv:=E.rv,L:=mkL E.X (za4 E.R k p) E.rm,B:=E.B,X:=E.X } w w (InT k p):=by
  refine ⟨rfl,rfl,rfl,fun j hj=>⟨zbZ hj,rfl,rfl⟩,fun _ _ _=>rfl,fun j b hD _ hnd=>(dead j hD hnd).elim,fun j hD=>?_,fun j hD he _=>?_,fun j hD he _=>?_,fun j hD hnd=>(dead j hD hnd).elim,fun j j' b hD hD' h1 _ _ _=>(dead j hD h1).elim,Nat.le_refl _,rfl,rfl,⟨rfl,fun _=>by first | exact Nat.le_refl _ | exact Nat.le_succ _⟩⟩
  ·show _ ≤ (za4 E.R k p j).ver
   rw [zd2 hD];exact Nat.le_succ _
  ·have he:(za4 E.R k p j).ver = (E.R j).ver:=he
   rw [zd2 hD] at he;simp at he
  ·have he:(za4 E.R k p j).ver = (E.R j).ver:=he
   rw [zd2 hD] at he;simp at he
 have hrows:∀ j,InT k p j→zas w { R:=za4 E.R k p,rm:=E.rm,rv:=E.rv,L:=mkL E.X (za4 E.R k p) E.rm,B:=E.B,X:=E.X } G.C j:=fun j hj=>by
  unfold zas
  show match (za4 E.R k p j).kind with | .dead=>True | .nil=>_ | .box t cells=>_ | .sli e sz _ cells=>_ | .tab e cells=>_ | .mp f=>_
  rw [zd2 hj];trivial
 have key:SimE G _ ({ s with rw:=za4 E.R k p }:St) a w:=ht.sim hs hrows
 have e:({ s with rw:=za4 E.R k p }:St) = s.killed k p:=by rw [hs.rw];rfl
 rw [e] at key
 exact ⟨_,key⟩
theorem zdm {vr vr':Nat→Nat} {d:Nat} (h:∀ i,vr (zaj d i) = vr' (zaj d i)) (rv:RV):zaS vr d rv 0 = zaS vr' d rv 0:=by
 have e0:∀ (r:RV) (i:Nat),zbK vr d r i = zbK vr' d r i:=fun r i=>by
  cases r <;> simp only [zbK,h]
 have eL:∀ (f g:RV→Nat→PV),(∀ r i,f r i = g r i)→∀ l i,zbv f l i = zbv g l i:=fun f g h l=>by
  induction l with
  | nil=>intro i;rfl
  | cons r rs ih=>intro i;simp only [zbv,h,ih]
 have e1:∀ (r:RV) (i:Nat),zce vr d r i = zce vr' d r i:=fun r i=>by
  cases r <;> simp only [zce,e0,eL _ _ e0]
 cases rv <;> simp only [zaS,e1,e0,eL _ _ e1]
theorem zbA [zae] {R R':Nat→Row} {d:Nat} (h:∀ i,R (zaj d i) = R' (zaj d i)) (j:Nat):∀ (ls:List (TypeId × Option Nat × List PV)) (i:Nat),
 ((∃ m,m < ls.length∧j = zaj d (i + m))→zau R d ls i j = zau R' d ls i j)∧(¬ (∃ m,m < ls.length∧j = zaj d (i + m))→zau R d ls i j = R j∧zau R' d ls i j = R' j):=by
 intro ls
 induction ls with
 | nil=>intro i;exact ⟨fun ⟨m,hm,_⟩=>by simp at hm,fun _=>⟨rfl,rfl⟩⟩
 | cons l ls ih =>
   intro i
   obtain ⟨e,sz,c⟩:=l
   simp only [zau]
   by_cases he:j = zaj d i
   ·subst he
    refine ⟨fun _=>?_,fun hn=>absurd ⟨0,by simp,by simp⟩ hn⟩
    have hk:zbL R d i e sz c = zbL R' d i e sz c:=by cases sz <;> simp [zbL,zaO,h]
    rw [zaf,zaf,h,hk]
   ·rw [zai _ _ he,zai _ _ he]
    obtain ⟨a1,a2⟩:=ih (i + 1)
    refine ⟨fun ⟨m,hm,hj⟩=>?_,fun hn=>a2 fun ⟨m,hm,hj⟩=>hn ⟨m + 1,by simpa using hm,by rw [hj];congr 1;omega⟩⟩
    cases m with
    | zero=>exact absurd (by simpa using hj) he
    | succ m=>exact a1 ⟨m,by simpa using hm,by rw [hj];congr 1;omega⟩
theorem zvM [zae] {s:St} {k v e e2 d:Nat} {p p':List Nat} {rows rows':List (List PV)} {r:RV} (ht:TabIs s.rw k v e e2 p rows) (hn:p.Nodup) (hp:p'.Perm p) (hd:d % 1000 ≠ k % 1000) :
 (zak (s.tabbed k v e e2 p' rows') d r).killed k p = zak (s.killed k p) d r:=by
 have hmod:∀ j,InT k p j→j % 1000 = k % 1000:=fun j hj=>by
  rcases hj with rfl | ⟨x,_,rfl⟩
  ·rfl
  ·rw [zbu];omega
 have hleaf:∀ i,¬ InT k p (zaj d i):=fun i hi=>hd (by rw [← hmod _ hi];unfold zaj;omega)
 have hin:∀ j,InT k p j ↔ (j = k ∨ ∃ x ∈ p',j = sid k x):=fun j=>⟨fun h=>by
  rcases h with h | ⟨x,hx,h⟩
  ·exact .inl h
  ·exact .inr ⟨x,hp.mem_iff.2 hx,h⟩,fun h=>by
  rcases h with h | ⟨x,hx,h⟩
  ·exact .inl h
  ·exact .inr ⟨x,hp.mem_iff.1 hx,h⟩⟩
 have hout:∀ j,¬ InT k p j→zhi s.rw k v e e2 p' rows' j = s.rw j:=fun j hj=>zht (fun h=>hj (.inl h)) fun x hx h=>hj ((hin j).2 (.inr ⟨x,hx,h⟩))
 have hver:∀ j,InT k p j→(zhi s.rw k v e e2 p' rows' j).ver = (s.rw j).ver:=fun j hj=>by
  rcases hj with rfl | ⟨x,hx,rfl⟩
  ·rw [zgK,ht.top]
  ·obtain ⟨i',hi',he'⟩:=zdM (hp.mem_iff.2 hx)
   obtain ⟨i,hi,he⟩:=zdM hx
   have h1:=zgL (R:=s.rw) (k:=k) (v:=v) (e:=e) (e2:=e2) (rows:=rows') (hp.nodup_iff.2 hn) hi'
   rw [he'] at h1
   have h2:=ht.row i hi
   rw [he] at h2
   rw [h1,h2]
 have hlf:∀ i,zhi s.rw k v e e2 p' rows' (zaj d i) = za4 s.rw k p (zaj d i):=fun i=>by rw [hout _ (hleaf i),zbZ (hleaf i)]
 have hrw:za4 (zau (zhi s.rw k v e e2 p' rows') d (zag r) 0) k p = zau (za4 s.rw k p) d (zag r) 0:=by
  funext j
  obtain ⟨a1,a2⟩:=zbA hlf j (zag r) 0
  by_cases hj:∃ m,m < (zag r).length∧j = zaj d (0 + m)
  ·have hne:¬ InT k p j:=by obtain ⟨m,_,rfl⟩:=hj;exact hleaf _
   rw [zbZ hne];exact a1 hj
  ·obtain ⟨b1,b2⟩:=a2 hj
   rw [b2]
   by_cases hi:InT k p j
   ·rw [zd2 hi,zd2 hi,b1,hver j hi]
   ·rw [zbZ hi,zbZ hi,b1,hout j hi]
 have hval:zaS (fun j=>(zhi s.rw k v e e2 p' rows' j).ver) d r 0 = zaS (fun j=>(za4 s.rw k p j).ver) d r 0:=zdm (fun i=>by rw [hlf]) r
 show (St.mk _ (za4 (zau (zhi s.rw k v e e2 p' rows') d (zag r) 0) k p)) = _
 rw [hrw]
 show (St.mk (((St.mk s.sl _).put (some d) (zaS (fun j=>(zhi s.rw k v e e2 p' rows' j).ver) d r 0)).sl) _) = _
 rw [hval]
 rfl
theorem zvN [zae] {P:Program} {G:Ghost} {s:St} {o:Oper} {c:Call} {f:Operand} {k v e e2 d:Nat} {p:List Nat} {rows rows':List (List PV)} {args caps:List PV} {g:FuncId} {r:RV} (ho:o.op = .call c) (hc:c.callee = .value f) (hdst:o.dst = some d) (hd:d < G.n)
 (hev:s.ev f = .clo g caps) (hat:AT P g args e e2 rows rows' (.rv r)) (hg:GiveL [(k,v)] (c.args.toList.map s.ev ++ caps) args) (ht:TabIs s.rw k v e e2 p rows) (hn:p.Nodup) (hdk:d % 1000 ≠ k % 1000):za0 P G s o (zak (s.killed k p) d r):=by
 intro a w hs K' Q hK
 refine zkb (K:=fun s1=>∃ p':List Nat,p'.Perm p∧s1 = zak (s.tabbed k v e e2 p' rows') d r) ho hc (fun x hx=>by rw [hdst] at hx;cases hx;exact hd) ?_ hs fun s1 a' w' ⟨p',hp',he⟩ hs1=>hK a' w' ?_
 ·rw [hev]
  refine ⟨k,v,e,e2,p,rows,rows',args,.rv r,hat,hg,ht,hn,fun p' hp'=>?_⟩
  rw [hdst]
  exact ⟨hdk,p',hp',rfl⟩
 ·subst he
  rw [← zvM ht hn hp' hdk]
  exact Wk.kill _ k p G a' w' hs1
def opK [zae] (P:Program) (T:Tab) (s:St) (o:Oper) (K:St→Prop):Prop :=
 match o.op with
 | .assign (.const c) =>
   (match zdz c with
   | true=>(match o.dst with | some d=>K (zcq s d (match (T o.type).k with | .sli e=>.sli e (T e).size false [] | _=>.nil) fun v=>.own d v) | none=>False)
   | false=>K (s.put o.dst (zrR c)))
 | .alloc t=>(match o.dst with | some d=>0 < (T t).size∧K (zcq s d (.box t ((T t).zero.map PV.v)) fun v=>.ref d v 0) | none=>False)
 | .box t x=>(match o.dst with | some d=>zaT s.rw (s.ev x) fun c=>K (zcq s d (.box t c) fun v=>.ref d v 0) | none=>False)
 | .makeSlice t l c =>
   (match o.dst,(T t).k,s.ev l,s.ev c with
   | some d,.sli e,.v (.int _ nl),.v (.int _ nc)=>0 < (T t).size∧(T e).size = 1∧(match (T e).zero with
    | [z]=>0 ≤ nl∧nl ≤ nc∧((T e).bytes:Int) * nc ≤ 281474976710656∧nc ≤ 9223372036854775807∧K (zcq s d (.sli e 1 false (List.replicate nl.toNat (.v z))) fun v=>.own d v)
    | _=>False)
   | _,_,_,_=>False)
 | .buildSlice t n parts=>(match o.dst with | some d=>zy1 T s d t n parts K | none=>False)
 | .store t ad x=>o.dst = none∧zqs T s t (s.ev ad) (s.ev x) K
 | .makeMap _ r=>(match o.dst,r with | some d,none=>K (zcq s d (.mp fun _=>0) fun v=>.own d v) | _,_=>False)
 | .mapUpdate t m x y=>o.dst = none∧zFk T s t (s.ev m) (s.ev x) (s.ev y) K
 | .build t parts=>zfW T s.rw s.ev t parts fun p=>K (s.put o.dst p)
 | .slice _ x _ _ _ =>
   (match s.ev x with
   | .own k _=>(match (s.rw k).kind with
    | .sli _ _ false _=>ziu T (s.freeze [k]).rw s.ev o.op fun p=>K ((s.freeze [k]).put o.dst p)
    | _=>ziu T s.rw s.ev o.op fun p=>K (s.put o.dst p))
   | _=>ziu T s.rw s.ev o.op fun p=>K (s.put o.dst p))
 | .call c =>
   (match c.callee with
   | .builtin .append=>(match c.args,c.argTypes,o.dst with | ⟨[x,y]⟩,⟨[t,t2]⟩,some d=>zkf T s d t t2 (s.ev x) (s.ev y) K | _,_,_=>False)
   | .value f=>(match o.dst with | some d=>zd4 P s.rw s.ev f c.args fun rv=>K (zak s d rv) | none=>zd4 P s.rw s.ev f c.args fun _=>K s) ∨ zyX P s f c.args o.dst K
   | _=>ziu T s.rw s.ev o.op fun p=>K (s.put o.dst p))
 | _=>ziu T s.rw s.ev o.op fun p=>K (s.put o.dst p)
section
variable {P:Program} {T:Tab} {G:Ghost} {s:St} {o:Oper}
theorem zfP.effects [zae] {p:PV} (h:zfP P G s o p) (hd:∀ d,o.dst = some d→d < G.n):za0 P G s o (s.put o.dst p):=by
 intro a w ⟨E,hs⟩ K Q hK
 exact h E a w hs.rw hs.wok (fun x _=>zaw hs.slots x) K Q fun v w' hx hv=>hK _ _ ⟨E,(hs.ext hx).put hd hv⟩
theorem zhr [zae] (hT:T.Ok P) {K:St→Prop} (hd:∀ d,o.dst = some d→d < G.n) (hk:ziu T s.rw s.ev o.op fun p=>K (s.put o.dst p)):∃ s',K s'∧za0 P G s o s':=by
 obtain ⟨p,hp,hy⟩:=zqv (G:=G) hT hk
 exact ⟨_,hp,hy.effects hd⟩
theorem za0.wk [zae] {s1 s':St} (hw:Wk s s1) (h:za0 P G s1 o s'):za0 P G s o s':=fun a w hs=>h a w (hw G a w hs)
theorem ziZ [zae] (hT:T.Ok P) {K:St→Prop} (hd:∀ d,o.dst = some d→d < G.n) (hk:opK P T s o K):∃ s',K s'∧za0 P G s o s':=by
 unfold opK at hk
 split at hk
 ·rename_i c ho
  split at hk
  ·rename_i hn
   split at hk
   ·rename_i d hdst
    refine zy4 ?_ ho hdst (hd d hdst) hn hk
    split
    ·exact .inr ⟨_,_,rfl⟩
    ·exact .inl rfl
   ·exact hk.elim
  ·exact zhr hT hd (by rw [ho];exact hk)
 ·rename_i t ho
  split at hk
  ·rename_i d hdst
   exact zrL hT ho hdst (hd d hdst) hk
  ·exact hk.elim
 ·rename_i t x ho
  split at hk
  ·rename_i d hdst
   exact zy3 ho hdst (hd d hdst) hk
  ·exact hk.elim
 ·rename_i t l c ho
  split at hk
  ·rename_i hdst hk1 hl hc
   obtain ⟨h1,h2,hk⟩:=hk
   split at hk
   ·rename_i z hz
    obtain ⟨h3,h4,h5,h6,hk⟩:=hk
    exact zvS hT ho hdst (hd _ hdst) h1 hk1 hl hc h2 hz h3 h4 h5 h6 hk
   ·exact hk.elim
  ·exact hk.elim
 ·rename_i t n parts ho
  split at hk
  ·rename_i d hdst
   exact zrK hT ho hdst (hd d hdst) hk
  ·exact hk.elim
 ·rename_i t ad x ho
  exact zrM hT ho hk.1 hk.2
 ·rename_i t r ho
  split at hk
  ·rename_i d hdst
   exact znO ho hdst (hd d hdst) hk
  ·exact hk.elim
 ·rename_i t m x y ho
  exact zzj hT ho hk.1 hk.2
 ·rename_i t parts ho
  obtain ⟨p,hp,hy⟩:=zif (G:=G) hT ho hk
  exact ⟨_,hp,hy.effects hd⟩
 ·rename_i t x lo hi mx ho
  split at hk
  ·rename_i k ver hev
   split at hk
   ·have hk':ziu T (s.freeze [k]).rw (s.freeze [k]).ev o.op fun p=>K ((s.freeze [k]).put o.dst p):=hk
    obtain ⟨s',h1,h2⟩:=zhr (G:=G) hT hd hk'
    exact ⟨s',h1,h2.wk (Wk.freeze s [k])⟩
   ·exact zhr hT hd hk
  ·exact zhr hT hd hk
 ·rename_i c ho
  split at hk
  ·rename_i hc
   split at hk
   ·rename_i x y t t2 d ha ht hdst
    refine zqr hT (x:=x) (y:=y) ?_ hdst (hd d hdst) hk
    rw [ho]
    obtain ⟨c1,c2,c3⟩:=c
    simp only at hc ha ht
    rw [hc,ha,ht]
   ·exact hk.elim
  ·rename_i f hc
   rcases hk with hk | hk
   case inr=>exact zrI ho hc hd hk
   split at hk
   ·rename_i d hdst
    exact zmK ho hc hdst (hd d hdst) hk
   ·rename_i hdst
    obtain ⟨rv,hk,h⟩:=zy7 (G:=G) ho hc hk
    refine ⟨_,hk,fun a w ⟨E,hs⟩ K' Q hK=>h E a w hs.rw hs.wok (fun x _=>zaw hs.slots x) K' Q fun v w' lv hx _ _=>?_⟩
    rw [hdst]
    exact hK _ _ ⟨E,hs.ext hx⟩
  ·exact zhr hT hd hk
 ·exact zhr hT hd hk
def zrE (T:Tab) (rw:Nat→Row) (t:TypeId) (x:PV) (K:Bool→Prop):Prop :=
 0 < (T t).size∧match (T t).k with
 | .sli _=>slK rw x fun _ _ c=>K false∧(c = []→K true)
 | _=>False
def zD4 [zae] (P:Program) (s:St) (g:FuncId) (args:List PV) (dst:Option Nat) (K:St→Prop):Prop :=
 ∃ (rv:RV) (s':St),AC P g args rv∧Wk (match dst with | some d=>zak s d rv | none=>s) s'∧K s'
def zdw [zae] (P:Program) (T:Tab) (s:St) (o:Oper) (K:St→Prop):Prop :=
 match o.op with
 | .binOp .eql t x (.const (.slice none 0 0)) _=>zrE T s.rw t (s.ev x) fun b=>K (s.put o.dst (.v (.bool b)))
 | .binOp .neq t x (.const (.slice none 0 0)) _=>zrE T s.rw t (s.ev x) fun b=>K (s.put o.dst (.v (.bool !b)))
 | .call ⟨.value f,args,_⟩=>opK P T s o K ∨ (match s.ev f with
  | .clo g caps=>zHo P s g (args.toList.map s.ev ++ caps) o.dst K ∨ zD4 P s g ((args.toList.map fun x=>zck s.rw zfy (s.ev x)) ++ caps.map (zck s.rw zfy)) o.dst K ∨ askG P s g (args.toList.map s.ev ++ caps) o.dst K
  | _=>False)
 | .call ⟨.builtin .append,⟨[x,y]⟩,⟨[t,t2]⟩⟩=>(match o.dst,s.ev y with
  | some d,.v (.string b)=>zrT T s d t t2 (s.ev x) b K
  | _,_=>(match o.dst,s.ev x with
  | some d,.own k ver=>(match (s.rw k).kind with | .tab e c=>zHn T s d t t2 k ver e c (s.ev y) K | _=>opK P T s o K)
  | _,_=>opK P T s o K))
 | .buildSlice t n ⟨[(i,x)]⟩=>(match o.dst,s.ev x with
  | some d,.own k ver=>(match (s.rw k).kind with | .tab _ _=>zka T s d t n i k ver K | .sli _ _ _ _=>opK P T s o K ∨ zka T s d t n i k ver K | _=>opK P T s o K)
  | _,_=>opK P T s o K)
 | _=>opK P T s o K
theorem zlg {P:Program} (w:World) (d:Nat) {t e:TypeId} (a:Option Addr) (n c n' c':Nat) (h:P.underlying t = some (.slice e)) :
 (Op.equalIn (d + 1) t (.slice a n c) (.slice none n' c')).run P w = .ok a.isNone w:=by
 cases a <;> simp [Op.equalIn,run_underlying h]
theorem zib [zae] {P:Program} (w:World) {t e:TypeId} (a:Option Addr) (n c n' c':Nat) (h:P.underlying t = some (.slice e)) :
 (Op.equal t (.slice a n c) (.slice none n' c')).run P w = .ok a.isNone w:=zlg w 9999 a n c n' c' h
theorem zic [zae] (hT:T.Ok P) {t:TypeId} {x:PV} {K:Bool→Prop} (hk:zrE T s.rw t x K) {E:Env} {w:World} (hR:E.R = s.rw) (hw:WOk G E w) {v:Value} (hp:Rep w E 0 x v) :
 ∃ b,K b∧(Op.equal t v (.slice none 0 0)).run P w = .ok b w∧∃ a l c,v = .slice a l c:=by
 obtain ⟨hz,hk⟩:=hk
 split at hk
 ·rename_i e he
  have hu:=(hT t hz).k
  rw [he] at hu
  obtain ⟨fr,sz,c,⟨h1,h2⟩,a,len,cap,cs,rfl,hl,hc,hm,hcell⟩:=zgP hk hR hw hp
  have hu':P.underlying t = some (.slice e):=hu
  cases a with
  | some b=>exact ⟨false,h1,zib w _ _ _ _ _ hu',_,_,_,rfl⟩
  | none =>
    have:c = []:=by
     cases c with
     | nil=>rfl
     | cons p ps=>obtain ⟨b,o,h,_⟩:=hcell 0 (by simp);cases h
    exact ⟨true,h2 this,zib w _ _ _ _ _ hu',_,_,_,rfl⟩
 ·exact hk.elim
theorem zyS [zae] (hT:T.Ok P) {K:St→Prop} (hd:∀ d,o.dst = some d→d < G.n) (hk:zdw P T s o K) {a:Act} {w:World} (hs:Sim G s a w) {K':Act→World→Prop} {Q:Exit→Act→World→Prop}
 (hK:∀ s' a' w',K s'→Sim G s' a' w'→K' a' w'):o.wp P a w K' Q:=by
 have base:opK P T s o K→o.wp P a w K' Q:=fun hk=>by
  obtain ⟨s',hk2,he⟩:=ziZ (G:=G) hT hd hk
  exact he a w hs _ _ fun a' w' h'=>hK s' a' w' hk2 h'
 unfold zdw at hk
 split at hk
 ·rename_i t x t2 ho
  obtain ⟨E,hs⟩:=hs
  obtain ⟨b,hb,hrun,a1,l1,c1,hv⟩:=zic (G:=G) hT hk hs.rw hs.wok (zaw hs.slots x)
  refine zdb (v:=.bool b) (w':=w) ?_ (hK _ _ _ hb ⟨E,hs.put hd (.v _)⟩)
  have ec:a.eval (.const (.slice none 0 0)) = .slice none 0 0:=rfl
  rw [hv] at hrun
  simp [execOp,ho,hv,ec,eqGuard,binOp,hrun]
 ·rename_i t x t2 ho
  obtain ⟨E,hs⟩:=hs
  obtain ⟨b,hb,hrun,a1,l1,c1,hv⟩:=zic (G:=G) hT hk hs.rw hs.wok (zaw hs.slots x)
  refine zdb (v:=.bool !b) (w':=w) ?_ (hK _ _ _ hb ⟨E,hs.put hd (.v _)⟩)
  have ec:a.eval (.const (.slice none 0 0)) = .slice none 0 0:=rfl
  rw [hv] at hrun
  simp [execOp,ho,hv,ec,eqGuard,binOp,hrun]
 ·rename_i f args ts ho
  rcases hk with hk | hk
  ·exact base hk
  ·split at hk
   ·rename_i g caps hev
    rcases hk with hk | hk | hk
    ·exact zkb ho rfl hd (by rw [hev];exact hk) hs hK
    ·obtain ⟨rv,s',hac,hwk,hk⟩:=hk
     have hcall:opK P T s o (· = (match o.dst with | some d=>zak s d rv | none=>s)):=by
      unfold opK
      simp only [ho]
      refine .inl ?_
      cases hdst:o.dst with
      | some d=>simp only;unfold zd4;rw [hev];exact ⟨rv,hac,rfl⟩
      | none=>simp only;unfold zd4;rw [hev];exact ⟨rv,hac,trivial⟩
     obtain ⟨s2,rfl,he⟩:=ziZ (G:=G) hT hd hcall
     exact he a w hs _ _ fun a' w' h'=>hK s' a' w' hk (hwk G a' w' h')
    ·exact zf0 ho rfl hd (by rw [hev];exact hk) hs hK
   ·exact hk.elim
 ·rename_i x y t t2 ho
  split at hk
  ·rename_i d bs hdst hevy
   obtain ⟨s',hk2,he⟩:=zqC (G:=G) hT ho hdst (hd d hdst) hevy hk
   exact he a w hs _ _ fun a' w' h'=>hK s' a' w' hk2 h'
  ·split at hk
   ·rename_i d k ver hdst hev
    split at hk
    ·rename_i e c hkind
     exact zvP hT ho hdst (hd d hdst) hev hkind hk hs hK
    ·exact base hk
   ·exact base hk
 ·rename_i t n i x ho
  split at hk
  ·rename_i d k ver hdst hev
   split at hk
   ·exact zie hT ho hdst (hd d hdst) hev hk hs hK
   ·rcases hk with hk | hk
    ·exact base hk
    ·exact zie hT ho hdst (hd d hdst) hev hk hs hK
   ·exact base hk
  ·exact base hk
 ·exact base hk
end
def zuH (ops:Array Oper) (s:St) (o:Oper) (K1 K2:St→Prop):Prop :=
 match o.guard with
 | none=>K1 s
 | some (j,want) =>
   match (ops[j]?).bind (·.dst) with
   | some d=>(match s.sl d with | .v (.bool b)=>(b = want→K1 (s.put (some d) (.v (.bool want))))∧(b = !want→K2 ((s.put (some d) (.v (.bool !want))).put o.dst (.v undef))) | .v (.tuple _)=>K2 (s.put o.dst (.v undef)) | _=>False)
   | none=>False
def zrF [zae] (P:Program) (T:Tab) (ops:Array Oper):List Oper→St→(St→Prop)→Prop
 | [],s,K=>K s
 | o :: os,s,K=>zuH ops s o (fun s1=>zdw P T s1 o fun s2=>zrF P T ops os s2 K) (fun s2=>zrF P T ops os s2 K)
theorem zuI [zae] {G:Ghost} {s:St} {d:Nat} {p:PV} {a:Act} {w:World} (h:s.sl d = p) (hs:Sim G s a w):Sim G (s.put (some d) p) a w:=by
 obtain ⟨E,hs⟩:=hs
 refine ⟨E,hs.rw,hs.wok,hs.size,hs.defers,fun i=>?_⟩
 simp only [St.put]
 by_cases hi:i = d
 ·subst hi;rw [if_pos rfl,← h];exact hs.slots i
 ·rw [if_neg hi];exact hs.slots i
theorem znB [zae] {G:Ghost} {s:St} {dst:Option Nat} {a:Act} {w:World} (hd:∀ d,dst = some d→d < G.n) (hs:Sim G s a w):Sim G (s.put dst (.v undef)) (a.put dst undef) w:=by
 obtain ⟨E,hs⟩:=hs
 exact ⟨E,hs.put hd (.v undef)⟩
theorem zgJ {ops:Array Oper} {tmps:Array Value} {j d:Nat} {cs:Array Value} (hdj:(ops[j]?).bind (·.dst) = some d) (hval:tmps.getD d undef = .tuple cs):yielded ops tmps j = none:=by
 unfold yielded
 rw [hdj]
 rw [Array.getD_eq_getD_getElem?] at hval
 cases h:tmps[d]? with
 | none=>simp [h]
 | some x=>rw [h] at hval;simp at hval;subst hval;simp [h]
section
variable {P:Program} {T:Tab} {G:Ghost}
theorem zyT [zae] (hT:T.Ok P) {ops:Array Oper} {Q:Exit→Act→World→Prop}:∀ (l:List Oper) (s:St) (K:St→Prop),(∀ o ∈ l,∀ d,o.dst = some d→d < G.n)→zrF P T ops l s K →
 (∀ s' a' w',K s'→Sim G s' a' w'→Q .normal a' w')→∀ a w,Sim G s a w→wpList P ops Q l a w:=by
 intro l
 induction l with
 | nil=>intro s K _ hk hQ a w hs;exact hQ s a w hk hs
 | cons o os ih =>
   intro s K hd hk hQ a w hs
   have hd0:=hd o (by simp)
   have run:∀ s1,Sim G s1 a w→(zdw P T s1 o fun s2=>zrF P T ops os s2 K)→o.wp P a w (wpList P ops Q os) Q:=fun s1 hs1 hk =>
    zyS hT hd0 hk hs1 fun s2 a' w' hk2 h'=>ih s2 K (fun o ho=>hd o (by simp [ho])) hk2 hQ a' w' h'
   simp only [wpList]
   simp only [zrF,zuH] at hk
   cases hg:o.guard with
   | none =>
     simp only [hg] at hk
     rw [if_pos (by simp [Region.wanted,hg])]
     exact .inl (run s hs hk)
   | some jw =>
     obtain ⟨j,want⟩:=jw
     simp only [hg] at hk
     split at hk
     ·rename_i d hdj
      split at hk
      ·rename_i b hb
       have hval:a.tmps.getD d undef = .bool b:=by
        obtain ⟨E,hs⟩:=hs
        have:=hs.slots d
        rw [hb] at this
        exact this.v_eq
       have hy:yielded ops a.tmps j = some b:=by
        have hsz:a.tmps[d]? = some (.bool b):=by
         rw [Array.getD_eq_getD_getElem?] at hval
         cases h:a.tmps[d]? with
         | none=>rw [h] at hval;simp [undef] at hval
         | some x=>rw [h] at hval;simp at hval;rw [hval]
        simp [yielded,hdj,hsz]
       by_cases hbw:b = want
       ·rw [if_pos (by simp [Region.wanted,hg,hy,hbw])]
        exact .inl (run _ (zuI (by rw [hb,hbw]) hs) (hk.1 hbw))
       ·have hbw':b = !want:=by cases b <;> cases want <;> simp_all
        rw [if_neg (by simp [Region.wanted,hg,hy,hbw])]
        have h1:=zuI (d:=d) (p:=.v (.bool !want)) (by rw [hb,hbw']) hs
        exact ih _ K (fun o ho=>hd o (by simp [ho])) (hk.2 hbw') hQ _ w (znB hd0 h1)
      ·rename_i cs hb
       have hval:a.tmps.getD d undef = .tuple cs:=by
        obtain ⟨E,hs⟩:=hs
        have:=hs.slots d
        rw [hb] at this
        exact this.v_eq
       rw [if_neg (by simp [Region.wanted,hg,zgJ hdj hval])]
       exact ih _ K (fun o ho=>hd o (by simp [ho])) hk hQ _ w (znB hd0 hs)
      ·exact hk.elim
     ·exact hk.elim
end
end Go.Abs

/- DERIVED by an AI agent. A region that draws its order: every order comes to what the text's order comes to. No program in sight. -/
namespace Go.Abs
set_option linter.unusedSimpArgs false
inductive Tc where
 | ids (l:List Nat)
 | res (d:Nat)
def Tc.has:Tc→Nat→Bool
 | .ids l,k=>l.any fun a=>a % 1000 == k % 1000
 | .res d,k=>k % 1000 == d % 1000
structure Ent where
 rd:List Nat
 tc:Tc
def Ent.looks (e:Ent) (k:Nat):Bool:=e.rd.any fun a=>a % 1000 == k % 1000
theorem Tc.has_mod {t:Tc} {k k':Nat} (h:k % 1000 = k' % 1000):t.has k = t.has k':=by
 cases t with
 | ids l=>simp only [Tc.has,h]
 | res d=>simp only [Tc.has,h]
theorem zrB {l:List Nat} {k:Nat}:(Tc.ids l).has k = true ↔ ∃ a ∈ l,a % 1000 = k % 1000:=by
 simp only [Tc.has,List.any_eq_true,beq_iff_eq]
def znA (o:Oper):Bool :=
 match o.op with
 | .move _=>true
 | .assign _=>true
 | .pick _ _ _=>true
 | .binOp _ _ _ _ _=>true
 | .unOp _ _ _=>true
 | .extract _ _=>true
 | .makeFunc _ _ _=>true
 | .field _ _ _=>true
 | .index _ _ _=>true
 | _=>false
def zAO (ops:Array Oper) (s:St) (o:Oper):Option Bool :=
 match o.guard with
 | none=>some true
 | some (j,want)=>match (ops[j]?).bind (·.dst) with | some d=>(match s.sl d with | .v (.bool b)=>some (b == want) | .v (.tuple _)=>some false | _=>none) | none=>none
def zrC (ops:Array Oper) (o:Oper):List Nat :=
 o.dst.toList ++ (o.op.operands.toList.filterMap fun | .tmp t=>some t | _=>none) ++ (match o.guard with | some (j,_)=>((ops[j]?).bind (·.dst)).toList | none=>[])
abbrev zGn:=Nat→Row
structure Stp where
 val:PV
 rows:zGn
 e:Ent
def St.step (s:St) (o:Oper) (x:Stp):St:=(St.mk s.sl x.rows).put o.dst x.val
def St.stepIn (s:St) (o:Oper) (x:Stp):St:=(St.mk s.sl fun k=>if x.e.tc.has k = true then x.rows k else s.rw k).put o.dst x.val
structure Local (ops:Array Oper) (o:Oper) (s s':St):Prop where
 ev:∀ x ∈ o.op.operands,s'.ev x = s.ev x
inductive StepOk [zae] (P:Program) (G:Ghost) (ops:Array Oper) (s:St) (o:Oper) (x:Stp):Prop
 | skip (hg:zAO ops s o = some false) (hp:x.val = .v undef) (hr:x.rows = s.rw) (ht:x.e.tc = .ids []):StepOk P G ops s o x
 | step (hg:zAO ops s o = some true) (hr:∀ k,x.e.tc.has k = false→x.rows k = s.rw k)
  (he:∀ s':St,(∀ k,x.e.looks k = true ∨ x.e.tc.has k = true→s'.rw k = s.rw k)→(∀ y ∈ o.op.operands,s'.ev y = s.ev y)→za0 P G s' o (s'.stepIn o x)):StepOk P G ops s o x
inductive Tr [zae] (P:Program) (G:Ghost) (ops:Array Oper):List Oper→St→List Stp→St→Prop
 | nil (s:St):Tr P G ops [] s [] s
 | cons {o:Oper} {os:List Oper} {s s':St} {x:Stp} {l:List Stp} (h:StepOk P G ops s o x) (t:Tr P G ops os (s.step o x) l s'):Tr P G ops (o :: os) s (x :: l) s'
def zrD:List Oper→List Stp→St→Nat→St
 | o :: os,x :: l,s,i + 1=>zrD os l (s.step o x) i
 | _,_,s,_=>s
section
variable {P:Program} {T:Tab} {G:Ghost} {ops:Array Oper}
theorem zeS (l:List Oper) (tr:List Stp) (s:St):zrD l tr s 0 = s:=by cases l <;> cases tr <;> rfl
theorem Tr.length [zae] {l:List Oper} {s s':St} {tr:List Stp} (h:Tr P G ops l s tr s'):tr.length = l.length:=by
 induction h with
 | nil=>rfl
 | cons _ _ ih=>simp [ih]
theorem Tr.last [zae] {l:List Oper} {s s':St} {tr:List Stp} (h:Tr P G ops l s tr s'):zrD l tr s l.length = s':=by
 induction h with
 | nil=>rfl
 | cons _ _ ih=>exact ih
theorem Tr.at [zae] {l:List Oper} {s s':St} {tr:List Stp} (h:Tr P G ops l s tr s'):∀ i (a:i < l.length) (b:i < tr.length),StepOk P G ops (zrD l tr s i) l[i] tr[i]∧zrD l tr s (i + 1) = (zrD l tr s i).step l[i] tr[i]:=by
 induction h with
 | nil=>intro i a;simp at a
 | cons h _ ih =>
   intro i a b
   cases i with
   | zero =>
     refine ⟨by rw [zeS];exact h,?_⟩
     rw [zeS]
     exact zeS _ _ _
   | succ i =>
     exact ih i (by simpa using a) (by simpa using b)
def zbd:Nat→(Nat→Bool)→Option Nat
 | 0,_=>none
 | n + 1,p=>if p n = true then some n else zbd n p
theorem zcn:∀ (n:Nat) (p q:Nat→Bool),(∀ k,k < n→p k = q k)→zbd n p = zbd n q:=by
 intro n
 induction n with
 | zero=>intro p q _;rfl
 | succ n ih=>intro p q h;simp only [zbd];rw [h n (by omega),ih p q fun k hk=>h k (by omega)]
theorem zj9 [zae]:∀ (n i:Nat) (p q:Nat→Bool),i ≤ n→(∀ k,k < i→p k = q k)→(∀ k,i ≤ k→k < n→p k = false)→zbd n p = zbd i q:=by
 intro n
 induction n with
 | zero=>intro i p q h _ _;obtain rfl:i = 0:=by omega
         rfl
 | succ n ih =>
   intro i p q h h1 h2
   by_cases hi:i = n + 1
   ·subst hi;exact zcn _ _ _ h1
   ·simp only [zbd]
    rw [h2 n (by omega) (by omega)]
    exact ih i p q (by omega) h1 fun k a b=>h2 k a (by omega)
theorem zia:∀ (n i:Nat) (p:Nat→Bool),i < n→p i = true→(∀ k,i < k→k < n→p k = false)→zbd n p = some i:=by
 intro n
 induction n with
 | zero=>intro i p h;omega
 | succ n ih =>
   intro i p h h1 h2
   by_cases hi:i = n
   ·subst hi;simp [zbd,h1]
   ·simp only [zbd]
    rw [h2 n (by omega) (by omega)]
    exact ih i p (by omega) h1 fun k a b=>h2 k a (by omega)
def zir (l:List Oper) (tr:List Stp) (s:St) (D:Nat→Bool) (t:Nat):PV :=
 match zbd l.length (fun k=>D k && ((l[k]?).bind (·.dst) == some t)) with
 | some k=>(tr[k]?.map (·.val)).getD .junk
 | none=>s.sl t
def zb8 (tr:List Stp) (k j:Nat):Bool:=(tr[j]?.map fun x=>x.e.tc.has k).getD false
def zis (l:List Oper) (tr:List Stp) (s:St) (D:Nat→Bool):zGn:=fun k =>
 match zbd l.length (fun j=>D j && zb8 tr k j) with
 | some j=>(tr[j]?.map (fun x=>x.rows k)).getD (s.rw k)
 | none=>s.rw k
theorem zD2 (s:St) (o:Oper) (x:Stp) (t:Nat):(s.step o x).sl t = if o.dst = some t then x.val else s.sl t:=by
 unfold St.step St.put
 cases h:o.dst with
 | none=>simp
 | some d =>
   simp only [Option.some.injEq]
   by_cases e:t = d
   ·subst e;simp
   ·rw [if_neg e,if_neg (fun h=>e h.symm)]
theorem zD3 (s:St) (o:Oper) (x:Stp):(s.step o x).rw = x.rows:=by unfold St.step St.put;cases o.dst <;> rfl
theorem Tr.slots [zae] {l:List Oper} {s s':St} {tr:List Stp} (h:Tr P G ops l s tr s') (t:Nat):∀ i,i ≤ l.length →
 (zrD l tr s i).sl t = match zbd i (fun k=>(l[k]?).bind (·.dst) == some t) with | some k=>(tr[k]?.map (·.val)).getD .junk | none=>s.sl t:=by
 intro i
 induction i with
 | zero=>intro _;rw [zeS];rfl
 | succ i ih =>
   intro hi
   have hl:i < tr.length:=by rw [h.length];omega
   rw [(h.at i (by omega) hl).2,zD2]
   simp only [zbd]
   have e:l[i]? = some l[i]:=List.getElem?_eq_getElem (by omega)
   by_cases hd:l[i].dst = some t
   ·rw [if_pos hd,if_pos (by simp [e,hd])]
    simp [List.getElem?_eq_getElem hl]
   ·rw [if_neg hd,if_neg (by simp [e,hd])]
    exact ih (by omega)
theorem Tr.rows [zae] {l:List Oper} {s s':St} {tr:List Stp} (h:Tr P G ops l s tr s') (k:Nat):∀ i,i ≤ l.length →
 (zrD l tr s i).rw k = match zbd i (zb8 tr k) with | some j=>(tr[j]?.map (fun x=>x.rows k)).getD (s.rw k) | none=>s.rw k:=by
 intro i
 induction i with
 | zero=>intro _;rw [zeS];rfl
 | succ i ih =>
   intro hi
   have hl:i < tr.length:=by rw [h.length];omega
   obtain ⟨hok,hst⟩:=h.at i (by omega) hl
   rw [hst,zD3]
   simp only [zbd]
   have e:tr[i]? = some tr[i]:=List.getElem?_eq_getElem hl
   by_cases hd:zb8 tr k i = true
   ·rw [if_pos hd]
    simp [e]
   ·rw [if_neg hd,← ih (by omega)]
    have hd':tr[i].e.tc.has k = false:=by simpa [zb8,e] using hd
    cases hok with
    | skip _ _ hr _=>rw [hr]
    | step _ hr _=>exact hr k hd'
end
end Go.Abs

/- DERIVED by an AI agent. The look at a region's edges; every order it allows. No program in sight. -/
namespace Go.Abs
set_option linter.unusedSimpArgs false
def zbz (o:Oper):List Nat:=(o.after.toList.filter fun e=>Region.binds .any e).map (·.on)
def zfK (ms:List Nat):List Nat→Nat
 | []=>0
 | k :: ks=>2 ^ k ||| ms.getD k 0 ||| zfK ms ks
def zle:List Oper→List Nat→List Nat
 | [],ms=>ms
 | o :: os,ms=>zle os (ms ++ [zfK ms (zbz o)])
theorem zvI (ms:List Nat):∀ (ks:List Nat) (i:Nat),(zfK ms ks).testBit i = true→∃ k ∈ ks,i = k ∨ (ms.getD k 0).testBit i = true:=by
 intro ks
 induction ks with
 | nil=>intro i h;simp [zfK] at h
 | cons k ks ih =>
   intro i h
   simp only [zfK,Nat.testBit_or,Bool.or_eq_true] at h
   rcases h with (h | h) | h
   ·exact ⟨k,by simp,.inl (by rw [Nat.testBit_two_pow] at h;simp at h;exact h.symm)⟩
   ·exact ⟨k,by simp,.inr h⟩
   ·obtain ⟨k',hk,h⟩:=ih i h
    exact ⟨k',by simp [hk],h⟩
def zGm (l:List Oper) (ms:List Nat) (n:Nat):Prop:=∀ j,j < n→∀ i,(ms.getD j 0).testBit i = true→∃ k ∈ (l[j]?.map zbz).getD [],i = k ∨ (ms.getD k 0).testBit i = true
theorem zvJ [zae] (l:List Oper):∀ (os pre:List Oper) (ms:List Nat),l = pre ++ os→ms.length = pre.length→zGm l ms pre.length→zGm l (zle os ms) l.length:=by
 intro os
 induction os with
 | nil=>intro pre ms h1 h2 h3;simp at h1;subst h1;exact h3
 | cons o os ih =>
   intro pre ms h1 h2 h3
   have hl:l[pre.length]? = some o:=by rw [h1];simp
   refine ih (pre ++ [o]) (ms ++ [zfK ms (zbz o)]) (by simp [h1]) (by simp [h2]) fun j hj i hb=>?_
   have keep:∀ k,(ms.getD k 0).testBit i = true→((ms ++ [zfK ms (zbz o)]).getD k 0).testBit i = true:=fun k hk=>by
    by_cases hlt:k < ms.length
    ·simpa [List.getD,List.getElem?_append_left hlt] using hk
    ·simp [List.getD,List.getElem?_eq_none (by omega:ms.length ≤ k)] at hk
   by_cases hlt:j < ms.length
   ·have hb':(ms.getD j 0).testBit i = true:=by simpa [List.getD,List.getElem?_append_left hlt] using hb
    obtain ⟨k,hk,h⟩:=h3 j (by omega) i hb'
    exact ⟨k,hk,h.imp id (keep k)⟩
   ·obtain rfl:j = pre.length:=by simp at hj;omega
    have hb':(zfK ms (zbz o)).testBit i = true:=by
     have:(ms ++ [zfK ms (zbz o)]).getD pre.length 0 = zfK ms (zbz o):=by
      rw [← h2];simp [List.getD]
     rwa [this] at hb
    obtain ⟨k,hk,h⟩:=zvI ms _ i hb'
    exact ⟨k,by simpa [hl] using hk,h.imp id (keep k)⟩
def zny (ops:Array Oper) (a b:Oper):Bool :=
 (match a.dst with | some t=>(zrC ops b).contains t | none=>false) || (match b.dst with | some t=>(zrC ops a).contains t | none=>false)
def zcE:Nat→(Nat→Bool)→Bool
 | 0,_=>true
 | n + 1,p=>p n && zcE n p
theorem zd1:∀ (n:Nat) (p:Nat→Bool),zcE n p = true→∀ k,k < n→p k = true:=by
 intro n
 induction n with
 | zero=>intro p _ k hk;omega
 | succ n ih =>
   intro p h k hk
   simp only [zcE,Bool.and_eq_true] at h
   by_cases e:k = n
   ·subst e;exact h.1
   ·exact ih p h.2 k (by omega)
def zfL:Tc→Tc→Bool
 | .ids l,t=>l.any t.has
 | .res d,.ids l=>l.any (Tc.res d).has
 | .res d,.res d'=>d % 1000 == d' % 1000
theorem zql [zae] {a b:Tc} {k:Nat} (h1:a.has k = true) (h2:b.has k = true):zfL a b = true:=by
 cases a with
 | ids l =>
   obtain ⟨x,hx,e⟩:=zrB.1 h1
   simp only [zfL,List.any_eq_true]
   exact ⟨x,hx,by rw [Tc.has_mod e];exact h2⟩
 | res d =>
   cases b with
   | ids l =>
     obtain ⟨x,hx,e⟩:=zrB.1 h2
     simp only [zfL,List.any_eq_true]
     exact ⟨x,hx,by rw [Tc.has_mod e];exact h1⟩
   | res d'=>simp only [zfL,Tc.has,beq_iff_eq] at h1 h2 ⊢;omega
def zmF (a b:Ent):Bool:=a.rd.any b.tc.has || b.rd.any a.tc.has || zfL a.tc b.tc
theorem zD1 [zae] {a b:Ent} {k:Nat} (h1:a.looks k = true ∨ a.tc.has k = true) (h2:b.tc.has k = true):zmF a b = true∧zmF b a = true:=by
 unfold zmF
 rcases h1 with h1 | h1
 ·have:a.rd.any b.tc.has = true:=by
   unfold Ent.looks at h1
   simp only [List.any_eq_true,beq_iff_eq] at h1
   obtain ⟨x,hx,e⟩:=h1
   exact List.any_eq_true.2 ⟨x,hx,by rw [Tc.has_mod e];exact h2⟩
  simp [this]
 ·simp [zql h1 h2,zql h2 h1]
def zlf (ops:Array Oper) (es:List Ent):Bool :=
 zcE es.length fun j=>zcE j fun i=>match es[i]?,es[j]? with
  | some a,some b=>!zmF a b || ((zle ops.toList []).getD j 0).testBit i
  | _,_=>true
def zj8 (ops:Array Oper):Bool :=
 zcE ops.size fun j=>match ops[j]? with
  | none=>true
  | some oj=>(zbz oj).all (· < j) && zcE j fun i=>match ops[i]? with
   | none=>true
   | some oi=>!zny ops oi oj || ((zle ops.toList []).getD j 0).testBit i
section
variable {P:Program} {T:Tab} {G:Ghost} {ops:Array Oper}
structure Ordered (ops:Array Oper):Prop where
 low:∀ j oj,ops[j]? = some oj→∀ k ∈ zbz oj,k < j
 bef:∀ i j oi oj,i < j→ops[i]? = some oi→ops[j]? = some oj→zny ops oi oj = true→((zle ops.toList []).getD j 0).testBit i = true
theorem zvK [zae] (h:zj8 ops = true):Ordered ops:=by
 have key:∀ j oj,ops[j]? = some oj→((zbz oj).all (· < j) && zcE j fun i=>match ops[i]? with
  | none=>true
  | some oi=>!zny ops oi oj || ((zle ops.toList []).getD j 0).testBit i) = true:=fun j oj hj=>by
  have hlt:j < ops.size:=(Array.getElem?_eq_some_iff.1 hj).1
  have:=zd1 _ _ h j hlt
  simpa only [hj] using this
 refine ⟨fun j oj hj k hk=>?_,fun i j oi oj hij hi hj hm=>?_⟩
 ·have:=key j oj hj
  simp only [Bool.and_eq_true,List.all_eq_true] at this
  simpa using this.1 k hk
 ·have:=key j oj hj
  simp only [Bool.and_eq_true] at this
  have:=zd1 _ _ this.2 i hij
  simp only [hi] at this
  simpa [hm] using this
def zyR (ops:Array Oper) (es:List Ent):Prop:=∀ (i j:Nat) (a b:Ent),i < j→es[i]? = some a→es[j]? = some b→zmF a b = true→((zle ops.toList []).getD j 0).testBit i = true
theorem zA9 [zae] {es:List Ent} (h:zlf ops es = true):zyR ops es:=by
 intro i j a b hij hi hj hc
 have hlt:j < es.length:=(List.getElem?_eq_some_iff.1 hj).1
 have:=zd1 _ _ (zd1 _ _ h j hlt) i hij
 simp only [hi,hj,hc] at this
 simpa using this
def zmG (ops:Array Oper) (D:Nat→Bool):Prop:=∀ j oj,ops[j]? = some oj→D j = true→∀ k ∈ zbz oj,D k = true
theorem zc1 [zae] (ho:Ordered ops) {D:Nat→Bool} (hc:zmG ops D):∀ (j:Nat) (oj:Oper),ops[j]? = some oj→(∀ k ∈ zbz oj,D k = true)→∀ i,((zle ops.toList []).getD j 0).testBit i = true→D i = true:=by
 intro j
 induction j using Nat.strongRecOn with
 | _ j ih =>
   intro oj hj hd i hb
   have hlt:j < ops.size:=(Array.getElem?_eq_some_iff.1 hj).1
   have hg:=zvJ ops.toList ops.toList [] [] rfl rfl (fun j hj=>absurd hj (by simp)) j (by simpa using hlt) i hb
   obtain ⟨k,hk,h⟩:=hg
   have hjl:ops.toList[j]? = some oj:=by simpa using hj
   rw [hjl] at hk
   simp at hk
   rcases h with rfl | h
   ·exact hd i hk
   ·have hkj:=ho.low j oj hj k hk
    have hks:k < ops.size:=by omega
    exact ih k hkj ops[k] (Array.getElem?_eq_getElem hks) (hc k ops[k] (Array.getElem?_eq_getElem hks) (hd k hk)) i h
def stD (ops:Array Oper) (tr:List Stp) (s:St) (D:Nat→Bool):St:=⟨zir ops.toList tr s D,zis ops.toList tr s D⟩
variable {s s':St} {tr:List Stp}
theorem zmH [zae] (ho:Ordered ops) (ht:Tr P G ops ops.toList s tr s') {D:Nat→Bool} (hc:zmG ops D) {i:Nat} {o:Oper} (hi:ops[i]? = some o) (hD:D i = false) (hd:∀ k ∈ zbz o,D k = true)
 {t:Nat} (hn:t ∈ zrC ops o):zir ops.toList tr s D t = (zrD ops.toList tr s i).sl t:=by
 have hlt:i < ops.size:=(Array.getElem?_eq_some_iff.1 hi).1
 rw [ht.slots t i (by simp;omega)]
 unfold zir
 have e:zbd ops.toList.length (fun k=>D k && ((ops.toList[k]?).bind (·.dst) == some t)) = zbd i (fun k=>(ops.toList[k]?).bind (·.dst) == some t):=by
  refine zj9 _ i _ _ (by simp;omega) (fun k hk=>?_) (fun k hk1 hk2=>?_)
  ·cases hb:((ops.toList[k]?).bind (·.dst) == some t) with
   | false=>simp
   | true =>
     have hks:k < ops.size:=by omega
     have hok:ops[k]? = some ops[k]:=Array.getElem?_eq_getElem hks
     have hdst:ops[k].dst = some t:=by simpa [hok] using hb
     have hm:zny ops ops[k] o = true:=by simp [zny,hdst,hn]
     have:=zc1 ho hc i o hi hd k (ho.bef k i _ _ hk hok hi hm)
     simp [this]
  ·by_cases hb:((ops.toList[k]?).bind (·.dst) == some t) = true
   ·by_cases hki:k = i
    ·subst hki;simp [hD]
    ·have hks:k < ops.size:=by simpa using hk2
     have hok:ops[k]? = some ops[k]:=Array.getElem?_eq_getElem hks
     have hdst:ops[k].dst = some t:=by simpa [hok] using hb
     have hm:zny ops o ops[k] = true:=by simp [zny,hdst,hn]
     cases hDk:D k with
     | false=>simp
     | true =>
       have:=zc1 ho hc k _ hok (hc k _ hok hDk) i (ho.bef i k _ _ (by omega) hi hok hm)
       rw [hD] at this;cases this
   ·rw [Bool.not_eq_true] at hb
    simp only [hb,Bool.and_false]
 rw [e]
theorem znz [zae] (hl:zyR ops (tr.map (·.e))) {i j k:Nat} {x:Stp} (hx:tr[i]? = some x) (hk:x.e.looks k = true ∨ x.e.tc.has k = true) (hj:zb8 tr k j = true) :
 (j < i→((zle ops.toList []).getD i 0).testBit j = true)∧(i < j→((zle ops.toList []).getD j 0).testBit i = true):=by
 unfold zb8 at hj
 cases hy:tr[j]? with
 | none=>rw [hy] at hj;cases hj
 | some y =>
   rw [hy] at hj
   obtain ⟨c1,c2⟩:=zD1 hk (show y.e.tc.has k = true by simpa using hj)
   have e1:(tr.map (·.e))[i]? = some x.e:=by simp [hx]
   have e2:(tr.map (·.e))[j]? = some y.e:=by simp [hy]
   exact ⟨fun h=>hl j i _ _ h e2 e1 c2,fun h=>hl i j _ _ h e1 e2 c1⟩
theorem zvL [zae] (ho:Ordered ops) (hl:zyR ops (tr.map (·.e))) (ht:Tr P G ops ops.toList s tr s') {D:Nat→Bool} (hc:zmG ops D) {i:Nat} {o:Oper} (hi:ops[i]? = some o) (hD:D i = false) (hd:∀ k ∈ zbz o,D k = true)
 {x:Stp} (hx:tr[i]? = some x) {k:Nat} (hk:x.e.looks k = true ∨ x.e.tc.has k = true):zis ops.toList tr s D k = (zrD ops.toList tr s i).rw k:=by
 have hlt:i < ops.size:=(Array.getElem?_eq_some_iff.1 hi).1
 rw [ht.rows k i (by simp;omega)]
 unfold zis
 have e:zbd ops.toList.length (fun j=>D j && zb8 tr k j) = zbd i (zb8 tr k):=by
  refine zj9 _ i _ _ (by simp;omega) (fun j hj=>?_) (fun j hj1 hj2=>?_)
  ·cases hb:zb8 tr k j with
   | false=>simp
   | true =>
     have:=zc1 ho hc i o hi hd j ((znz hl hx hk hb).1 hj)
     simp [this]
  ·cases hb:zb8 tr k j with
   | false=>simp
   | true =>
     by_cases hki:j = i
     ·subst hki;simp [hD]
     ·have hks:j < ops.size:=by simpa using hj2
      have hok:ops[j]? = some ops[j]:=Array.getElem?_eq_getElem hks
      cases hDk:D j with
      | false=>simp
      | true =>
        have:=zc1 ho hc j _ hok (hc j _ hok hDk) i ((znz hl hx hk hb).2 (by omega))
        rw [hD] at this;cases this
 rw [e]
theorem zBa [zae] (ho:Ordered ops) (hl:zyR ops (tr.map (·.e))) {D:Nat→Bool} (hc:zmG ops D) {i:Nat} {o:Oper} (hi:ops[i]? = some o) (hD:D i = false)
 {x:Stp} (hx:tr[i]? = some x) :
 stD ops tr s (fun k=>D k || k == i) = (stD ops tr s D).stepIn o x:=by
 have hlt:i < ops.size:=(Array.getElem?_eq_some_iff.1 hi).1
 have hil:ops.toList[i]? = some o:=by simpa using hi
 have e1:(stD ops tr s (fun k=>D k || k == i)).sl = ((stD ops tr s D).stepIn o x).sl:=by
  funext t
  have es:((stD ops tr s D).stepIn o x).sl t = if o.dst = some t then x.val else (stD ops tr s D).sl t:=by
   unfold St.stepIn St.put
   cases h:o.dst with
   | none=>simp
   | some d =>
     simp only [Option.some.injEq]
     by_cases e:t = d
     ·subst e;simp
     ·rw [if_neg e,if_neg (fun h=>e h.symm)]
  rw [es]
  by_cases hdst:o.dst = some t
  ·rw [if_pos hdst]
   show zir _ _ _ _ t = _
   unfold zir
   rw [zia _ i _ (by simpa using hlt) (by simp [hil,hdst]) (fun k hk1 hk2=>?_)]
   ·simp [hx]
   ·have hk2':k < ops.size:=by simpa using hk2
    have hok:ops[k]? = some ops[k]:=Array.getElem?_eq_getElem hk2'
    have hne:(k == i) = false:=by simp;omega
    simp only [hne,Bool.or_false]
    cases hDk:D k with
    | false=>simp
    | true =>
      by_cases hd:ops[k].dst = some t
      ·have hm:zny ops o ops[k] = true:=by simp [zny,hdst,zrC,hd]
       have:=zc1 ho hc k _ hok (hc k _ hok hDk) i (ho.bef i k _ _ hk1 hi hok hm)
       rw [hD] at this;cases this
      ·simp [hok,hd]
  ·rw [if_neg hdst]
   show zir _ _ _ _ t = zir _ _ _ D t
   unfold zir
   rw [zcn _ _ (fun k=>D k && ((ops.toList[k]?).bind (·.dst) == some t)) fun k hk=>?_]
   by_cases hki:k = i
   ·subst hki;simp [hil,hdst]
   ·have:(k == i) = false:=by simp [hki]
    simp [this]
 have e2:(stD ops tr s (fun k=>D k || k == i)).rw = ((stD ops tr s D).stepIn o x).rw:=by
  funext k
  have es:((stD ops tr s D).stepIn o x).rw k = if x.e.tc.has k = true then x.rows k else (stD ops tr s D).rw k:=by unfold St.stepIn St.put;cases o.dst <;> rfl
  rw [es]
  have hti:zb8 tr k i = x.e.tc.has k:=by simp [zb8,hx]
  by_cases hw:x.e.tc.has k = true
  ·rw [if_pos hw]
   show zis _ _ _ _ k = _
   unfold zis
   rw [zia _ i _ (by simpa using hlt) (by simp [hti,hw]) (fun j hk1 hk2=>?_)]
   ·simp [hx]
   ·have hk2':j < ops.size:=by simpa using hk2
    have hok:ops[j]? = some ops[j]:=Array.getElem?_eq_getElem hk2'
    have hne:(j == i) = false:=by simp;omega
    simp only [hne,Bool.or_false]
    cases hDk:D j with
    | false=>simp
    | true =>
      cases hb:zb8 tr k j with
      | false=>simp
      | true =>
        have:=zc1 ho hc j _ hok (hc j _ hok hDk) i ((znz hl hx (.inr hw) hb).2 hk1)
        rw [hD] at this;cases this
  ·rw [if_neg hw]
   show zis _ _ _ _ k = zis _ _ _ D k
   unfold zis
   rw [zcn _ _ (fun j=>D j && zb8 tr k j) fun j hk=>?_]
   by_cases hki:j = i
   ·subst hki;simp [hti,hw]
   ·have:(j == i) = false:=by simp [hki]
    simp [this]
 cases hA:stD ops tr s (fun k=>D k || k == i) with
 | mk a b =>
   cases hB:(stD ops tr s D).stepIn o x with
   | mk c d =>
     rw [hA,hB] at e1 e2
     simp only at e1 e2
     rw [e1,e2]
end
end Go.Abs

/- DERIVED by an AI agent. A region that draws its order, carried out. No program in sight. -/
namespace Go.Abs
set_option linter.unusedSimpArgs false
section
variable {P:Program} {T:Tab} {G:Ghost} {ops:Array Oper}
theorem zfP.congr [zae] {s s1:St} {o:Oper} {p:PV} (h:zfP P G s o p) (hr:s1.rw = s.rw) (he:∀ x ∈ o.op.operands,s1.ev x = s.ev x):zfP P G s1 o p :=
 fun E a w hR hw hx K Q hK=>h E a w (hR.trans hr) hw (fun x hx'=>by rw [← he x hx'];exact hx x hx') K Q hK
theorem zyO:∀ (l:List Bool) (i:Nat),l[i]? = some false→(l.set i true).count false + 1 = l.count false:=by
 intro l
 induction l with
 | nil=>intro i h;simp at h
 | cons x xs ih =>
   intro i h
   cases i with
   | zero=>simp at h;subst h;simp
   | succ i =>
     have:=ih i (by simpa using h)
     simp only [List.set_cons_succ,List.count_cons]
     omega
theorem zA8 [zae] {s s':St} {tr:List Stp} (ho:Ordered ops) (ht:Tr P G ops ops.toList s tr s') {D:Nat→Bool} (hc:zmG ops D) {i:Nat} {o:Oper} (hi:ops[i]? = some o) (hD:D i = false) (hd:∀ k ∈ zbz o,D k = true) :
 ∀ x ∈ o.op.operands,(stD ops tr s D).ev x = (zrD ops.toList tr s i).ev x:=by
 intro x hx
 cases x with
 | tmp t =>
   refine zmH ho ht hc hi hD hd ?_
   simp only [zrC,List.mem_append,List.mem_filterMap]
   exact .inl (.inr ⟨.tmp t,by simpa using hx,rfl⟩)
 | const c=>rfl
 | func f=>rfl
 | global g=>rfl
theorem zD0 [zae] {s s':St} {tr:List Stp} (ht:Tr P G ops ops.toList s tr s') {D:Nat→Bool} (hD:∀ k,k < ops.size→D k = true):stD ops tr s D = s':=by
 have hl:=ht.last
 rw [← hl]
 unfold stD
 have e1:zir ops.toList tr s D = (zrD ops.toList tr s ops.toList.length).sl:=by
  funext t
  rw [ht.slots t _ (Nat.le_refl _)]
  unfold zir
  rw [zcn _ _ (fun k=>(ops.toList[k]?).bind (·.dst) == some t) fun k hk=>by rw [hD k (by simpa using hk)];simp]
 have e2:zis ops.toList tr s D = (zrD ops.toList tr s ops.toList.length).rw:=by
  funext k
  rw [ht.rows k _ (Nat.le_refl _)]
  unfold zis
  rw [zcn _ _ (zb8 tr k) fun j hk=>by rw [hD j (by simpa using hk)];simp]
 rw [e1,e2]
theorem zqk {listed:Array Bool} {i:Nat} (h:i ∈ Region.ready .any ops listed):∃ o,ops[i]? = some o∧listed.getD i true = false∧∀ k ∈ zbz o,listed.getD k false = true:=by
 simp only [Region.ready,List.mem_filter,List.mem_range,Bool.and_eq_true,Bool.not_eq_true'] at h
 obtain ⟨hlt,h1,h2⟩:=h
 have hok:ops[i]? = some ops[i]:=Array.getElem?_eq_getElem hlt
 refine ⟨ops[i],hok,h1,fun k hk=>?_⟩
 rw [hok] at h2
 simp only [Option.map_some,Option.getD_some,Array.all_eq_true'] at h2
 simp only [zbz,List.mem_map,List.mem_filter] at hk
 obtain ⟨e,⟨he1,he2⟩,rfl⟩:=hk
 have:=h2 e (by simpa using he1)
 simpa [he2] using this
theorem zyP {listed:Array Bool} {i:Nat} {o:Oper} (hok:ops[i]? = some o) (h1:listed.getD i true = false) (h2:∀ k ∈ zbz o,listed.getD k false = true):i ∈ Region.ready .any ops listed:=by
 have hlt:i < ops.size:=(Array.getElem?_eq_some_iff.1 hok).1
 simp only [Region.ready,List.mem_filter,List.mem_range,Bool.and_eq_true,Bool.not_eq_true']
 refine ⟨hlt,h1,?_⟩
 rw [hok]
 simp only [Option.map_some,Option.getD_some,Array.all_eq_true']
 intro e he
 by_cases hb:Region.binds .any e = true
 ·have:=h2 e.on (by simp only [zbz,List.mem_map,List.mem_filter];exact ⟨e,⟨by simpa using he,hb⟩,rfl⟩)
  simp [this]
 ·simp [hb]
theorem zyQ [zae] {s s':St} {tr:List Stp} (ho:Ordered ops) (hln:zyR ops (tr.map (·.e))) (ht:Tr P G ops ops.toList s tr s') (hdst:∀ o ∈ ops,∀ d,o.dst = some d→d < G.n) {Q:Exit→Act→World→Prop}
 (hQ:∀ a w,Sim G s' a w→Q .normal a w):∀ (fuel:Nat) (listed:Array Bool) (a:Act) (w:World),listed.size = ops.size→zmG ops (fun k=>listed.getD k false) →
  Sim G (stD ops tr s (fun k=>listed.getD k false)) a w→listed.toList.count false ≤ fuel→wpAny P .any ops Q fuel listed a w:=by
 have done:∀ (listed:Array Bool) (a:Act) (w:World),listed.size = ops.size→Sim G (stD ops tr s (fun k=>listed.getD k false)) a w→Region.ready .any ops listed = []→Q .normal a w:=by
  intro listed a w hsz hs hr
  refine hQ a w ?_
  rw [zD0 ht] at hs
  ·exact hs
  ·intro k hk
   induction k using Nat.strongRecOn with
   | _ k ih =>
     cases hb:listed.getD k false with
     | true=>rfl
     | false =>
       have hok:ops[k]? = some ops[k]:=Array.getElem?_eq_getElem hk
       have hmem:=zyP (listed:=listed) hok (by
        rw [Array.getD_eq_getD_getElem?] at hb ⊢
        rw [Array.getElem?_eq_getElem (by omega)] at hb ⊢
        simpa using hb) fun j hj=>ih j (ho.low k _ hok j hj) (by have:=ho.low k _ hok j hj;omega)
       rw [hr] at hmem
       simp at hmem
 intro fuel
 induction fuel with
 | zero =>
   intro listed a w hsz hc hs hn
   have hall:∀ k,k < ops.size→listed.getD k true = true:=fun k hk=>by
    have hz:listed.toList.count false = 0:=by omega
    rw [List.count_eq_zero] at hz
    rw [Array.getD_eq_getD_getElem?,Array.getElem?_eq_getElem (by omega)]
    cases hb:listed[k] with
    | true=>rfl
    | false=>exact absurd (by rw [← hb];simp) hz
   have hr:Region.ready .any ops listed = []:=by
    apply List.eq_nil_iff_forall_not_mem.2
    intro i hi
    obtain ⟨o,hok,h1,_⟩:=zqk hi
    have:=hall i (Array.getElem?_eq_some_iff.1 hok).1
    rw [h1] at this;cases this
   exact ⟨hr,done listed a w hsz hs hr⟩
 | succ fuel ih =>
   intro listed a w hsz hc hs hn
   refine ⟨done listed a w hsz hs,fun i hi=>?_⟩
   obtain ⟨o,hok,h1,hd⟩:=zqk hi
   have hlt:i < ops.size:=(Array.getElem?_eq_some_iff.1 hok).1
   have hD:listed.getD i false = false:=by
    rw [Array.getD_eq_getD_getElem?,Array.getElem?_eq_getElem (by omega)] at h1 ⊢
    simpa using h1
   have hil:i < ops.toList.length:=by simpa using hlt
   have hit:i < tr.length:=by rw [ht.length];exact hil
   obtain ⟨hok1,_⟩:=ht.at i hil hit
   have hoi:ops.toList[i] = o:=by have:=hok;rw [Array.getElem?_eq_getElem hlt] at this;simpa using this
   rw [hoi] at hok1
   have hx:tr[i]? = some tr[i]:=List.getElem?_eq_getElem hit
   have hev:=zA8 ho ht hc hok hD hd
   have hrw:∀ k,tr[i].e.looks k = true ∨ tr[i].e.tc.has k = true→(stD ops tr s fun k=>listed.getD k false).rw k = (zrD ops.toList tr s i).rw k:=fun k hk=>zvL ho hln ht hc hok hD hd hx hk
   have hdo:∀ d,o.dst = some d→d < G.n:=hdst o (by rw [← hoi];simp)
   have hlist:(fun k=>(listed.setIfInBounds i true).getD k false) = fun k=>listed.getD k false || k == i:=by
    funext k
    rw [Array.getD_eq_getD_getElem?,Array.getD_eq_getD_getElem?,Array.getElem?_setIfInBounds]
    by_cases hk:i = k
    ·subst hk
     rw [if_pos rfl,if_pos (by omega)];simp
    ·rw [if_neg hk]
     have:(k == i) = false:=by simp;exact fun e=>hk e.symm
     simp [this]
   have next:∀ (a':Act) (w':World),Sim G (stD ops tr s fun k=>listed.getD k false || k == i) a' w'→wpAny P .any ops Q fuel (listed.setIfInBounds i true) a' w':=fun a' w' hs'=>by
    refine ih _ a' w' (by simpa using hsz) ?_ (by rw [hlist];exact hs') ?_
    ·rw [hlist]
     intro j oj hj hDj k hk
     simp only [Bool.or_eq_true,beq_iff_eq] at hDj ⊢
     rcases hDj with hDj | rfl
     ·exact .inl (hc j oj hj hDj k hk)
     ·rw [hok] at hj;cases hj;exact .inl (hd k hk)
    ·have:=zyO listed.toList i (by
      rw [Array.getElem?_toList,Array.getElem?_eq_getElem (by omega)]
      rw [Array.getD_eq_getD_getElem?,Array.getElem?_eq_getElem (by omega)] at hD
      simpa using hD)
     simp only [Array.toList_setIfInBounds]
     omega
   have hdone:=zBa (tr:=tr) (s:=s) ho hln hc hok hD hx
   unfold wpOp
   simp only [hok]
   have hgv:∀ b,zAO ops (zrD ops.toList tr s i) o = some b→Region.wanted o (yielded ops a.tmps) = b:=fun b hg=>by
    unfold zAO at hg
    cases hgd:o.guard with
    | none=>simp only [hgd] at hg;simp at hg;subst hg;simp [Region.wanted,hgd]
    | some jw =>
      obtain ⟨j,want⟩:=jw
      simp only [hgd] at hg
      split at hg
      ·rename_i d hdj
       have hn:d ∈ zrC ops o:=by simp [zrC,hgd,hdj]
       have hsl:=zmH ho ht hc hok hD hd hn
       split at hg
       ·rename_i bb hbb
        rw [hbb] at hsl
        obtain ⟨E,hsE⟩:=hs
        have hval:=hsE.slots d
        have hval':a.tmps.getD d undef = .bool bb:=by
         have hh:(stD ops tr s fun k=>listed.getD k false).sl d = .v (.bool bb):=hsl
         rw [hh] at hval;exact hval.v_eq
        have hy:yielded ops a.tmps j = some bb:=by
         have hsz':a.tmps[d]? = some (.bool bb):=by
          rw [Array.getD_eq_getD_getElem?] at hval'
          cases h:a.tmps[d]? with
          | none=>rw [h] at hval';simp [undef] at hval'
          | some x=>rw [h] at hval';simp at hval';rw [hval']
         simp [yielded,hdj,hsz']
        simp at hg
        simp [Region.wanted,hgd,hy,hg]
       ·rename_i cs hbb
        rw [hbb] at hsl
        obtain ⟨E,hsE⟩:=hs
        have hval:=hsE.slots d
        have hval':a.tmps.getD d undef = .tuple cs:=by
         have hh:(stD ops tr s fun k=>listed.getD k false).sl d = .v (.tuple cs):=hsl
         rw [hh] at hval;exact hval.v_eq
        simp at hg
        subst hg
        simp [Region.wanted,hgd,zgJ hdj hval']
       ·cases hg
      ·cases hg
   cases hok1 with
   | skip hg hp hr htc =>
     rw [hgv false hg]
     simp only [Bool.false_eq_true,if_false]
     refine next _ _ ?_
     rw [hdone]
     have h0:=znB (dst:=o.dst) hdo hs
     have e:(stD ops tr s fun k=>listed.getD k false).stepIn o tr[i] = (stD ops tr s fun k=>listed.getD k false).put o.dst (.v undef):=by
      unfold St.stepIn
      rw [hp,htc]
      simp only [Tc.has,List.any_nil,Bool.false_eq_true,if_false]
     rw [e];exact h0
   | step hg hr he =>
     rw [hgv true hg]
     rw [if_pos rfl]
     refine .inl ?_
     refine he (stD ops tr s fun k=>listed.getD k false) hrw hev a w hs _ _ fun a' w' hs'=>next a' w' ?_
     rw [hdone]
     exact hs'
end
end Go.Abs

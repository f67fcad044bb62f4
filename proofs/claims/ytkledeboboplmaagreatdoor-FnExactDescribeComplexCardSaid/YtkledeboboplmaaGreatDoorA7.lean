/- DERIVED by an AI agent. -/
import Derived.Test.YtkledeboboplmaaGreatDoorA6
import Derived.Test.YtkledeboboplmaaGreatDoorA4
/- DERIVED by an AI agent. Rows written no more; all operations together; a region in the order of the text. No program in sight. -/
namespace Go.Abs
set_option linter.unusedSimpArgs false
def Wk [zae] (s s':St):Prop:=∀ (G:Ghost) (a:Act) (w:World),Sim G s a w→Sim G s' a w
theorem Wk.refl [zae] (s:St):Wk s s:=fun _ _ _ h=>h
theorem Wk.trans [zae] {a b c:St} (h:Wk a b) (k:Wk b c):Wk a c:=fun G x w hs=>k G x w (h G x w hs)
theorem Wk.freeze [zae] (s:St) (ks:List Nat):Wk s (s.freeze ks):=by
 intro G a w ⟨E,hs⟩
 have ht:Turn G E { R:=zhy E.R ks,rm:=E.rm,rv:=E.rv,L:=mkL E.X (zhy E.R ks) E.rm,B:=E.B,X:=E.X } w w (· ∈ ks):=by
  have at_:∀ k,k ∈ ks→zhy E.R ks k = frz (E.R k):=fun k hk=>by simp [zhy,hk]
  refine ⟨rfl,rfl,rfl,fun k hk=>⟨by simp [zhy,hk],rfl,rfl⟩,fun _ _ _=>rfl,fun k b hk hb hn=>.inr ⟨hb,?_,fun hl=>?_⟩,fun k hk=>?_,fun k hk _ h=>⟨?_,rfl⟩,fun k hk _ h=>⟨?_,rfl⟩,fun k hk hn=>?_,fun k k' b hk hk' hn hn' hb hb'=>?_,Nat.le_refl _,rfl,rfl,⟨rfl,fun _=>by first | exact Nat.le_refl _ | exact Nat.le_succ _⟩⟩
  ·simpa [at_ k hk,zfA] using hn
  ·exact zj0 _ (by simpa [at_ k hk] using hl)
  ·simp [at_ k hk,zo0]
  ·simpa [at_ k hk,zrR] using h
  ·simpa [at_ k hk,zfA] using h
  ·have:=hs.wok.pos k (by simpa [at_ k hk,zfA] using hn)
   simpa [at_ k hk,zo0] using this
  ·exact hs.wok.inj k k' b (by simpa [at_ k hk,zfA] using hn) (by simpa [at_ k' hk',zfA] using hn') hb hb'
 have hl:=ht.lasts hs.wok
 have hrows:∀ k,k ∈ ks→zav w { R:=zhy E.R ks,rm:=E.rm,rv:=E.rv,L:=mkL E.X (zhy E.R ks) E.rm,B:=E.B,X:=E.X } G.C k:=by
  intro k hk
  have hr:=hs.wok.rows k
  have hf:zhy E.R ks k = frz (E.R k):=by simp [zhy,hk]
  unfold zav at hr ⊢
  simp only [hf]
  cases hkd:(E.R k).kind with
  | dead=>simp [frz,hkd]
  | nil=>simp only [hkd,frz] at hr ⊢;exact hr
  | box t cells =>
    simp only [hkd,frz] at hr ⊢
    obtain ⟨b,vs,h1,h2,h3,h4⟩:=hr
    exact ⟨b,vs,h1,h2,h3,h4.mono hl (Nat.le_refl _)⟩
  | sli e sz fz' cells =>
    simp only [hkd,frz] at hr ⊢
    rcases hr with hr | ⟨b,n,cap,vs,rest,h1,h2,h3,h4,h5,h6,h7,h8,h9⟩
    ·exact .inl hr
    ·exact .inr ⟨b,n,cap,vs,rest,h1,h2,h3,h4,h5,h6,h7,h8,h9.mono hl.bare (Nat.le_refl _)⟩
  | tab e cells =>
    simp only [hkd,frz] at hr ⊢
    rcases hr with hr | ⟨b,n,cap,vs,rest,h1,h2,h3,h4,h5,h6,h7,h8,h9⟩
    ·exact .inl hr
    ·exact .inr ⟨b,n,cap,vs,rest,h1,h2,h3,h4,h5,h6,h7,h8,h9.mono hl (Nat.le_refl _)⟩
  | mp f=>simp only [hkd,frz] at hr ⊢;exact hr
 have key:=ht.sim hs hrows
 have e:({ s with rw:=zhy E.R ks }:St) = s.freeze ks:=by rw [hs.rw];rfl
 exact ⟨_,e ▸ key⟩
def zJH (k:Nat) (p:List Nat) (j:Nat):Bool:=j == k || p.any fun x=>j == sid k x
theorem zv5 {k:Nat} {p:List Nat} {j:Nat}:zJH k p j = true ↔ InT k p j:=by
 unfold zJH InT
 simp
def zba (R:Nat→Row) (k:Nat) (p:List Nat) (j:Nat):Row:=match zJH k p j with | true=>⟨(R j).ver + 1,.dead⟩ | false=>R j
def St.killed (s:St) (k:Nat) (p:List Nat):St:={ s with rw:=zba s.rw k p }
theorem zez [zae] {R:Nat→Row} {k:Nat} {p:List Nat} {j:Nat} (h:InT k p j):zba R k p j = ⟨(R j).ver + 1,.dead⟩:=by
 unfold zba;rw [zv5.2 h]
theorem zcd [zae] {R:Nat→Row} {k:Nat} {p:List Nat} {j:Nat} (h:¬ InT k p j):zba R k p j = R j:=by
 unfold zba
 cases hb:zJH k p j with
 | true=>exact absurd (zv5.1 hb) h
 | false=>rfl
theorem Wk.kill [zae] (s:St) (k:Nat) (p:List Nat):Wk s (s.killed k p):=by
 intro G a w ⟨E,hs⟩
 have dead:∀ j,InT k p j→(zba E.R k p j).kind.nd = true→False:=fun j hj h=>by rw [zez hj] at h;cases h
 have ht:Turn G E { R:=zba E.R k p,rm:=E.rm,rv:=E.rv,L:=mkL E.X (zba E.R k p) E.rm,B:=E.B,X:=E.X } w w (InT k p):=by
  refine ⟨rfl,rfl,rfl,fun j hj=>⟨zcd hj,rfl,rfl⟩,fun _ _ _=>rfl,fun j b hD _ hnd=>(dead j hD hnd).elim,fun j hD=>?_,fun j hD he _=>?_,fun j hD he _=>?_,fun j hD hnd=>(dead j hD hnd).elim,fun j j' b hD hD' h1 _ _ _=>(dead j hD h1).elim,Nat.le_refl _,rfl,rfl,⟨rfl,fun _=>by first | exact Nat.le_refl _ | exact Nat.le_succ _⟩⟩
  ·show _ ≤ (zba E.R k p j).ver
   rw [zez hD];exact Nat.le_succ _
  ·have he:(zba E.R k p j).ver = (E.R j).ver:=he
   rw [zez hD] at he;simp at he
  ·have he:(zba E.R k p j).ver = (E.R j).ver:=he
   rw [zez hD] at he;simp at he
 have hrows:∀ j,InT k p j→zav w { R:=zba E.R k p,rm:=E.rm,rv:=E.rv,L:=mkL E.X (zba E.R k p) E.rm,B:=E.B,X:=E.X } G.C j:=fun j hj=>by
  unfold zav
  show match (zba E.R k p j).kind with | .dead=>True | .nil=>_ | .box t cells=>_ | .sli e sz _ cells=>_ | .tab e cells=>_ | .mp f=>_
  rw [zez hj];trivial
 have key:SimE G _ ({ s with rw:=zba E.R k p }:St) a w:=ht.sim hs hrows
 have e:({ s with rw:=zba E.R k p }:St) = s.killed k p:=by rw [hs.rw];rfl
 rw [e] at key
 exact ⟨_,key⟩
theorem zdP {vr vr':Nat→Nat} {d:Nat} (h:∀ i,vr (zan d i) = vr' (zan d i)) (rv:RV):za0 vr d rv 0 = za0 vr' d rv 0:=by
 have e0:∀ (r:RV) (i:Nat),zbV vr d r i = zbV vr' d r i:=fun r i=>by
  cases r <;> simp only [zbV,h]
 have eL:∀ (f g:RV→Nat→PV),(∀ r i,f r i = g r i)→∀ l i,zbF f l i = zbF g l i:=fun f g h l=>by
  induction l with
  | nil=>intro i;rfl
  | cons r rs ih=>intro i;simp only [zbF,h,ih]
 have e1:∀ (r:RV) (i:Nat),zcv vr d r i = zcv vr' d r i:=fun r i=>by
  cases r <;> simp only [zcv,e0,eL _ _ e0]
 cases rv <;> simp only [za0,e1,e0,eL _ _ e1]
theorem zbL [zae] {R R':Nat→Row} {d:Nat} (h:∀ i,R (zan d i) = R' (zan d i)) (j:Nat):∀ (ls:List (TypeId × Option Nat × List PV)) (i:Nat),
 ((∃ m,m < ls.length∧j = zan d (i + m))→zaw R d ls i j = zaw R' d ls i j)∧(¬ (∃ m,m < ls.length∧j = zan d (i + m))→zaw R d ls i j = R j∧zaw R' d ls i j = R' j):=by
 intro ls
 induction ls with
 | nil=>intro i;exact ⟨fun ⟨m,hm,_⟩=>by simp at hm,fun _=>⟨rfl,rfl⟩⟩
 | cons l ls ih =>
   intro i
   obtain ⟨e,sz,c⟩:=l
   simp only [zaw]
   by_cases he:j = zan d i
   ·subst he
    refine ⟨fun _=>?_,fun hn=>absurd ⟨0,by simp,by simp⟩ hn⟩
    have hk:zbW R d i e sz c = zbW R' d i e sz c:=by cases sz <;> simp [zbW,zaT,h]
    rw [zaf,zaf,h,hk]
   ·rw [zal _ _ he,zal _ _ he]
    obtain ⟨a1,a2⟩:=ih (i + 1)
    refine ⟨fun ⟨m,hm,hj⟩=>?_,fun hn=>a2 fun ⟨m,hm,hj⟩=>hn ⟨m + 1,by simpa using hm,by rw [hj];congr 1;omega⟩⟩
    cases m with
    | zero=>exact absurd (by simpa using hj) he
    | succ m=>exact a1 ⟨m,by simpa using hm,by rw [hj];congr 1;omega⟩
theorem zxf [zae] {s:St} {k v e e2 d:Nat} {p p':List Nat} {rows rows':List (List PV)} {r:RV} (ht:TabIs s.rw k v e e2 p rows) (hn:p.Nodup) (hp:p'.Perm p) (hd:d % 1000 ≠ k % 1000) :
 (zao (s.tabbed k v e e2 p' rows') d r).killed k p = zao (s.killed k p) d r:=by
 have hmod:∀ j,InT k p j→j % 1000 = k % 1000:=fun j hj=>by
  rcases hj with rfl | ⟨x,_,rfl⟩
  ·rfl
  ·rw [zbE];omega
 have hleaf:∀ i,¬ InT k p (zan d i):=fun i hi=>hd (by rw [← hmod _ hi];unfold zan;omega)
 have hin:∀ j,InT k p j ↔ (j = k ∨ ∃ x ∈ p',j = sid k x):=fun j=>⟨fun h=>by
  rcases h with h | ⟨x,hx,h⟩
  ·exact .inl h
  ·exact .inr ⟨x,hp.mem_iff.2 hx,h⟩,fun h=>by
  rcases h with h | ⟨x,hx,h⟩
  ·exact .inl h
  ·exact .inr ⟨x,hp.mem_iff.1 hx,h⟩⟩
 have hout:∀ j,¬ InT k p j→zh8 s.rw k v e e2 p' rows' j = s.rw j:=fun j hj=>zij (fun h=>hj (.inl h)) fun x hx h=>hj ((hin j).2 (.inr ⟨x,hx,h⟩))
 have hver:∀ j,InT k p j→(zh8 s.rw k v e e2 p' rows' j).ver = (s.rw j).ver:=fun j hj=>by
  rcases hj with rfl | ⟨x,hx,rfl⟩
  ·rw [zhw,ht.top]
  ·obtain ⟨i',hi',he'⟩:=zeh (hp.mem_iff.2 hx)
   obtain ⟨i,hi,he⟩:=zeh hx
   have h1:=zhx (R:=s.rw) (k:=k) (v:=v) (e:=e) (e2:=e2) (rows:=rows') (hp.nodup_iff.2 hn) hi'
   rw [he'] at h1
   have h2:=ht.row i hi
   rw [he] at h2
   rw [h1,h2]
 have hlf:∀ i,zh8 s.rw k v e e2 p' rows' (zan d i) = zba s.rw k p (zan d i):=fun i=>by rw [hout _ (hleaf i),zcd (hleaf i)]
 have hrw:zba (zaw (zh8 s.rw k v e e2 p' rows') d (zak r) 0) k p = zaw (zba s.rw k p) d (zak r) 0:=by
  funext j
  obtain ⟨a1,a2⟩:=zbL hlf j (zak r) 0
  by_cases hj:∃ m,m < (zak r).length∧j = zan d (0 + m)
  ·have hne:¬ InT k p j:=by obtain ⟨m,_,rfl⟩:=hj;exact hleaf _
   rw [zcd hne];exact a1 hj
  ·obtain ⟨b1,b2⟩:=a2 hj
   rw [b2]
   by_cases hi:InT k p j
   ·rw [zez hi,zez hi,b1,hver j hi]
   ·rw [zcd hi,zcd hi,b1,hout j hi]
 have hval:za0 (fun j=>(zh8 s.rw k v e e2 p' rows' j).ver) d r 0 = za0 (fun j=>(zba s.rw k p j).ver) d r 0:=zdP (fun i=>by rw [hlf]) r
 show (St.mk _ (zba (zaw (zh8 s.rw k v e e2 p' rows') d (zak r) 0) k p)) = _
 rw [hrw]
 show (St.mk (((St.mk s.sl _).put (some d) (za0 (fun j=>(zh8 s.rw k v e e2 p' rows' j).ver) d r 0)).sl) _) = _
 rw [hval]
 rfl
theorem zxg [zae] {P:Program} {G:Ghost} {s:St} {o:Oper} {c:Call} {f:Operand} {k v e e2 d:Nat} {p:List Nat} {rows rows':List (List PV)} {args caps:List PV} {g:FuncId} {r:RV} (ho:o.op = .call c) (hc:c.callee = .value f) (hdst:o.dst = some d) (hd:d < G.n)
 (hev:s.ev f = .clo g caps) (hat:AT P g args e e2 rows rows' (.rv r)) (hg:GiveL [(k,v)] (c.args.toList.map s.ev ++ caps) args) (ht:TabIs s.rw k v e e2 p rows) (hn:p.Nodup) (hdk:d % 1000 ≠ k % 1000):za5 P G s o (zao (s.killed k p) d r):=by
 intro a w hs K' Q hK
 refine zlg (K:=fun s1=>∃ p':List Nat,p'.Perm p∧s1 = zao (s.tabbed k v e e2 p' rows') d r) ho hc (fun x hx=>by rw [hdst] at hx;cases hx;exact hd) ?_ hs fun s1 a' w' ⟨p',hp',he⟩ hs1=>hK a' w' ?_
 ·rw [hev]
  refine ⟨k,v,e,e2,p,rows,rows',args,.rv r,hat,hg,ht,hn,fun p' hp'=>?_⟩
  rw [hdst]
  exact ⟨hdk,p',hp',rfl⟩
 ·subst he
  rw [← zxf ht hn hp' hdk]
  exact Wk.kill _ k p G a' w' hs1
def opK [zae] (P:Program) (T:Tab) (s:St) (o:Oper) (K:St→Prop):Prop :=
 match o.op with
 | .assign (.const c) =>
   (match zd5 c with
   | true=>(match o.dst with | some d=>K (zcI s d (match (T o.type).k with | .sli e=>.sli e (T e).size false [] | _=>.nil) fun v=>.own d v) | none=>False)
   | false=>K (s.put o.dst (ztf c)))
 | .alloc t=>(match o.dst with | some d=>0 < (T t).size∧K (zcI s d (.box t ((T t).zero.map PV.v)) fun v=>.ref d v 0) | none=>False)
 | .box t x=>(match o.dst with | some d=>za1 s.rw (s.ev x) fun c=>K (zcI s d (.box t c) fun v=>.ref d v 0) | none=>False)
 | .makeSlice t l c =>
   (match o.dst,(T t).k,s.ev l,s.ev c with
   | some d,.sli e,.v (.int _ nl),.v (.int _ nc)=>0 < (T t).size∧(T e).size = 1∧(match (T e).zero with
    | [z]=>0 ≤ nl∧nl ≤ nc∧((T e).bytes:Int) * nc ≤ 281474976710656∧nc ≤ 9223372036854775807∧K (zcI s d (.sli e 1 false (List.replicate nl.toNat (.v z))) fun v=>.own d v)
    | _=>False)
   | _,_,_,_=>False)
 | .buildSlice t n parts=>(match o.dst with | some d=>zAx T s d t n parts K | none=>False)
 | .store t ad x=>o.dst = none∧zrQ T s t (s.ev ad) (s.ev x) K
 | .makeMap _ r=>(match o.dst,r with | some d,none=>K (zcI s d (.mp fun _=>0) fun v=>.own d v) | _,_=>False)
 | .mapUpdate t m x y=>o.dst = none∧zHU T s t (s.ev m) (s.ev x) (s.ev y) K
 | .build t parts=>zgE T s.rw s.ev t parts fun p=>K (s.put o.dst p)
 | .slice _ x _ _ _ =>
   (match s.ev x with
   | .own k _=>(match (s.rw k).kind with
    | .sli _ _ false _=>zjp T (s.freeze [k]).rw s.ev o.op fun p=>K ((s.freeze [k]).put o.dst p)
    | _=>zjp T s.rw s.ev o.op fun p=>K (s.put o.dst p))
   | _=>zjp T s.rw s.ev o.op fun p=>K (s.put o.dst p))
 | .call c =>
   (match c.callee with
   | .builtin .append=>(match c.args,c.argTypes,o.dst with | ⟨[x,y]⟩,⟨[t,t2]⟩,some d=>zlk T s d t t2 (s.ev x) (s.ev y) K | _,_,_=>False)
   | .value f=>(match o.dst with | some d=>zeB P s.rw s.ev f c.args fun rv=>K (zao s d rv) | none=>zeB P s.rw s.ev f c.args fun _=>K s) ∨ zAt P s f c.args o.dst K
   | _=>zjp T s.rw s.ev o.op fun p=>K (s.put o.dst p))
 | _=>zjp T s.rw s.ev o.op fun p=>K (s.put o.dst p)
section
variable {P:Program} {T:Tab} {G:Ghost} {s:St} {o:Oper}
theorem zgs.effects [zae] {p:PV} (h:zgs P G s o p) (hd:∀ d,o.dst = some d→d < G.n):za5 P G s o (s.put o.dst p):=by
 intro a w ⟨E,hs⟩ K Q hK
 exact h E a w hs.rw hs.wok (fun x _=>zaz hs.slots x) K Q fun v w' hx hv=>hK _ _ ⟨E,(hs.ext hx).put hd hv⟩
theorem zih [zae] (hT:T.Ok P) {K:St→Prop} (hd:∀ d,o.dst = some d→d < G.n) (hk:zjp T s.rw s.ev o.op fun p=>K (s.put o.dst p)):∃ s',K s'∧za5 P G s o s':=by
 obtain ⟨p,hp,hy⟩:=zrT (G:=G) hT hk
 exact ⟨_,hp,hy.effects hd⟩
theorem za5.wk [zae] {s1 s':St} (hw:Wk s s1) (h:za5 P G s1 o s'):za5 P G s o s':=fun a w hs=>h a w (hw G a w hs)
theorem zjZ [zae] (hT:T.Ok P) {K:St→Prop} (hd:∀ d,o.dst = some d→d < G.n) (hk:opK P T s o K):∃ s',K s'∧za5 P G s o s':=by
 unfold opK at hk
 split at hk
 ·rename_i c ho
  split at hk
  ·rename_i hn
   split at hk
   ·rename_i d hdst
    refine zAA ?_ ho hdst (hd d hdst) hn hk
    split
    ·exact .inr ⟨_,_,rfl⟩
    ·exact .inl rfl
   ·exact hk.elim
  ·exact zih hT hd (by rw [ho];exact hk)
 ·rename_i t ho
  split at hk
  ·rename_i d hdst
   exact zs8 hT ho hdst (hd d hdst) hk
  ·exact hk.elim
 ·rename_i t x ho
  split at hk
  ·rename_i d hdst
   exact zAz ho hdst (hd d hdst) hk
  ·exact hk.elim
 ·rename_i t l c ho
  split at hk
  ·rename_i hdst hk1 hl hc
   obtain ⟨h1,h2,hk⟩:=hk
   split at hk
   ·rename_i z hz
    obtain ⟨h3,h4,h5,h6,hk⟩:=hk
    exact zxl hT ho hdst (hd _ hdst) h1 hk1 hl hc h2 hz h3 h4 h5 h6 hk
   ·exact hk.elim
  ·exact hk.elim
 ·rename_i t n parts ho
  split at hk
  ·rename_i d hdst
   exact zs7 hT ho hdst (hd d hdst) hk
  ·exact hk.elim
 ·rename_i t ad x ho
  exact zs9 hT ho hk.1 hk.2
 ·rename_i t r ho
  split at hk
  ·rename_i d hdst
   exact zo3 ho hdst (hd d hdst) hk
  ·exact hk.elim
 ·rename_i t m x y ho
  exact zAP hT ho hk.1 hk.2
 ·rename_i t parts ho
  obtain ⟨p,hp,hy⟩:=zi9 (G:=G) hT ho hk
  exact ⟨_,hp,hy.effects hd⟩
 ·rename_i t x lo hi mx ho
  split at hk
  ·rename_i k ver hev
   split at hk
   ·have hk':zjp T (s.freeze [k]).rw (s.freeze [k]).ev o.op fun p=>K ((s.freeze [k]).put o.dst p):=hk
    obtain ⟨s',h1,h2⟩:=zih (G:=G) hT hd hk'
    exact ⟨s',h1,h2.wk (Wk.freeze s [k])⟩
   ·exact zih hT hd hk
  ·exact zih hT hd hk
 ·rename_i c ho
  split at hk
  ·rename_i hc
   split at hk
   ·rename_i x y t t2 d ha ht hdst
    refine zrP hT (x:=x) (y:=y) ?_ hdst (hd d hdst) hk
    rw [ho]
    obtain ⟨c1,c2,c3⟩:=c
    simp only at hc ha ht
    rw [hc,ha,ht]
   ·exact hk.elim
  ·rename_i f hc
   rcases hk with hk | hk
   case inr=>exact zs5 ho hc hd hk
   split at hk
   ·rename_i d hdst
    exact zn0 ho hc hdst (hd d hdst) hk
   ·rename_i hdst
    obtain ⟨rv,hk,h⟩:=zAD (G:=G) ho hc hk
    refine ⟨_,hk,fun a w ⟨E,hs⟩ K' Q hK=>h E a w hs.rw hs.wok (fun x _=>zaz hs.slots x) K' Q fun v w' lv hx _ _=>?_⟩
    rw [hdst]
    exact hK _ _ ⟨E,hs.ext hx⟩
  ·exact zih hT hd hk
 ·exact zih hT hd hk
def zs1 (T:Tab) (rw:Nat→Row) (t:TypeId) (x:PV) (K:Bool→Prop):Prop :=
 0 < (T t).size∧match (T t).k with
 | .sli _=>slK rw x fun _ _ c=>K false∧(c = []→K true)
 | _=>False
def zGg [zae] (P:Program) (s:St) (g:FuncId) (args:List PV) (dst:Option Nat) (K:St→Prop):Prop :=
 ∃ (rv:RV) (s':St),AC P g args rv∧Wk (match dst with | some d=>zao s d rv | none=>s) s'∧K s'
def zd2 [zae] (P:Program) (T:Tab) (s:St) (o:Oper) (K:St→Prop):Prop :=
 match o.op with
 | .binOp .eql t x (.const (.slice none 0 0)) _=>zs1 T s.rw t (s.ev x) fun b=>K (s.put o.dst (.v (.bool b)))
 | .binOp .neq t x (.const (.slice none 0 0)) _=>zs1 T s.rw t (s.ev x) fun b=>K (s.put o.dst (.v (.bool !b)))
 | .call ⟨.value f,args,_⟩=>opK P T s o K ∨ (match s.ev f with
  | .clo g caps=>zKH P s g (args.toList.map s.ev ++ caps) o.dst K ∨ zGg P s g ((args.toList.map fun x=>zcC s.rw zgc (s.ev x)) ++ caps.map (zcC s.rw zgc)) o.dst K ∨ askG P s g (args.toList.map s.ev ++ caps) o.dst K
  | _=>False)
 | .call ⟨.builtin .append,⟨[x,y]⟩,⟨[t,t2]⟩⟩=>(match o.dst,s.ev y with
  | some d,.v (.string b)=>zth T s d t t2 (s.ev x) b K
  | _,_=>(match o.dst,s.ev x with
  | some d,.own k ver=>(match (s.rw k).kind with | .tab e c=>zKG T s d t t2 k ver e c (s.ev y) K | _=>opK P T s o K)
  | _,_=>opK P T s o K))
 | .buildSlice t n ⟨[(i,x)]⟩=>(match o.dst,s.ev x with
  | some d,.own k ver=>(match (s.rw k).kind with | .tab _ _=>zlf T s d t n i k ver K | .sli _ _ _ _=>opK P T s o K ∨ zlf T s d t n i k ver K | _=>opK P T s o K)
  | _,_=>opK P T s o K)
 | _=>opK P T s o K
theorem zmx {P:Program} (w:World) (d:Nat) {t e:TypeId} (a:Option Addr) (n c n' c':Nat) (h:P.underlying t = some (.slice e)) :
 (Op.equalIn (d + 1) t (.slice a n c) (.slice none n' c')).run P w = .ok a.isNone w:=by
 cases a <;> simp [Op.equalIn,run_underlying h]
theorem zi5 [zae] {P:Program} (w:World) {t e:TypeId} (a:Option Addr) (n c n' c':Nat) (h:P.underlying t = some (.slice e)) :
 (Op.equal t (.slice a n c) (.slice none n' c')).run P w = .ok a.isNone w:=zmx w 9999 a n c n' c' h
theorem zi6 [zae] (hT:T.Ok P) {t:TypeId} {x:PV} {K:Bool→Prop} (hk:zs1 T s.rw t x K) {E:Env} {w:World} (hR:E.R = s.rw) (hw:WOk G E w) {v:Value} (hp:Rep w E 0 x v) :
 ∃ b,K b∧(Op.equal t v (.slice none 0 0)).run P w = .ok b w∧∃ a l c,v = .slice a l c:=by
 obtain ⟨hz,hk⟩:=hk
 split at hk
 ·rename_i e he
  have hu:=(hT t hz).k
  rw [he] at hu
  obtain ⟨fr,sz,c,⟨h1,h2⟩,a,len,cap,cs,rfl,hl,hc,hm,hcell⟩:=zhB hk hR hw hp
  have hu':P.underlying t = some (.slice e):=hu
  cases a with
  | some b=>exact ⟨false,h1,zi5 w _ _ _ _ _ hu',_,_,_,rfl⟩
  | none =>
    have:c = []:=by
     cases c with
     | nil=>rfl
     | cons p ps=>obtain ⟨b,o,h,_⟩:=hcell 0 (by simp);cases h
    exact ⟨true,h2 this,zi5 w _ _ _ _ _ hu',_,_,_,rfl⟩
 ·exact hk.elim
theorem zAo [zae] (hT:T.Ok P) {K:St→Prop} (hd:∀ d,o.dst = some d→d < G.n) (hk:zd2 P T s o K) {a:Act} {w:World} (hs:Sim G s a w) {K':Act→World→Prop} {Q:Exit→Act→World→Prop}
 (hK:∀ s' a' w',K s'→Sim G s' a' w'→K' a' w'):o.wp P a w K' Q:=by
 have base:opK P T s o K→o.wp P a w K' Q:=fun hk=>by
  obtain ⟨s',hk2,he⟩:=zjZ (G:=G) hT hd hk
  exact he a w hs _ _ fun a' w' h'=>hK s' a' w' hk2 h'
 unfold zd2 at hk
 split at hk
 ·rename_i t x t2 ho
  obtain ⟨E,hs⟩:=hs
  obtain ⟨b,hb,hrun,a1,l1,c1,hv⟩:=zi6 (G:=G) hT hk hs.rw hs.wok (zaz hs.slots x)
  refine zdC (v:=.bool b) (w':=w) ?_ (hK _ _ _ hb ⟨E,hs.put hd (.v _)⟩)
  have ec:a.eval (.const (.slice none 0 0)) = .slice none 0 0:=rfl
  rw [hv] at hrun
  simp [execOp,ho,hv,ec,eqGuard,binOp,hrun]
 ·rename_i t x t2 ho
  obtain ⟨E,hs⟩:=hs
  obtain ⟨b,hb,hrun,a1,l1,c1,hv⟩:=zi6 (G:=G) hT hk hs.rw hs.wok (zaz hs.slots x)
  refine zdC (v:=.bool !b) (w':=w) ?_ (hK _ _ _ hb ⟨E,hs.put hd (.v _)⟩)
  have ec:a.eval (.const (.slice none 0 0)) = .slice none 0 0:=rfl
  rw [hv] at hrun
  simp [execOp,ho,hv,ec,eqGuard,binOp,hrun]
 ·rename_i f args ts ho
  rcases hk with hk | hk
  ·exact base hk
  ·split at hk
   ·rename_i g caps hev
    rcases hk with hk | hk | hk
    ·exact zlg ho rfl hd (by rw [hev];exact hk) hs hK
    ·obtain ⟨rv,s',hac,hwk,hk⟩:=hk
     have hcall:opK P T s o (· = (match o.dst with | some d=>zao s d rv | none=>s)):=by
      unfold opK
      simp only [ho]
      refine .inl ?_
      cases hdst:o.dst with
      | some d=>simp only;unfold zeB;rw [hev];exact ⟨rv,hac,rfl⟩
      | none=>simp only;unfold zeB;rw [hev];exact ⟨rv,hac,trivial⟩
     obtain ⟨s2,rfl,he⟩:=zjZ (G:=G) hT hd hcall
     exact he a w hs _ _ fun a' w' h'=>hK s' a' w' hk (hwk G a' w' h')
    ·exact zgH ho rfl hd (by rw [hev];exact hk) hs hK
   ·exact hk.elim
 ·rename_i x y t t2 ho
  split at hk
  ·rename_i d bs hdst hevy
   obtain ⟨s',hk2,he⟩:=zr0 (G:=G) hT ho hdst (hd d hdst) hevy hk
   exact he a w hs _ _ fun a' w' h'=>hK s' a' w' hk2 h'
  ·split at hk
   ·rename_i d k ver hdst hev
    split at hk
    ·rename_i e c hkind
     exact zxi hT ho hdst (hd d hdst) hev hkind hk hs hK
    ·exact base hk
   ·exact base hk
 ·rename_i t n i x ho
  split at hk
  ·rename_i d k ver hdst hev
   split at hk
   ·exact zi8 hT ho hdst (hd d hdst) hev hk hs hK
   ·rcases hk with hk | hk
    ·exact base hk
    ·exact zi8 hT ho hdst (hd d hdst) hev hk hs hK
   ·exact base hk
  ·exact base hk
 ·exact base hk
end
def zv6 (ops:Array Oper) (s:St) (o:Oper) (K1 K2:St→Prop):Prop :=
 match o.guard with
 | none=>K1 s
 | some (j,want) =>
   match (ops[j]?).bind (·.dst) with
   | some d=>(match s.sl d with | .v (.bool b)=>(b = want→K1 (s.put (some d) (.v (.bool want))))∧(b = !want→K2 ((s.put (some d) (.v (.bool !want))).put o.dst (.v undef))) | .v (.tuple _)=>K2 (s.put o.dst (.v undef)) | _=>False)
   | none=>False
def zs2 [zae] (P:Program) (T:Tab) (ops:Array Oper):List Oper→St→(St→Prop)→Prop
 | [],s,K=>K s
 | o :: os,s,K=>zv6 ops s o (fun s1=>zd2 P T s1 o fun s2=>zs2 P T ops os s2 K) (fun s2=>zs2 P T ops os s2 K)
theorem zv7 [zae] {G:Ghost} {s:St} {d:Nat} {p:PV} {a:Act} {w:World} (h:s.sl d = p) (hs:Sim G s a w):Sim G (s.put (some d) p) a w:=by
 obtain ⟨E,hs⟩:=hs
 refine ⟨E,hs.rw,hs.wok,hs.size,hs.defers,fun i=>?_⟩
 simp only [St.put]
 by_cases hi:i = d
 ·subst hi;rw [if_pos rfl,← h];exact hs.slots i
 ·rw [if_neg hi];exact hs.slots i
theorem zoR [zae] {G:Ghost} {s:St} {dst:Option Nat} {a:Act} {w:World} (hd:∀ d,dst = some d→d < G.n) (hs:Sim G s a w):Sim G (s.put dst (.v undef)) (a.put dst undef) w:=by
 obtain ⟨E,hs⟩:=hs
 exact ⟨E,hs.put hd (.v undef)⟩
theorem zhv {ops:Array Oper} {tmps:Array Value} {j d:Nat} {cs:Array Value} (hdj:(ops[j]?).bind (·.dst) = some d) (hval:tmps.getD d undef = .tuple cs):yielded ops tmps j = none:=by
 unfold yielded
 rw [hdj]
 rw [Array.getD_eq_getD_getElem?] at hval
 cases h:tmps[d]? with
 | none=>simp [h]
 | some x=>rw [h] at hval;simp at hval;subst hval;simp [h]
section
variable {P:Program} {T:Tab} {G:Ghost}
theorem zAp [zae] (hT:T.Ok P) {ops:Array Oper} {Q:Exit→Act→World→Prop}:∀ (l:List Oper) (s:St) (K:St→Prop),(∀ o ∈ l,∀ d,o.dst = some d→d < G.n)→zs2 P T ops l s K →
 (∀ s' a' w',K s'→Sim G s' a' w'→Q .normal a' w')→∀ a w,Sim G s a w→wpList P ops Q l a w:=by
 intro l
 induction l with
 | nil=>intro s K _ hk hQ a w hs;exact hQ s a w hk hs
 | cons o os ih =>
   intro s K hd hk hQ a w hs
   have hd0:=hd o (by simp)
   have run:∀ s1,Sim G s1 a w→(zd2 P T s1 o fun s2=>zs2 P T ops os s2 K)→o.wp P a w (wpList P ops Q os) Q:=fun s1 hs1 hk =>
    zAo hT hd0 hk hs1 fun s2 a' w' hk2 h'=>ih s2 K (fun o ho=>hd o (by simp [ho])) hk2 hQ a' w' h'
   simp only [wpList]
   simp only [zs2,zv6] at hk
   cases hg:o.guard with
   | none =>
     simp only [hg] at hk
     rw [if_pos (by simp [Region.wanted,hg])]
     exact .inl (run s hs hk)
   | some jw =>
     obtain ⟨j,want⟩:=jw
     simp only [hg] at hk
     split at hk
     ·rename_i d hdj
      split at hk
      ·rename_i b hb
       have hval:a.tmps.getD d undef = .bool b:=by
        obtain ⟨E,hs⟩:=hs
        have:=hs.slots d
        rw [hb] at this
        exact this.v_eq
       have hy:yielded ops a.tmps j = some b:=by
        have hsz:a.tmps[d]? = some (.bool b):=by
         rw [Array.getD_eq_getD_getElem?] at hval
         cases h:a.tmps[d]? with
         | none=>rw [h] at hval;simp [undef] at hval
         | some x=>rw [h] at hval;simp at hval;rw [hval]
        simp [yielded,hdj,hsz]
       by_cases hbw:b = want
       ·rw [if_pos (by simp [Region.wanted,hg,hy,hbw])]
        exact .inl (run _ (zv7 (by rw [hb,hbw]) hs) (hk.1 hbw))
       ·have hbw':b = !want:=by cases b <;> cases want <;> simp_all
        rw [if_neg (by simp [Region.wanted,hg,hy,hbw])]
        have h1:=zv7 (d:=d) (p:=.v (.bool !want)) (by rw [hb,hbw']) hs
        exact ih _ K (fun o ho=>hd o (by simp [ho])) (hk.2 hbw') hQ _ w (zoR hd0 h1)
      ·rename_i cs hb
       have hval:a.tmps.getD d undef = .tuple cs:=by
        obtain ⟨E,hs⟩:=hs
        have:=hs.slots d
        rw [hb] at this
        exact this.v_eq
       rw [if_neg (by simp [Region.wanted,hg,zhv hdj hval])]
       exact ih _ K (fun o ho=>hd o (by simp [ho])) hk hQ _ w (zoR hd0 hs)
      ·exact hk.elim
     ·exact hk.elim
end
end Go.Abs

/- DERIVED by an AI agent. A region that draws its order: every order comes to what the text's order comes to. No program in sight. -/
namespace Go.Abs
set_option linter.unusedSimpArgs false
inductive Tc where
 | ids (l:List Nat)
 | res (d:Nat)
def Tc.has:Tc→Nat→Bool
 | .ids l,k=>l.any fun a=>a % 1000 == k % 1000
 | .res d,k=>k % 1000 == d % 1000
structure Ent where
 rd:List Nat
 tc:Tc
def Ent.looks (e:Ent) (k:Nat):Bool:=e.rd.any fun a=>a % 1000 == k % 1000
theorem Tc.has_mod {t:Tc} {k k':Nat} (h:k % 1000 = k' % 1000):t.has k = t.has k':=by
 cases t with
 | ids l=>simp only [Tc.has,h]
 | res d=>simp only [Tc.has,h]
theorem zsY {l:List Nat} {k:Nat}:(Tc.ids l).has k = true ↔ ∃ a ∈ l,a % 1000 = k % 1000:=by
 simp only [Tc.has,List.any_eq_true,beq_iff_eq]
def zoQ (o:Oper):Bool :=
 match o.op with
 | .move _=>true
 | .assign _=>true
 | .pick _ _ _=>true
 | .binOp _ _ _ _ _=>true
 | .unOp _ _ _=>true
 | .extract _ _=>true
 | .makeFunc _ _ _=>true
 | .field _ _ _=>true
 | .index _ _ _=>true
 | _=>false
def zCA (ops:Array Oper) (s:St) (o:Oper):Option Bool :=
 match o.guard with
 | none=>some true
 | some (j,want)=>match (ops[j]?).bind (·.dst) with | some d=>(match s.sl d with | .v (.bool b)=>some (b == want) | .v (.tuple _)=>some false | _=>none) | none=>none
def zsZ (ops:Array Oper) (o:Oper):List Nat :=
 o.dst.toList ++ (o.op.operands.toList.filterMap fun | .tmp t=>some t | _=>none) ++ (match o.guard with | some (j,_)=>((ops[j]?).bind (·.dst)).toList | none=>[])
abbrev zJG:=Nat→Row
structure Stp where
 val:PV
 rows:zJG
 e:Ent
def St.step (s:St) (o:Oper) (x:Stp):St:=(St.mk s.sl x.rows).put o.dst x.val
def St.stepIn (s:St) (o:Oper) (x:Stp):St:=(St.mk s.sl fun k=>if x.e.tc.has k = true then x.rows k else s.rw k).put o.dst x.val
structure Local (ops:Array Oper) (o:Oper) (s s':St):Prop where
 ev:∀ x ∈ o.op.operands,s'.ev x = s.ev x
inductive StepOk [zae] (P:Program) (G:Ghost) (ops:Array Oper) (s:St) (o:Oper) (x:Stp):Prop
 | skip (hg:zCA ops s o = some false) (hp:x.val = .v undef) (hr:x.rows = s.rw) (ht:x.e.tc = .ids []):StepOk P G ops s o x
 | step (hg:zCA ops s o = some true) (hr:∀ k,x.e.tc.has k = false→x.rows k = s.rw k)
  (he:∀ s':St,(∀ k,x.e.looks k = true ∨ x.e.tc.has k = true→s'.rw k = s.rw k)→(∀ y ∈ o.op.operands,s'.ev y = s.ev y)→za5 P G s' o (s'.stepIn o x)):StepOk P G ops s o x
inductive Tr [zae] (P:Program) (G:Ghost) (ops:Array Oper):List Oper→St→List Stp→St→Prop
 | nil (s:St):Tr P G ops [] s [] s
 | cons {o:Oper} {os:List Oper} {s s':St} {x:Stp} {l:List Stp} (h:StepOk P G ops s o x) (t:Tr P G ops os (s.step o x) l s'):Tr P G ops (o :: os) s (x :: l) s'
def zs0:List Oper→List Stp→St→Nat→St
 | o :: os,x :: l,s,i + 1=>zs0 os l (s.step o x) i
 | _,_,s,_=>s
section
variable {P:Program} {T:Tab} {G:Ghost} {ops:Array Oper}
theorem zfw (l:List Oper) (tr:List Stp) (s:St):zs0 l tr s 0 = s:=by cases l <;> cases tr <;> rfl
theorem Tr.length [zae] {l:List Oper} {s s':St} {tr:List Stp} (h:Tr P G ops l s tr s'):tr.length = l.length:=by
 induction h with
 | nil=>rfl
 | cons _ _ ih=>simp [ih]
theorem Tr.last [zae] {l:List Oper} {s s':St} {tr:List Stp} (h:Tr P G ops l s tr s'):zs0 l tr s l.length = s':=by
 induction h with
 | nil=>rfl
 | cons _ _ ih=>exact ih
theorem Tr.at [zae] {l:List Oper} {s s':St} {tr:List Stp} (h:Tr P G ops l s tr s'):∀ i (a:i < l.length) (b:i < tr.length),StepOk P G ops (zs0 l tr s i) l[i] tr[i]∧zs0 l tr s (i + 1) = (zs0 l tr s i).step l[i] tr[i]:=by
 induction h with
 | nil=>intro i a;simp at a
 | cons h _ ih =>
   intro i a b
   cases i with
   | zero =>
     refine ⟨by rw [zfw];exact h,?_⟩
     rw [zfw]
     exact zfw _ _ _
   | succ i =>
     exact ih i (by simpa using a) (by simpa using b)
def zbm:Nat→(Nat→Bool)→Option Nat
 | 0,_=>none
 | n + 1,p=>if p n = true then some n else zbm n p
theorem zcF:∀ (n:Nat) (p q:Nat→Bool),(∀ k,k < n→p k = q k)→zbm n p = zbm n q:=by
 intro n
 induction n with
 | zero=>intro p q _;rfl
 | succ n ih=>intro p q h;simp only [zbm];rw [h n (by omega),ih p q fun k hk=>h k (by omega)]
theorem zle [zae]:∀ (n i:Nat) (p q:Nat→Bool),i ≤ n→(∀ k,k < i→p k = q k)→(∀ k,i ≤ k→k < n→p k = false)→zbm n p = zbm i q:=by
 intro n
 induction n with
 | zero=>intro i p q h _ _;obtain rfl:i = 0:=by omega
         rfl
 | succ n ih =>
   intro i p q h h1 h2
   by_cases hi:i = n + 1
   ·subst hi;exact zcF _ _ _ h1
   ·simp only [zbm]
    rw [h2 n (by omega) (by omega)]
    exact ih i p q (by omega) h1 fun k a b=>h2 k a (by omega)
theorem zi4:∀ (n i:Nat) (p:Nat→Bool),i < n→p i = true→(∀ k,i < k→k < n→p k = false)→zbm n p = some i:=by
 intro n
 induction n with
 | zero=>intro i p h;omega
 | succ n ih =>
   intro i p h h1 h2
   by_cases hi:i = n
   ·subst hi;simp [zbm,h1]
   ·simp only [zbm]
    rw [h2 n (by omega) (by omega)]
    exact ih i p (by omega) h1 fun k a b=>h2 k a (by omega)
def zjm (l:List Oper) (tr:List Stp) (s:St) (D:Nat→Bool) (t:Nat):PV :=
 match zbm l.length (fun k=>D k && ((l[k]?).bind (·.dst) == some t)) with
 | some k=>(tr[k]?.map (·.val)).getD .junk
 | none=>s.sl t
def zcn (tr:List Stp) (k j:Nat):Bool:=(tr[j]?.map fun x=>x.e.tc.has k).getD false
def zjn (l:List Oper) (tr:List Stp) (s:St) (D:Nat→Bool):zJG:=fun k =>
 match zbm l.length (fun j=>D j && zcn tr k j) with
 | some j=>(tr[j]?.map (fun x=>x.rows k)).getD (s.rw k)
 | none=>s.rw k
theorem zGe (s:St) (o:Oper) (x:Stp) (t:Nat):(s.step o x).sl t = if o.dst = some t then x.val else s.sl t:=by
 unfold St.step St.put
 cases h:o.dst with
 | none=>simp
 | some d =>
   simp only [Option.some.injEq]
   by_cases e:t = d
   ·subst e;simp
   ·rw [if_neg e,if_neg (fun h=>e h.symm)]
theorem zGf (s:St) (o:Oper) (x:Stp):(s.step o x).rw = x.rows:=by unfold St.step St.put;cases o.dst <;> rfl
theorem Tr.slots [zae] {l:List Oper} {s s':St} {tr:List Stp} (h:Tr P G ops l s tr s') (t:Nat):∀ i,i ≤ l.length →
 (zs0 l tr s i).sl t = match zbm i (fun k=>(l[k]?).bind (·.dst) == some t) with | some k=>(tr[k]?.map (·.val)).getD .junk | none=>s.sl t:=by
 intro i
 induction i with
 | zero=>intro _;rw [zfw];rfl
 | succ i ih =>
   intro hi
   have hl:i < tr.length:=by rw [h.length];omega
   rw [(h.at i (by omega) hl).2,zGe]
   simp only [zbm]
   have e:l[i]? = some l[i]:=List.getElem?_eq_getElem (by omega)
   by_cases hd:l[i].dst = some t
   ·rw [if_pos hd,if_pos (by simp [e,hd])]
    simp [List.getElem?_eq_getElem hl]
   ·rw [if_neg hd,if_neg (by simp [e,hd])]
    exact ih (by omega)
theorem Tr.rows [zae] {l:List Oper} {s s':St} {tr:List Stp} (h:Tr P G ops l s tr s') (k:Nat):∀ i,i ≤ l.length →
 (zs0 l tr s i).rw k = match zbm i (zcn tr k) with | some j=>(tr[j]?.map (fun x=>x.rows k)).getD (s.rw k) | none=>s.rw k:=by
 intro i
 induction i with
 | zero=>intro _;rw [zfw];rfl
 | succ i ih =>
   intro hi
   have hl:i < tr.length:=by rw [h.length];omega
   obtain ⟨hok,hst⟩:=h.at i (by omega) hl
   rw [hst,zGf]
   simp only [zbm]
   have e:tr[i]? = some tr[i]:=List.getElem?_eq_getElem hl
   by_cases hd:zcn tr k i = true
   ·rw [if_pos hd]
    simp [e]
   ·rw [if_neg hd,← ih (by omega)]
    have hd':tr[i].e.tc.has k = false:=by simpa [zcn,e] using hd
    cases hok with
    | skip _ _ hr _=>rw [hr]
    | step _ hr _=>exact hr k hd'
end
end Go.Abs

/- DERIVED by an AI agent. The look at a region's edges; every order it allows. No program in sight. -/
namespace Go.Abs
set_option linter.unusedSimpArgs false
def zbK (o:Oper):List Nat:=(o.after.toList.filter fun e=>Region.binds .any e).map (·.on)
def zgo (ms:List Nat):List Nat→Nat
 | []=>0
 | k :: ks=>2 ^ k ||| ms.getD k 0 ||| zgo ms ks
def zmv:List Oper→List Nat→List Nat
 | [],ms=>ms
 | o :: os,ms=>zmv os (ms ++ [zgo ms (zbK o)])
theorem zxb (ms:List Nat):∀ (ks:List Nat) (i:Nat),(zgo ms ks).testBit i = true→∃ k ∈ ks,i = k ∨ (ms.getD k 0).testBit i = true:=by
 intro ks
 induction ks with
 | nil=>intro i h;simp [zgo] at h
 | cons k ks ih =>
   intro i h
   simp only [zgo,Nat.testBit_or,Bool.or_eq_true] at h
   rcases h with (h | h) | h
   ·exact ⟨k,by simp,.inl (by rw [Nat.testBit_two_pow] at h;simp at h;exact h.symm)⟩
   ·exact ⟨k,by simp,.inr h⟩
   ·obtain ⟨k',hk,h⟩:=ih i h
    exact ⟨k',by simp [hk],h⟩
def zJF (l:List Oper) (ms:List Nat) (n:Nat):Prop:=∀ j,j < n→∀ i,(ms.getD j 0).testBit i = true→∃ k ∈ (l[j]?.map zbK).getD [],i = k ∨ (ms.getD k 0).testBit i = true
theorem zxc [zae] (l:List Oper):∀ (os pre:List Oper) (ms:List Nat),l = pre ++ os→ms.length = pre.length→zJF l ms pre.length→zJF l (zmv os ms) l.length:=by
 intro os
 induction os with
 | nil=>intro pre ms h1 h2 h3;simp at h1;subst h1;exact h3
 | cons o os ih =>
   intro pre ms h1 h2 h3
   have hl:l[pre.length]? = some o:=by rw [h1];simp
   refine ih (pre ++ [o]) (ms ++ [zgo ms (zbK o)]) (by simp [h1]) (by simp [h2]) fun j hj i hb=>?_
   have keep:∀ k,(ms.getD k 0).testBit i = true→((ms ++ [zgo ms (zbK o)]).getD k 0).testBit i = true:=fun k hk=>by
    by_cases hlt:k < ms.length
    ·simpa [List.getD,List.getElem?_append_left hlt] using hk
    ·simp [List.getD,List.getElem?_eq_none (by omega:ms.length ≤ k)] at hk
   by_cases hlt:j < ms.length
   ·have hb':(ms.getD j 0).testBit i = true:=by simpa [List.getD,List.getElem?_append_left hlt] using hb
    obtain ⟨k,hk,h⟩:=h3 j (by omega) i hb'
    exact ⟨k,hk,h.imp id (keep k)⟩
   ·obtain rfl:j = pre.length:=by simp at hj;omega
    have hb':(zgo ms (zbK o)).testBit i = true:=by
     have:(ms ++ [zgo ms (zbK o)]).getD pre.length 0 = zgo ms (zbK o):=by
      rw [← h2];simp [List.getD]
     rwa [this] at hb
    obtain ⟨k,hk,h⟩:=zxb ms _ i hb'
    exact ⟨k,by simpa [hl] using hk,h.imp id (keep k)⟩
def zoO (ops:Array Oper) (a b:Oper):Bool :=
 (match a.dst with | some t=>(zsZ ops b).contains t | none=>false) || (match b.dst with | some t=>(zsZ ops a).contains t | none=>false)
def zc2:Nat→(Nat→Bool)→Bool
 | 0,_=>true
 | n + 1,p=>p n && zc2 n p
theorem zey:∀ (n:Nat) (p:Nat→Bool),zc2 n p = true→∀ k,k < n→p k = true:=by
 intro n
 induction n with
 | zero=>intro p _ k hk;omega
 | succ n ih =>
   intro p h k hk
   simp only [zc2,Bool.and_eq_true] at h
   by_cases e:k = n
   ·subst e;exact h.1
   ·exact ih p h.2 k (by omega)
def zgp:Tc→Tc→Bool
 | .ids l,t=>l.any t.has
 | .res d,.ids l=>l.any (Tc.res d).has
 | .res d,.res d'=>d % 1000 == d' % 1000
theorem zrJ [zae] {a b:Tc} {k:Nat} (h1:a.has k = true) (h2:b.has k = true):zgp a b = true:=by
 cases a with
 | ids l =>
   obtain ⟨x,hx,e⟩:=zsY.1 h1
   simp only [zgp,List.any_eq_true]
   exact ⟨x,hx,by rw [Tc.has_mod e];exact h2⟩
 | res d =>
   cases b with
   | ids l =>
     obtain ⟨x,hx,e⟩:=zsY.1 h2
     simp only [zgp,List.any_eq_true]
     exact ⟨x,hx,by rw [Tc.has_mod e];exact h1⟩
   | res d'=>simp only [zgp,Tc.has,beq_iff_eq] at h1 h2 ⊢;omega
def znV (a b:Ent):Bool:=a.rd.any b.tc.has || b.rd.any a.tc.has || zgp a.tc b.tc
theorem zGd [zae] {a b:Ent} {k:Nat} (h1:a.looks k = true ∨ a.tc.has k = true) (h2:b.tc.has k = true):znV a b = true∧znV b a = true:=by
 unfold znV
 rcases h1 with h1 | h1
 ·have:a.rd.any b.tc.has = true:=by
   unfold Ent.looks at h1
   simp only [List.any_eq_true,beq_iff_eq] at h1
   obtain ⟨x,hx,e⟩:=h1
   exact List.any_eq_true.2 ⟨x,hx,by rw [Tc.has_mod e];exact h2⟩
  simp [this]
 ·simp [zrJ h1 h2,zrJ h2 h1]
def zmw (ops:Array Oper) (es:List Ent):Bool :=
 zc2 es.length fun j=>zc2 j fun i=>match es[i]?,es[j]? with
  | some a,some b=>!znV a b || ((zmv ops.toList []).getD j 0).testBit i
  | _,_=>true
def zld (ops:Array Oper):Bool :=
 zc2 ops.size fun j=>match ops[j]? with
  | none=>true
  | some oj=>(zbK oj).all (· < j) && zc2 j fun i=>match ops[i]? with
   | none=>true
   | some oi=>!zoO ops oi oj || ((zmv ops.toList []).getD j 0).testBit i
section
variable {P:Program} {T:Tab} {G:Ghost} {ops:Array Oper}
structure Ordered (ops:Array Oper):Prop where
 low:∀ j oj,ops[j]? = some oj→∀ k ∈ zbK oj,k < j
 bef:∀ i j oi oj,i < j→ops[i]? = some oi→ops[j]? = some oj→zoO ops oi oj = true→((zmv ops.toList []).getD j 0).testBit i = true
theorem zxd [zae] (h:zld ops = true):Ordered ops:=by
 have key:∀ j oj,ops[j]? = some oj→((zbK oj).all (· < j) && zc2 j fun i=>match ops[i]? with
  | none=>true
  | some oi=>!zoO ops oi oj || ((zmv ops.toList []).getD j 0).testBit i) = true:=fun j oj hj=>by
  have hlt:j < ops.size:=(Array.getElem?_eq_some_iff.1 hj).1
  have:=zey _ _ h j hlt
  simpa only [hj] using this
 refine ⟨fun j oj hj k hk=>?_,fun i j oi oj hij hi hj hm=>?_⟩
 ·have:=key j oj hj
  simp only [Bool.and_eq_true,List.all_eq_true] at this
  simpa using this.1 k hk
 ·have:=key j oj hj
  simp only [Bool.and_eq_true] at this
  have:=zey _ _ this.2 i hij
  simp only [hi] at this
  simpa [hm] using this
def zAn (ops:Array Oper) (es:List Ent):Prop:=∀ (i j:Nat) (a b:Ent),i < j→es[i]? = some a→es[j]? = some b→znV a b = true→((zmv ops.toList []).getD j 0).testBit i = true
theorem zCT [zae] {es:List Ent} (h:zmw ops es = true):zAn ops es:=by
 intro i j a b hij hi hj hc
 have hlt:j < es.length:=(List.getElem?_eq_some_iff.1 hj).1
 have:=zey _ _ (zey _ _ h j hlt) i hij
 simp only [hi,hj,hc] at this
 simpa using this
def znW (ops:Array Oper) (D:Nat→Bool):Prop:=∀ j oj,ops[j]? = some oj→D j = true→∀ k ∈ zbK oj,D k = true
theorem zdu [zae] (ho:Ordered ops) {D:Nat→Bool} (hc:znW ops D):∀ (j:Nat) (oj:Oper),ops[j]? = some oj→(∀ k ∈ zbK oj,D k = true)→∀ i,((zmv ops.toList []).getD j 0).testBit i = true→D i = true:=by
 intro j
 induction j using Nat.strongRecOn with
 | _ j ih =>
   intro oj hj hd i hb
   have hlt:j < ops.size:=(Array.getElem?_eq_some_iff.1 hj).1
   have hg:=zxc ops.toList ops.toList [] [] rfl rfl (fun j hj=>absurd hj (by simp)) j (by simpa using hlt) i hb
   obtain ⟨k,hk,h⟩:=hg
   have hjl:ops.toList[j]? = some oj:=by simpa using hj
   rw [hjl] at hk
   simp at hk
   rcases h with rfl | h
   ·exact hd i hk
   ·have hkj:=ho.low j oj hj k hk
    have hks:k < ops.size:=by omega
    exact ih k hkj ops[k] (Array.getElem?_eq_getElem hks) (hc k ops[k] (Array.getElem?_eq_getElem hks) (hd k hk)) i h
def stD (ops:Array Oper) (tr:List Stp) (s:St) (D:Nat→Bool):St:=⟨zjm ops.toList tr s D,zjn ops.toList tr s D⟩
variable {s s':St} {tr:List Stp}
theorem znX [zae] (ho:Ordered ops) (ht:Tr P G ops ops.toList s tr s') {D:Nat→Bool} (hc:znW ops D) {i:Nat} {o:Oper} (hi:ops[i]? = some o) (hD:D i = false) (hd:∀ k ∈ zbK o,D k = true)
 {t:Nat} (hn:t ∈ zsZ ops o):zjm ops.toList tr s D t = (zs0 ops.toList tr s i).sl t:=by
 have hlt:i < ops.size:=(Array.getElem?_eq_some_iff.1 hi).1
 rw [ht.slots t i (by simp;omega)]
 unfold zjm
 have e:zbm ops.toList.length (fun k=>D k && ((ops.toList[k]?).bind (·.dst) == some t)) = zbm i (fun k=>(ops.toList[k]?).bind (·.dst) == some t):=by
  refine zle _ i _ _ (by simp;omega) (fun k hk=>?_) (fun k hk1 hk2=>?_)
  ·cases hb:((ops.toList[k]?).bind (·.dst) == some t) with
   | false=>simp
   | true =>
     have hks:k < ops.size:=by omega
     have hok:ops[k]? = some ops[k]:=Array.getElem?_eq_getElem hks
     have hdst:ops[k].dst = some t:=by simpa [hok] using hb
     have hm:zoO ops ops[k] o = true:=by simp [zoO,hdst,hn]
     have:=zdu ho hc i o hi hd k (ho.bef k i _ _ hk hok hi hm)
     simp [this]
  ·by_cases hb:((ops.toList[k]?).bind (·.dst) == some t) = true
   ·by_cases hki:k = i
    ·subst hki;simp [hD]
    ·have hks:k < ops.size:=by simpa using hk2
     have hok:ops[k]? = some ops[k]:=Array.getElem?_eq_getElem hks
     have hdst:ops[k].dst = some t:=by simpa [hok] using hb
     have hm:zoO ops o ops[k] = true:=by simp [zoO,hdst,hn]
     cases hDk:D k with
     | false=>simp
     | true =>
       have:=zdu ho hc k _ hok (hc k _ hok hDk) i (ho.bef i k _ _ (by omega) hi hok hm)
       rw [hD] at this;cases this
   ·rw [Bool.not_eq_true] at hb
    simp only [hb,Bool.and_false]
 rw [e]
theorem zoP [zae] (hl:zAn ops (tr.map (·.e))) {i j k:Nat} {x:Stp} (hx:tr[i]? = some x) (hk:x.e.looks k = true ∨ x.e.tc.has k = true) (hj:zcn tr k j = true) :
 (j < i→((zmv ops.toList []).getD i 0).testBit j = true)∧(i < j→((zmv ops.toList []).getD j 0).testBit i = true):=by
 unfold zcn at hj
 cases hy:tr[j]? with
 | none=>rw [hy] at hj;cases hj
 | some y =>
   rw [hy] at hj
   obtain ⟨c1,c2⟩:=zGd hk (show y.e.tc.has k = true by simpa using hj)
   have e1:(tr.map (·.e))[i]? = some x.e:=by simp [hx]
   have e2:(tr.map (·.e))[j]? = some y.e:=by simp [hy]
   exact ⟨fun h=>hl j i _ _ h e2 e1 c2,fun h=>hl i j _ _ h e1 e2 c1⟩
theorem zxe [zae] (ho:Ordered ops) (hl:zAn ops (tr.map (·.e))) (ht:Tr P G ops ops.toList s tr s') {D:Nat→Bool} (hc:znW ops D) {i:Nat} {o:Oper} (hi:ops[i]? = some o) (hD:D i = false) (hd:∀ k ∈ zbK o,D k = true)
 {x:Stp} (hx:tr[i]? = some x) {k:Nat} (hk:x.e.looks k = true ∨ x.e.tc.has k = true):zjn ops.toList tr s D k = (zs0 ops.toList tr s i).rw k:=by
 have hlt:i < ops.size:=(Array.getElem?_eq_some_iff.1 hi).1
 rw [ht.rows k i (by simp;omega)]
 unfold zjn
 have e:zbm ops.toList.length (fun j=>D j && zcn tr k j) = zbm i (zcn tr k):=by
  refine zle _ i _ _ (by simp;omega) (fun j hj=>?_) (fun j hj1 hj2=>?_)
  ·cases hb:zcn tr k j with
   | false=>simp
   | true =>
     have:=zdu ho hc i o hi hd j ((zoP hl hx hk hb).1 hj)
     simp [this]
  ·cases hb:zcn tr k j with
   | false=>simp
   | true =>
     by_cases hki:j = i
     ·subst hki;simp [hD]
     ·have hks:j < ops.size:=by simpa using hj2
      have hok:ops[j]? = some ops[j]:=Array.getElem?_eq_getElem hks
      cases hDk:D j with
      | false=>simp
      | true =>
        have:=zdu ho hc j _ hok (hc j _ hok hDk) i ((zoP hl hx hk hb).2 (by omega))
        rw [hD] at this;cases this
 rw [e]
theorem zCU [zae] (ho:Ordered ops) (hl:zAn ops (tr.map (·.e))) {D:Nat→Bool} (hc:znW ops D) {i:Nat} {o:Oper} (hi:ops[i]? = some o) (hD:D i = false)
 {x:Stp} (hx:tr[i]? = some x) :
 stD ops tr s (fun k=>D k || k == i) = (stD ops tr s D).stepIn o x:=by
 have hlt:i < ops.size:=(Array.getElem?_eq_some_iff.1 hi).1
 have hil:ops.toList[i]? = some o:=by simpa using hi
 have e1:(stD ops tr s (fun k=>D k || k == i)).sl = ((stD ops tr s D).stepIn o x).sl:=by
  funext t
  have es:((stD ops tr s D).stepIn o x).sl t = if o.dst = some t then x.val else (stD ops tr s D).sl t:=by
   unfold St.stepIn St.put
   cases h:o.dst with
   | none=>simp
   | some d =>
     simp only [Option.some.injEq]
     by_cases e:t = d
     ·subst e;simp
     ·rw [if_neg e,if_neg (fun h=>e h.symm)]
  rw [es]
  by_cases hdst:o.dst = some t
  ·rw [if_pos hdst]
   show zjm _ _ _ _ t = _
   unfold zjm
   rw [zi4 _ i _ (by simpa using hlt) (by simp [hil,hdst]) (fun k hk1 hk2=>?_)]
   ·simp [hx]
   ·have hk2':k < ops.size:=by simpa using hk2
    have hok:ops[k]? = some ops[k]:=Array.getElem?_eq_getElem hk2'
    have hne:(k == i) = false:=by simp;omega
    simp only [hne,Bool.or_false]
    cases hDk:D k with
    | false=>simp
    | true =>
      by_cases hd:ops[k].dst = some t
      ·have hm:zoO ops o ops[k] = true:=by simp [zoO,hdst,zsZ,hd]
       have:=zdu ho hc k _ hok (hc k _ hok hDk) i (ho.bef i k _ _ hk1 hi hok hm)
       rw [hD] at this;cases this
      ·simp [hok,hd]
  ·rw [if_neg hdst]
   show zjm _ _ _ _ t = zjm _ _ _ D t
   unfold zjm
   rw [zcF _ _ (fun k=>D k && ((ops.toList[k]?).bind (·.dst) == some t)) fun k hk=>?_]
   by_cases hki:k = i
   ·subst hki;simp [hil,hdst]
   ·have:(k == i) = false:=by simp [hki]
    simp [this]
 have e2:(stD ops tr s (fun k=>D k || k == i)).rw = ((stD ops tr s D).stepIn o x).rw:=by
  funext k
  have es:((stD ops tr s D).stepIn o x).rw k = if x.e.tc.has k = true then x.rows k else (stD ops tr s D).rw k:=by unfold St.stepIn St.put;cases o.dst <;> rfl
  rw [es]
  have hti:zcn tr k i = x.e.tc.has k:=by simp [zcn,hx]
  by_cases hw:x.e.tc.has k = true
  ·rw [if_pos hw]
   show zjn _ _ _ _ k = _
   unfold zjn
   rw [zi4 _ i _ (by simpa using hlt) (by simp [hti,hw]) (fun j hk1 hk2=>?_)]
   ·simp [hx]
   ·have hk2':j < ops.size:=by simpa using hk2
    have hok:ops[j]? = some ops[j]:=Array.getElem?_eq_getElem hk2'
    have hne:(j == i) = false:=by simp;omega
    simp only [hne,Bool.or_false]
    cases hDk:D j with
    | false=>simp
    | true =>
      cases hb:zcn tr k j with
      | false=>simp
      | true =>
        have:=zdu ho hc j _ hok (hc j _ hok hDk) i ((zoP hl hx (.inr hw) hb).2 hk1)
        rw [hD] at this;cases this
  ·rw [if_neg hw]
   show zjn _ _ _ _ k = zjn _ _ _ D k
   unfold zjn
   rw [zcF _ _ (fun j=>D j && zcn tr k j) fun j hk=>?_]
   by_cases hki:j = i
   ·subst hki;simp [hti,hw]
   ·have:(j == i) = false:=by simp [hki]
    simp [this]
 cases hA:stD ops tr s (fun k=>D k || k == i) with
 | mk a b =>
   cases hB:(stD ops tr s D).stepIn o x with
   | mk c d =>
     rw [hA,hB] at e1 e2
     simp only at e1 e2
     rw [e1,e2]
end
end Go.Abs

/- DERIVED by an AI agent. A region that draws its order, carried out. No program in sight. -/
namespace Go.Abs
set_option linter.unusedSimpArgs false
section
variable {P:Program} {T:Tab} {G:Ghost} {ops:Array Oper}
theorem zgs.congr [zae] {s s1:St} {o:Oper} {p:PV} (h:zgs P G s o p) (hr:s1.rw = s.rw) (he:∀ x ∈ o.op.operands,s1.ev x = s.ev x):zgs P G s1 o p :=
 fun E a w hR hw hx K Q hK=>h E a w (hR.trans hr) hw (fun x hx'=>by rw [← he x hx'];exact hx x hx') K Q hK
theorem zAk:∀ (l:List Bool) (i:Nat),l[i]? = some false→(l.set i true).count false + 1 = l.count false:=by
 intro l
 induction l with
 | nil=>intro i h;simp at h
 | cons x xs ih =>
   intro i h
   cases i with
   | zero=>simp at h;subst h;simp
   | succ i =>
     have:=ih i (by simpa using h)
     simp only [List.set_cons_succ,List.count_cons]
     omega
theorem zCS [zae] {s s':St} {tr:List Stp} (ho:Ordered ops) (ht:Tr P G ops ops.toList s tr s') {D:Nat→Bool} (hc:znW ops D) {i:Nat} {o:Oper} (hi:ops[i]? = some o) (hD:D i = false) (hd:∀ k ∈ zbK o,D k = true) :
 ∀ x ∈ o.op.operands,(stD ops tr s D).ev x = (zs0 ops.toList tr s i).ev x:=by
 intro x hx
 cases x with
 | tmp t =>
   refine znX ho ht hc hi hD hd ?_
   simp only [zsZ,List.mem_append,List.mem_filterMap]
   exact .inl (.inr ⟨.tmp t,by simpa using hx,rfl⟩)
 | const c=>rfl
 | func f=>rfl
 | global g=>rfl
theorem zGc [zae] {s s':St} {tr:List Stp} (ht:Tr P G ops ops.toList s tr s') {D:Nat→Bool} (hD:∀ k,k < ops.size→D k = true):stD ops tr s D = s':=by
 have hl:=ht.last
 rw [← hl]
 unfold stD
 have e1:zjm ops.toList tr s D = (zs0 ops.toList tr s ops.toList.length).sl:=by
  funext t
  rw [ht.slots t _ (Nat.le_refl _)]
  unfold zjm
  rw [zcF _ _ (fun k=>(ops.toList[k]?).bind (·.dst) == some t) fun k hk=>by rw [hD k (by simpa using hk)];simp]
 have e2:zjn ops.toList tr s D = (zs0 ops.toList tr s ops.toList.length).rw:=by
  funext k
  rw [ht.rows k _ (Nat.le_refl _)]
  unfold zjn
  rw [zcF _ _ (zcn tr k) fun j hk=>by rw [hD j (by simpa using hk)];simp]
 rw [e1,e2]
theorem zrI {listed:Array Bool} {i:Nat} (h:i ∈ Region.ready .any ops listed):∃ o,ops[i]? = some o∧listed.getD i true = false∧∀ k ∈ zbK o,listed.getD k false = true:=by
 simp only [Region.ready,List.mem_filter,List.mem_range,Bool.and_eq_true,Bool.not_eq_true'] at h
 obtain ⟨hlt,h1,h2⟩:=h
 have hok:ops[i]? = some ops[i]:=Array.getElem?_eq_getElem hlt
 refine ⟨ops[i],hok,h1,fun k hk=>?_⟩
 rw [hok] at h2
 simp only [Option.map_some,Option.getD_some,Array.all_eq_true'] at h2
 simp only [zbK,List.mem_map,List.mem_filter] at hk
 obtain ⟨e,⟨he1,he2⟩,rfl⟩:=hk
 have:=h2 e (by simpa using he1)
 simpa [he2] using this
theorem zAl {listed:Array Bool} {i:Nat} {o:Oper} (hok:ops[i]? = some o) (h1:listed.getD i true = false) (h2:∀ k ∈ zbK o,listed.getD k false = true):i ∈ Region.ready .any ops listed:=by
 have hlt:i < ops.size:=(Array.getElem?_eq_some_iff.1 hok).1
 simp only [Region.ready,List.mem_filter,List.mem_range,Bool.and_eq_true,Bool.not_eq_true']
 refine ⟨hlt,h1,?_⟩
 rw [hok]
 simp only [Option.map_some,Option.getD_some,Array.all_eq_true']
 intro e he
 by_cases hb:Region.binds .any e = true
 ·have:=h2 e.on (by simp only [zbK,List.mem_map,List.mem_filter];exact ⟨e,⟨by simpa using he,hb⟩,rfl⟩)
  simp [this]
 ·simp [hb]
theorem zAm [zae] {s s':St} {tr:List Stp} (ho:Ordered ops) (hln:zAn ops (tr.map (·.e))) (ht:Tr P G ops ops.toList s tr s') (hdst:∀ o ∈ ops,∀ d,o.dst = some d→d < G.n) {Q:Exit→Act→World→Prop}
 (hQ:∀ a w,Sim G s' a w→Q .normal a w):∀ (fuel:Nat) (listed:Array Bool) (a:Act) (w:World),listed.size = ops.size→znW ops (fun k=>listed.getD k false) →
  Sim G (stD ops tr s (fun k=>listed.getD k false)) a w→listed.toList.count false ≤ fuel→wpAny P .any ops Q fuel listed a w:=by
 have done:∀ (listed:Array Bool) (a:Act) (w:World),listed.size = ops.size→Sim G (stD ops tr s (fun k=>listed.getD k false)) a w→Region.ready .any ops listed = []→Q .normal a w:=by
  intro listed a w hsz hs hr
  refine hQ a w ?_
  rw [zGc ht] at hs
  ·exact hs
  ·intro k hk
   induction k using Nat.strongRecOn with
   | _ k ih =>
     cases hb:listed.getD k false with
     | true=>rfl
     | false =>
       have hok:ops[k]? = some ops[k]:=Array.getElem?_eq_getElem hk
       have hmem:=zAl (listed:=listed) hok (by
        rw [Array.getD_eq_getD_getElem?] at hb ⊢
        rw [Array.getElem?_eq_getElem (by omega)] at hb ⊢
        simpa using hb) fun j hj=>ih j (ho.low k _ hok j hj) (by have:=ho.low k _ hok j hj;omega)
       rw [hr] at hmem
       simp at hmem
 intro fuel
 induction fuel with
 | zero =>
   intro listed a w hsz hc hs hn
   have hall:∀ k,k < ops.size→listed.getD k true = true:=fun k hk=>by
    have hz:listed.toList.count false = 0:=by omega
    rw [List.count_eq_zero] at hz
    rw [Array.getD_eq_getD_getElem?,Array.getElem?_eq_getElem (by omega)]
    cases hb:listed[k] with
    | true=>rfl
    | false=>exact absurd (by rw [← hb];simp) hz
   have hr:Region.ready .any ops listed = []:=by
    apply List.eq_nil_iff_forall_not_mem.2
    intro i hi
    obtain ⟨o,hok,h1,_⟩:=zrI hi
    have:=hall i (Array.getElem?_eq_some_iff.1 hok).1
    rw [h1] at this;cases this
   exact ⟨hr,done listed a w hsz hs hr⟩
 | succ fuel ih =>
   intro listed a w hsz hc hs hn
   refine ⟨done listed a w hsz hs,fun i hi=>?_⟩
   obtain ⟨o,hok,h1,hd⟩:=zrI hi
   have hlt:i < ops.size:=(Array.getElem?_eq_some_iff.1 hok).1
   have hD:listed.getD i false = false:=by
    rw [Array.getD_eq_getD_getElem?,Array.getElem?_eq_getElem (by omega)] at h1 ⊢
    simpa using h1
   have hil:i < ops.toList.length:=by simpa using hlt
   have hit:i < tr.length:=by rw [ht.length];exact hil
   obtain ⟨hok1,_⟩:=ht.at i hil hit
   have hoi:ops.toList[i] = o:=by have:=hok;rw [Array.getElem?_eq_getElem hlt] at this;simpa using this
   rw [hoi] at hok1
   have hx:tr[i]? = some tr[i]:=List.getElem?_eq_getElem hit
   have hev:=zCS ho ht hc hok hD hd
   have hrw:∀ k,tr[i].e.looks k = true ∨ tr[i].e.tc.has k = true→(stD ops tr s fun k=>listed.getD k false).rw k = (zs0 ops.toList tr s i).rw k:=fun k hk=>zxe ho hln ht hc hok hD hd hx hk
   have hdo:∀ d,o.dst = some d→d < G.n:=hdst o (by rw [← hoi];simp)
   have hlist:(fun k=>(listed.setIfInBounds i true).getD k false) = fun k=>listed.getD k false || k == i:=by
    funext k
    rw [Array.getD_eq_getD_getElem?,Array.getD_eq_getD_getElem?,Array.getElem?_setIfInBounds]
    by_cases hk:i = k
    ·subst hk
     rw [if_pos rfl,if_pos (by omega)];simp
    ·rw [if_neg hk]
     have:(k == i) = false:=by simp;exact fun e=>hk e.symm
     simp [this]
   have next:∀ (a':Act) (w':World),Sim G (stD ops tr s fun k=>listed.getD k false || k == i) a' w'→wpAny P .any ops Q fuel (listed.setIfInBounds i true) a' w':=fun a' w' hs'=>by
    refine ih _ a' w' (by simpa using hsz) ?_ (by rw [hlist];exact hs') ?_
    ·rw [hlist]
     intro j oj hj hDj k hk
     simp only [Bool.or_eq_true,beq_iff_eq] at hDj ⊢
     rcases hDj with hDj | rfl
     ·exact .inl (hc j oj hj hDj k hk)
     ·rw [hok] at hj;cases hj;exact .inl (hd k hk)
    ·have:=zAk listed.toList i (by
      rw [Array.getElem?_toList,Array.getElem?_eq_getElem (by omega)]
      rw [Array.getD_eq_getD_getElem?,Array.getElem?_eq_getElem (by omega)] at hD
      simpa using hD)
     simp only [Array.toList_setIfInBounds]
     omega
   have hdone:=zCU (tr:=tr) (s:=s) ho hln hc hok hD hx
   unfold wpOp
   simp only [hok]
   have hgv:∀ b,zCA ops (zs0 ops.toList tr s i) o = some b→Region.wanted o (yielded ops a.tmps) = b:=fun b hg=>by
    unfold zCA at hg
    cases hgd:o.guard with
    | none=>simp only [hgd] at hg;simp at hg;subst hg;simp [Region.wanted,hgd]
    | some jw =>
      obtain ⟨j,want⟩:=jw
      simp only [hgd] at hg
      split at hg
      ·rename_i d hdj
       have hn:d ∈ zsZ ops o:=by simp [zsZ,hgd,hdj]
       have hsl:=znX ho ht hc hok hD hd hn
       split at hg
       ·rename_i bb hbb
        rw [hbb] at hsl
        obtain ⟨E,hsE⟩:=hs
        have hval:=hsE.slots d
        have hval':a.tmps.getD d undef = .bool bb:=by
         have hh:(stD ops tr s fun k=>listed.getD k false).sl d = .v (.bool bb):=hsl
         rw [hh] at hval;exact hval.v_eq
        have hy:yielded ops a.tmps j = some bb:=by
         have hsz':a.tmps[d]? = some (.bool bb):=by
          rw [Array.getD_eq_getD_getElem?] at hval'
          cases h:a.tmps[d]? with
          | none=>rw [h] at hval';simp [undef] at hval'
          | some x=>rw [h] at hval';simp at hval';rw [hval']
         simp [yielded,hdj,hsz']
        simp at hg
        simp [Region.wanted,hgd,hy,hg]
       ·rename_i cs hbb
        rw [hbb] at hsl
        obtain ⟨E,hsE⟩:=hs
        have hval:=hsE.slots d
        have hval':a.tmps.getD d undef = .tuple cs:=by
         have hh:(stD ops tr s fun k=>listed.getD k false).sl d = .v (.tuple cs):=hsl
         rw [hh] at hval;exact hval.v_eq
        simp at hg
        subst hg
        simp [Region.wanted,hgd,zhv hdj hval']
       ·cases hg
      ·cases hg
   cases hok1 with
   | skip hg hp hr htc =>
     rw [hgv false hg]
     simp only [Bool.false_eq_true,if_false]
     refine next _ _ ?_
     rw [hdone]
     have h0:=zoR (dst:=o.dst) hdo hs
     have e:(stD ops tr s fun k=>listed.getD k false).stepIn o tr[i] = (stD ops tr s fun k=>listed.getD k false).put o.dst (.v undef):=by
      unfold St.stepIn
      rw [hp,htc]
      simp only [Tc.has,List.any_nil,Bool.false_eq_true,if_false]
     rw [e];exact h0
   | step hg hr he =>
     rw [hgv true hg]
     rw [if_pos rfl]
     refine .inl ?_
     refine he (stD ops tr s fun k=>listed.getD k false) hrw hev a w hs _ _ fun a' w' hs'=>next a' w' ?_
     rw [hdone]
     exact hs'
end
end Go.Abs

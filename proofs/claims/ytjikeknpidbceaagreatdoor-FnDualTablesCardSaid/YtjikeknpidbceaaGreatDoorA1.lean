/- DERIVED by an AI agent. -/
import Derived.WalkKit
import Derived.Orders
/- DERIVED by an AI agent. Abstract values, rows and states over the model; the reading of an abstract value in memory and how it lasts. No program in sight. -/
namespace Go.Abs
inductive PV where
 | v (x:Value)
 | sl (fr:Bool) (sz:Nat) (cells:List PV)
 | own (k ver:Nat)
 | ref (k ver off:Nat)
 | eref (fr:Bool) (cells:List PV) (off:Nat)
 | ag (cells:List PV)
 | tup (parts:List PV)
 | clo (f:FuncId) (caps:List PV)
 | junk
 deriving Inhabited
inductive RK where
 | dead
 | nil
 | box (t:TypeId) (cells:List PV)
 | sli (e:TypeId) (sz:Nat) (fz:Bool) (cells:List PV)
 | tab (e:TypeId) (cells:List PV)
def RK.nd:RK→Bool | .dead=>false | _=>true
def RK.live:RK→Bool | .box _ _=>true | .sli _ _ fz _=>!fz | .tab _ _=>true | _=>false
def RK.slice:RK→Bool | .nil=>true | .sli _ _ _ _=>true | .tab _ _=>true | _=>false
structure Row where
 ver:Nat
 kind:RK
structure St where
 sl:Nat→PV
 rw:Nat→Row
structure Env where
 R:Nat→Row
 rm:Nat→Option Nat
 rv:Nat→Value
 L:Nat→Prop
 B:Nat
 X:Nat→Prop
def Env.lo (E:Env) (lo:Nat) (fr:Bool):Nat:=max lo (if fr = true then E.B else 0)
def Env.bare (E:Env):Env:={ R:=fun _=>⟨0,.dead⟩,rm:=fun _=>none,rv:=fun _=>default,L:=E.L,B:=0,X:=fun _=>False }
inductive Rep (w:World):Env→Nat→PV→Value→Prop
 | v {E:Env} {lo:Nat} (x:Value):Rep w E lo (.v x) x
 | sl {E:Env} {lo:Nat} {fr:Bool} {sz len cap:Nat} {cells:List PV} {a:Option Addr} (cs:Nat→Value)
  (hl:cells.length = len * sz) (hc:len ≤ cap) (hm:cap ≤ maxLen)
  (hr:∀ i,i < cells.length→∃ b o,a = some ⟨b,o,none⟩∧E.lo lo fr ≤ b∧¬ E.L b∧w.cell? ⟨b,o + i,none⟩ = some (cs i))
  (hh:∀ i (h:i < cells.length),Rep w E.bare (E.lo lo fr) cells[i] (cs i)):Rep w E lo (.sl fr sz cells) (.slice a len cap)
 | own {E:Env} {lo k ver:Nat} {x:Value} (hv:ver ≤ (E.R k).ver) (hx:(E.R k).ver = ver→(E.R k).kind.slice = true→x = E.rv k):Rep w E lo (.own k ver) x
 | ref {E:Env} {lo k ver off:Nat} {x:Value} (hv:ver ≤ (E.R k).ver)
  (hx:(E.R k).ver = ver→(E.R k).kind.nd = true→∃ b,E.rm k = some b∧x = .pointer (some ⟨b,off,none⟩)):Rep w E lo (.ref k ver off) x
 | eref {E:Env} {lo:Nat} {fr:Bool} {cells:List PV} {off b o:Nat} (cs:Nat→Value)
  (hr:∀ i,i < cells.length→E.lo lo fr ≤ b∧¬ E.L b∧w.cell? ⟨b,o + i,none⟩ = some (cs i))
  (hh:∀ i (h:i < cells.length),Rep w E.bare (E.lo lo fr) cells[i] (cs i)):Rep w E lo (.eref fr cells off) (.pointer (some ⟨b,o + off,none⟩))
 | ag {E:Env} {lo:Nat} {cells:List PV} {vs:List Value} (hl:cells.length = vs.length) (hh:∀ i (h:i < cells.length) (h':i < vs.length),Rep w E lo cells[i] vs[i]) :
  Rep w E lo (.ag cells) (.agg vs.toArray)
 | tup {E:Env} {lo:Nat} {cells:List PV} {vs:List Value} (hl:cells.length = vs.length) (hh:∀ i (h:i < cells.length) (h':i < vs.length),Rep w E lo cells[i] vs[i]) :
  Rep w E lo (.tup cells) (.tuple vs.toArray)
 | clo {E:Env} {lo:Nat} {f:FuncId} {cells:List PV} {vs:List Value} (hl:cells.length = vs.length) (hh:∀ i (h:i < cells.length) (h':i < vs.length),Rep w E lo cells[i] vs[i]) :
  Rep w E lo (.clo f cells) (.func (.func f) #[] vs.toArray)
 | junk {E:Env} {lo:Nat} (x:Value):Rep w E lo .junk x
def zbj (w:World) (E:Env) (lo:Nat) (ps:List PV) (vs:List Value):Prop :=
 ps.length = vs.length∧∀ i (h:i < ps.length) (h':i < vs.length),Rep w E lo ps[i] vs[i]
theorem zep {w w':World} {b o:Nat} {s:Option Nat} (h:w'.heap[b]? = w.heap[b]?):w'.cell? ⟨b,o,s⟩ = w.cell? ⟨b,o,s⟩:=by
 simp [World.cell?,h]
theorem zhS {w:World} {b o:Nat} {v:Value} (h:w.cell? ⟨b,o,none⟩ = some v):b < w.heap.size :=
 World.block_lt_of_cell? w ⟨b,o,none⟩ h
structure Lasts (w w':World) (E E':Env):Prop where
 cells:∀ b,b < w.heap.size→¬ E.L b→w'.heap[b]? = w.heap[b]?∧¬ E'.L b
 ver:∀ k,(E.R k).ver ≤ (E'.R k).ver
 slice:∀ k,(E'.R k).ver = (E.R k).ver→(E'.R k).kind.slice = true→(E.R k).kind.slice = true∧E'.rv k = E.rv k
 nd:∀ k,(E'.R k).ver = (E.R k).ver→(E'.R k).kind.nd = true→(E.R k).kind.nd = true∧E'.rm k = E.rm k
 base:E'.B ≤ E.B
theorem Lasts.bare {w w':World} {E E':Env} (h:Lasts w w' E E'):Lasts w w' E.bare E'.bare :=
 ⟨h.cells,fun _=>Nat.le_refl _,fun _ _ h=>absurd h (by simp [Env.bare,RK.slice]),fun _ _ h=>absurd h (by simp [Env.bare,RK.nd]),Nat.le_refl _⟩
theorem Rep.mono {w w':World} {E E':Env} (hh:Lasts w w' E E') {lo:Nat} {p:PV} {x:Value} (h:Rep w E lo p x):∀ {lo':Nat},lo' ≤ lo→Rep w' E' lo' p x:=by
 induction h generalizing E' with
 | v x=>exact fun _=>.v x
 | @sl E lo fr sz len cap cells a cs hl hc hm hr hcs ih =>
   intro lo' hlo
   have hle:E'.lo lo' fr ≤ E.lo lo fr:=by
    have:=hh.base;unfold Env.lo;cases fr <;> simp <;> omega
   refine .sl cs hl hc hm (fun i hi=>?_) (fun i hi=>ih i hi hh.bare hle)
   obtain ⟨b,o,ha,hb,hL,hcell⟩:=hr i hi
   obtain ⟨e1,e2⟩:=hh.cells b (zhS hcell) hL
   exact ⟨b,o,ha,Nat.le_trans hle hb,e2,(zep e1).trans hcell⟩
 | @own E lo k ver x hv hx =>
   intro lo' _
   refine .own (Nat.le_trans hv (hh.ver k)) fun he hs=>?_
   have e:(E'.R k).ver = (E.R k).ver:=by have:=hh.ver k;omega
   obtain ⟨a1,a2⟩:=hh.slice k e hs
   rw [a2];exact hx (by omega) a1
 | @ref E lo k ver off x hv hx =>
   intro lo' _
   refine .ref (Nat.le_trans hv (hh.ver k)) fun he hs=>?_
   have e:(E'.R k).ver = (E.R k).ver:=by have:=hh.ver k;omega
   obtain ⟨a1,a2⟩:=hh.nd k e hs
   rw [a2];exact hx (by omega) a1
 | @eref E lo fr cells off b o cs hr hcs ih =>
   intro lo' hlo
   have hle:E'.lo lo' fr ≤ E.lo lo fr:=by
    have:=hh.base;unfold Env.lo;cases fr <;> simp <;> omega
   refine .eref cs (fun i hi=>?_) (fun i hi=>ih i hi hh.bare hle)
   obtain ⟨hb,hL,hcell⟩:=hr i hi
   obtain ⟨e1,e2⟩:=hh.cells _ (zhS hcell) hL
   exact ⟨Nat.le_trans hle hb,e2,(zep e1).trans hcell⟩
 | ag hl _ ih=>exact fun hlo=>.ag hl (fun i a b=>ih i a b hh hlo)
 | tup hl _ ih=>exact fun hlo=>.tup hl (fun i a b=>ih i a b hh hlo)
 | clo hl _ ih=>exact fun hlo=>.clo hl (fun i a b=>ih i a b hh hlo)
 | junk x=>exact fun _=>.junk x
theorem Lasts.refl (w:World) (E:Env):Lasts w w E E:=⟨fun _ _ h=>⟨rfl,h⟩,fun _=>Nat.le_refl _,fun _ _ h=>⟨h,rfl⟩,fun _ _ h=>⟨h,rfl⟩,Nat.le_refl _⟩
theorem Rep.low {w:World} {E:Env} {lo lo':Nat} {p:PV} {x:Value} (h:Rep w E lo p x) (hl:lo' ≤ lo):Rep w E lo' p x:=h.mono (Lasts.refl w E) hl
theorem zbj.mono {w w':World} {E E':Env} {lo lo':Nat} {ps:List PV} {vs:List Value} (hh:Lasts w w' E E') (hl:lo' ≤ lo) (h:zbj w E lo ps vs):zbj w' E' lo' ps vs :=
 ⟨h.1,fun i a b=>(h.2 i a b).mono hh hl⟩
def zau (w:World) (E:Env) (C:Nat→Nat→Prop) (k:Nat):Prop :=
 match (E.R k).kind with
 | .dead=>True
 | .nil=>E.rm k = none∧E.rv k = .slice none 0 0
 | .box t cells=>∃ b vs,E.rm k = some b∧C k b∧w.heap[b]? = some (.cells vs.toArray t (0,0))∧zbj w E 0 cells vs
 | .sli e sz _ cells =>
   (E.rm k = none∧E.rv k = .slice none 0 0∧cells = []) ∨
   ∃ b n cap vs rest,E.rm k = some b∧C k b∧E.rv k = .slice (some ⟨b,0,none⟩) n cap∧w.heap[b]? = some (.cells (vs ++ rest).toArray e (0,0)) ∧
    vs.length = n * sz∧n ≤ cap∧cap ≤ maxLen∧(vs ++ rest).length = cap * sz∧zbj w E.bare E.B cells vs
 | .tab e cells =>
   (E.rm k = none∧E.rv k = .slice none 0 0∧cells = []) ∨
   ∃ b n cap vs rest,E.rm k = some b∧C k b∧E.rv k = .slice (some ⟨b,0,none⟩) n cap∧w.heap[b]? = some (.cells (vs ++ rest).toArray e (0,0)) ∧
    vs.length = n∧n ≤ cap∧cap ≤ maxLen∧(vs ++ rest).length = cap∧zbj w E 0 cells vs
structure HeldS where
 Φ:World→Prop
 Gl:Nat→Prop
 dr:Prop
 keep:∀ {w w':World},Φ w→(∀ b,Gl b→w'.heap[b]? = w.heap[b]?)→Φ w'
 low:∀ {w:World} {b:Nat},Φ w→Gl b→b < w.heap.size
abbrev zad:=Inhabited HeldS
def zad.Φ [zad]:World→Prop:=(default:HeldS).Φ
def zad.Gl [zad]:Nat→Prop:=(default:HeldS).Gl
def zad.dr [zad]:Prop:=(default:HeldS).dr
structure OutLe [zad] (w w':World):Prop where
 same:w'.output = w.output
 more:zad.dr→w.drawn ≤ w'.drawn
theorem OutLe.refl [zad] (w:World):OutLe w w:=⟨rfl,fun _=>Nat.le_refl _⟩
theorem OutLe.trans [zad] {a b c:World} (k:OutLe b c) (h:OutLe a b):OutLe a c:=⟨k.same.trans h.same,fun hd=>Nat.le_trans (h.more hd) (k.more hd)⟩
theorem zad.keep [zad] {w w':World} (h:zad.Φ w) (hb:∀ b,zad.Gl b→w'.heap[b]? = w.heap[b]?):zad.Φ w':=(default:HeldS).keep h hb
theorem zad.low [zad] {w:World} {b:Nat} (h:zad.Φ w) (hb:zad.Gl b):b < w.heap.size:=(default:HeldS).low h hb
structure Fx [zad] (w0:World) (M:Nat→Nat→Prop) (X:Nat→Prop):Prop where
 low:∀ b,X b→b < w0.heap.size
 mx:∀ k b,M k b→¬ zad.Gl b
 phi:zad.Φ w0
structure Ghost where
 w0:World
 M:Nat→Nat→Prop
 n:Nat
 pR:Nat→Row
 pm:Nat→Option Nat
 px:Nat→Value
 X:Nat→Prop
structure Kept [zad] (G:Ghost) (w:World):Prop where
 os:w.os = G.w0.os
 tape:w.tape = G.w0.tape
 output:OutLe G.w0 w
 size:G.w0.heap.size ≤ w.heap.size
 block:∀ b,b < G.w0.heap.size→(∀ k,¬ G.M k b)→w.heap[b]? = G.w0.heap[b]?
def lent:Nat:=1000000
def Ghost.C (G:Ghost) (k b:Nat):Prop:=G.w0.heap.size ≤ b ∨ (lent ≤ k∧G.M k b)
structure WOk [zad] (G:Ghost) (E:Env) (w:World):Prop where
 rows:∀ k,zau w E G.C k
 inj:∀ k k' b,(E.R k).kind.nd = true→(E.R k').kind.nd = true→E.rm k = some b→E.rm k' = some b→k = k'
 live:∀ b,E.L b ↔ (∃ k,E.rm k = some b∧(E.R k).kind.live = true) ∨ E.X b
 pos:∀ k,(E.R k).kind.nd = true→0 < (E.R k).ver
 base:E.B = G.w0.heap.size
 xs:E.X = G.X
 fx:Fx G.w0 G.M G.X
 apart:∀ k b,(E.R k).kind.nd = true→E.rm k = some b→¬ G.X b
 kept:Kept G w
 pin:∀ k,(G.pR k).ver ≤ (E.R k).ver∧((E.R k).ver = (G.pR k).ver→(E.R k).kind.nd = true→(G.pR k).kind.nd = true∧E.rm k = G.pm k∧((E.R k).kind.slice = true→(G.pR k).kind.slice = true∧E.rv k = G.px k))
theorem WOk.held [zad] {G:Ghost} {E:Env} {w:World} (h:WOk G E w):zad.Φ w :=
 zad.keep h.fx.phi fun b hb=>h.kept.block b (zad.low h.fx.phi hb) fun k hM=>h.fx.mx k b hM hb
structure SimE [zad] (G:Ghost) (E:Env) (s:St) (a:Act) (w:World):Prop where
 rw:E.R = s.rw
 wok:WOk G E w
 size:a.tmps.size = G.n
 defers:a.defers = []
 slots:∀ i,Rep w E 0 (s.sl i) (a.tmps.getD i undef)
def Sim [zad] (G:Ghost) (s:St) (a:Act) (w:World):Prop:=∃ E,SimE G E s a w
def zsp:Value→PV
 | .agg cs=>.ag (cs.toList.map PV.v)
 | x=>.v x
def St.ev (s:St):Operand→PV
 | .tmp t=>s.sl t
 | .const c=>zsp c
 | .func f=>.clo f []
 | .global _=>.junk
def St.put (s:St) (d:Option Nat) (p:PV):St :=
 match d with
 | none=>s
 | some d=>{ s with sl:=fun i=>if i = d then p else s.sl i }
def St.row (s:St) (k:Nat) (r:Row):St:={ s with rw:=fun i=>if i = k then r else s.rw i }
theorem zaw {w:World} {E:Env} {s:St} {a:Act} (h:∀ i,Rep w E 0 (s.sl i) (a.tmps.getD i undef)) (x:Operand):Rep w E 0 (s.ev x) (a.eval x):=by
 cases x with
 | tmp t=>exact h t
 | const c =>
   show Rep w E 0 (zsp c) c
   cases c <;> first | exact .v _ | skip
   rename_i cs
   exact .ag (cells:=cs.toList.map PV.v) (vs:=cs.toList) (by simp) (fun i h h'=>by simp;exact .v _)
 | func f=>exact .clo (vs:=[]) rfl (fun i hi=>absurd hi (by simp))
 | global g=>exact .junk _
theorem SimE.put [zad] {G:Ghost} {E:Env} {s:St} {a:Act} {w:World} (h:SimE G E s a w) {d:Option Nat} (hd:∀ x,d = some x→x < G.n) {p:PV} {v:Value} (hp:Rep w E 0 p v) :
 SimE G E (s.put d p) (a.put d v) w:=by
 cases d with
 | none=>exact h
 | some d =>
   refine ⟨h.rw,h.wok,by simpa [Act.put] using h.size,h.defers,fun i=>?_⟩
   simp only [St.put,Act.put,Array.getD_eq_getD_getElem?]
   by_cases hi:i = d
   ·subst hi
    have:i < a.tmps.size:=by rw [h.size];exact hd i rfl
    simp [this];exact hp
   ·rw [if_neg hi,Array.getElem?_setIfInBounds_ne (Ne.symm hi)]
    have:=h.slots i
    rwa [Array.getD_eq_getD_getElem?] at this
theorem SimE.turn [zad] {G:Ghost} {E E':Env} {s:St} {a:Act} {w w':World} (h:SimE G E s a w) (hl:Lasts w w' E E') (hw:WOk G E' w'):SimE G E' { s with rw:=E'.R } a w' :=
 ⟨rfl,hw,h.size,h.defers,fun i=>(h.slots i).mono hl (Nat.le_refl _)⟩
structure Ext [zad] (w w':World):Prop where
 os:w'.os = w.os
 tape:w'.tape = w.tape
 output:OutLe w w'
 size:w.heap.size ≤ w'.heap.size
 block:∀ b,b < w.heap.size→w'.heap[b]? = w.heap[b]?
theorem Ext.refl [zad] (w:World):Ext w w:=⟨rfl,rfl,OutLe.refl w,Nat.le_refl _,fun _ _=>rfl⟩
theorem Ext.trans [zad] {a b c:World} (h:Ext a b) (k:Ext b c):Ext a c :=
 ⟨k.os.trans h.os,k.tape.trans h.tape,k.output.trans h.output,Nat.le_trans h.size k.size,fun i hi=>(k.block i (Nat.lt_of_lt_of_le hi h.size)).trans (h.block i hi)⟩
theorem Ext.lasts [zad] {w w':World} (h:Ext w w') (E:Env):Lasts w w' E E :=
 ⟨fun b hb hL=>⟨h.block b hb,hL⟩,fun _=>Nat.le_refl _,fun _ _ h=>⟨h,rfl⟩,fun _ _ h=>⟨h,rfl⟩,Nat.le_refl _⟩
theorem Ext.alloc [zad] (w:World) (o:Obj):Ext w (w.alloc o):=⟨rfl,rfl,⟨rfl,fun _=>Nat.le_refl _⟩,by simp,fun b hb=>by show (w.heap.push o)[b]? = _;rw [Array.getElem?_push,if_neg (by omega)]⟩
theorem Ext.drew [zad] (w:World):Ext w w.drew:=⟨rfl,rfl,⟨rfl,fun _=>Nat.le_succ _⟩,Nat.le_refl _,fun _ _=>rfl⟩
theorem ze6 {w:World} {b:Nat} {o:Obj} (h:w.heap[b]? = some o):b < w.heap.size:=(Array.getElem?_eq_some_iff.1 h).1
theorem zau.ext [zad] {w w':World} {E:Env} {C:Nat→Nat→Prop} {k:Nat} (h:zau w E C k) (hx:Ext w w'):zau w' E C k:=by
 unfold zau at *
 split at h
 ·trivial
 ·exact h
 ·obtain ⟨b,vs,h1,h2,h3,h4⟩:=h
  exact ⟨b,vs,h1,h2,(hx.block b (ze6 h3)).trans h3,h4.mono (hx.lasts E) (Nat.le_refl _)⟩
 ·rcases h with h | ⟨b,n,cap,vs,rest,h1,h2,h3,h4,h5,h6,h7,h8,h9⟩
  ·exact .inl h
  ·exact .inr ⟨b,n,cap,vs,rest,h1,h2,h3,(hx.block b (ze6 h4)).trans h4,h5,h6,h7,h8,h9.mono (hx.lasts E).bare (Nat.le_refl _)⟩
 ·rcases h with h | ⟨b,n,cap,vs,rest,h1,h2,h3,h4,h5,h6,h7,h8,h9⟩
  ·exact .inl h
  ·exact .inr ⟨b,n,cap,vs,rest,h1,h2,h3,(hx.block b (ze6 h4)).trans h4,h5,h6,h7,h8,h9.mono (hx.lasts E) (Nat.le_refl _)⟩
theorem Kept.ext [zad] {G:Ghost} {w w':World} (h:Kept G w) (hx:Ext w w'):Kept G w' :=
 ⟨hx.os.trans h.os,hx.tape.trans h.tape,hx.output.trans h.output,Nat.le_trans h.size hx.size,fun b hb hm=>(hx.block b (Nat.lt_of_lt_of_le hb h.size)).trans (h.block b hb hm)⟩
theorem WOk.ext [zad] {G:Ghost} {E:Env} {w w':World} (h:WOk G E w) (hx:Ext w w'):WOk G E w' :=
 ⟨fun k=>(h.rows k).ext hx,h.inj,h.live,h.pos,h.base,h.xs,h.fx,h.apart,h.kept.ext hx,h.pin⟩
theorem RK.nd_of_slice {k:RK} (h:k.slice = true):k.nd = true:=by cases k <;> simp_all [RK.slice,RK.nd]
theorem RK.nd_of_live {k:RK} (h:k.live = true):k.nd = true:=by cases k <;> simp_all [RK.live,RK.nd]
theorem WOk.block [zad] {G:Ghost} {E:Env} {w:World} (h:WOk G E w) {k b:Nat} (hb:E.rm k = some b) (hn:(E.R k).kind.nd = true):b < w.heap.size∧G.C k b:=by
 have hr:=h.rows k
 unfold zau at hr
 cases hk:(E.R k).kind with
 | dead=>rw [hk] at hn;cases hn
 | nil=>simp only [hk] at hr;rw [hr.1] at hb;cases hb
 | box t cells =>
   simp only [hk] at hr
   obtain ⟨b',vs,h1,h2,h3,_⟩:=hr
   rw [h1] at hb;cases hb
   exact ⟨ze6 h3,h2⟩
 | sli e sz fz cells =>
   simp only [hk] at hr
   rcases hr with ⟨h1,_,_⟩ | ⟨b',n,cap,vs,rest,h1,h2,h3,h4,_⟩
   ·rw [h1] at hb;cases hb
   ·rw [h1] at hb;cases hb
    exact ⟨ze6 h4,h2⟩
 | tab e cells =>
   simp only [hk] at hr
   rcases hr with ⟨h1,_,_⟩ | ⟨b',n,cap,vs,rest,h1,h2,h3,h4,_⟩
   ·rw [h1] at hb;cases hb
   ·rw [h1] at hb;cases hb
    exact ⟨ze6 h4,h2⟩
theorem WOk.low [zad] {G:Ghost} {E:Env} {w:World} (h:WOk G E w) {b:Nat} (hL:E.L b):b < w.heap.size:=by
 rcases (h.live b).1 hL with ⟨k,h1,h2⟩ | hX
 ·exact (h.block h1 (RK.nd_of_live h2)).1
 ·rw [h.xs] at hX
  exact Nat.lt_of_lt_of_le (h.fx.low b hX) h.kept.size
theorem SimE.ext [zad] {G:Ghost} {E:Env} {s:St} {a:Act} {w w':World} (h:SimE G E s a w) (hx:Ext w w'):SimE G E s a w' :=
 ⟨h.rw,h.wok.ext hx,h.size,h.defers,fun i=>(h.slots i).mono (hx.lasts E) (Nat.le_refl _)⟩
theorem WOk.ngl [zad] {G:Ghost} {E:Env} {w:World} (h:WOk G E w) {k b:Nat} (hb:E.rm k = some b) (hn:(E.R k).kind.nd = true):¬ zad.Gl b:=by
 have hC:G.C k b:=by
  have h0:=h.rows k
  unfold zau at h0
  cases hk:(E.R k).kind with
  | dead=>rw [hk] at hn;cases hn
  | nil=>simp only [hk] at h0;rw [h0.1] at hb;cases hb
  | box t c =>
    simp only [hk] at h0
    obtain ⟨b',vs,h1,h2,_⟩:=h0
    rw [h1] at hb;cases hb;exact h2
  | sli e sz fz c =>
    simp only [hk] at h0
    rcases h0 with ⟨h1,_⟩ | ⟨b',n,cap,vs,rest,h1,h2,_⟩
    ·rw [h1] at hb;cases hb
    ·rw [h1] at hb;cases hb;exact h2
  | tab e c =>
    simp only [hk] at h0
    rcases h0 with ⟨h1,_⟩ | ⟨b',n,cap,vs,rest,h1,h2,_⟩
    ·rw [h1] at hb;cases hb
    ·rw [h1] at hb;cases hb;exact h2
 rcases hC with h1 | ⟨_,h2⟩
 ·exact fun hg=>absurd (zad.low h.fx.phi hg) (Nat.not_lt_of_le h1)
 ·exact h.fx.mx k b h2
end Go.Abs

/- DERIVED by an AI agent. What an operation that only computes or reads yields, abstractly; and that the model yields it. No program in sight. -/
namespace Go.Abs
inductive TK where
 | int (k:IntKind)
 | bool
 | str
 | sli (e:TypeId)
 | struct (fs:List (Nat × TypeId))
 | arr (n:Nat) (e:TypeId)
 | other
def TK.agg:TK→Bool | .struct _=>true | .arr _ _=>true | _=>false
structure TD where
 k:TK
 size:Nat
 bytes:Nat
 zero:List Value
def TK.fits (P:Program) (t:TypeId):TK→Prop
 | .int k=>P.underlying t = some (.int k)
 | .bool=>P.underlying t = some .bool
 | .str=>P.underlying t = some .string
 | .sli e=>P.underlying t = some (.slice e)
 | .struct fs=>∃ flds:Array Field,P.underlying t = some (.struct flds)∧flds.toList.map (fun f=>(f.offset,f.type)) = fs
 | .arr n e=>P.underlying t = some (.array n e)
 | .other=>∃ d,P.underlying t = some d∧(match d with | .struct _ | .array _ _=>False | _=>True)
structure TD.Fits (P:Program) (t:TypeId) (d:TD):Prop where
 k:d.k.fits P t
 info:∃ i z,P.info? t = some i∧i.size = d.size∧i.bytes = d.bytes∧i.zero = some z∧z.cells.toList = d.zero
 zlen:d.zero.length = d.size
 one:d.k.agg = false→d.size = 1∧∀ z,d.zero = [z]→z.oneCell' = true
abbrev Tab:=TypeId→TD
def Tab.Ok (T:Tab) (P:Program):Prop:=∀ t,0 < (T t).size→(T t).Fits P t
section
variable {P:Program} {T:Tab}
theorem zrg {t:TypeId} {k:TK} (h:k.fits P t) (w:World):(isAgg t).run P w = .ok k.agg w:=by
 cases k with
 | struct fs=>obtain ⟨fl,h,_⟩:=h;simp [isAgg,run_underlying h,TK.agg]
 | other =>
   obtain ⟨d,h,hd⟩:=h
   cases d <;> simp [isAgg,run_underlying h,TK.agg] at hd ⊢
 | _=>simp only [TK.fits] at h;simp [isAgg,run_underlying h,TK.agg]
theorem zaR {t:TypeId} {d:TD} (h:d.Fits P t) (w:World):(sizeOf t).run P w = .ok d.size w:=by
 obtain ⟨i,z,h1,h2,_⟩:=h.info
 simp [sizeOf,typeInfo,h1,h2]
end
def zdI (k:IntKind) (a b:Int):Int:=k.wrap (BitVec.ofInt k.bits a &&& BitVec.ofInt k.bits b).toNat
def ior (k:IntKind) (a b:Int):Int:=k.wrap (BitVec.ofInt k.bits a ||| BitVec.ofInt k.bits b).toNat
def zEz (k:IntKind) (a b:Int):Int:=k.wrap (BitVec.ofInt k.bits a ^^^ BitVec.ofInt k.bits b).toNat
def zge (k:IntKind) (a b:Int):Int:=k.wrap (BitVec.ofInt k.bits a &&& ~~~ BitVec.ofInt k.bits b).toNat
def zrU (k:IntKind) (a b:Int):Int:=k.wrap (a * 2 ^ (min b.toNat k.bits))
def zso (k:IntKind) (a b:Int):Int:=a.fdiv (2 ^ (min b.toNat k.bits))
def zb7:BinOp→IntKind→Int→Int→Value
 | .add,k,a,b=>.int k (k.wrap (a + b))
 | .sub,k,a,b=>.int k (k.wrap (a - b))
 | .mul,k,a,b=>.int k (k.wrap (a * b))
 | .quo,k,a,b=>.int k (k.wrap (a.tdiv b))
 | .rem,k,a,b=>.int k (a.tmod b)
 | .and,k,a,b=>.int k (zdI k a b)
 | .or,k,a,b=>.int k (ior k a b)
 | .xor,k,a,b=>.int k (zEz k a b)
 | .andNot,k,a,b=>.int k (zge k a b)
 | .shl,k,a,b=>.int k (zrU k a b)
 | .shr,k,a,b=>.int k (zso k a b)
 | .eql,_,a,b=>.bool (a == b)
 | .neq,_,a,b=>.bool (a != b)
 | .lss,_,a,b=>.bool (decide (a < b))
 | .leq,_,a,b=>.bool (decide (a ≤ b))
 | .gtr,_,a,b=>.bool (decide (a > b))
 | .geq,_,a,b=>.bool (decide (a ≥ b))
def zbw:BinOp→IntKind→IntKind→Int→Prop
 | .quo,k,k',b=>k = k'∧b ≠ 0
 | .rem,k,k',b=>k = k'∧b ≠ 0
 | .shl,_,_,b=>0 ≤ b
 | .shr,_,_,b=>0 ≤ b
 | _,k,k',_=>k = k'
def znk:BinOp→ByteArray→ByteArray→Option Value
 | .add,a,b=>some (.string (a ++ b))
 | .eql,a,b=>some (.bool (a.toList == b.toList))
 | .neq,a,b=>some (.bool (!(a.toList == b.toList)))
 | .lss,a,b=>some (.bool (Op.bytesLess a.toList b.toList))
 | _,_,_=>none
def zcY (T:Tab) (op:BinOp) (t:TypeId) (x y:PV) (K:PV→Prop):Prop :=
 match x,y with
 | .v (.int k a),.v (.int k' b)=>zbw op k k' b∧K (.v (zb7 op k a b))
 | .v (.string a),.v (.string b)=>(op = .add→a.size + b.size ≤ 9223372036854775807)∧match znk op a b with | some r=>K (.v r) | none=>False
 | .v (.bool a),.v (.bool b)=>(T t).k = .bool∧0 < (T t).size∧match op with | .eql=>K (.v (.bool (a == b))) | .neq=>K (.v (.bool (!(a == b)))) | _=>False
 | _,_=>False
section
variable {P:Program} {T:Tab} (w:World)
theorem zwB (op:BinOp) (t:TypeId) (k k':IntKind) (a b:Int) (h:zbw op k k' b):(binOp op t (.int k a) (.int k' b)).run P w = .ok (zb7 op k a b) w:=by
 cases op <;> simp only [zbw] at h <;> first
  | (obtain ⟨rfl,hb⟩:=h;simp [binOp,Op.intDiv,zb7,hb];done)
  | (subst h;simp [binOp,Op.intArith,Op.intBits,Op.intCmp,zb7,zdI,ior,zEz,zge];done)
  | (have hn:¬ b < 0:=by omega
     simp [binOp,Op.shift,zb7,zrU,zso,hn];done)
theorem zwC (op:BinOp) (t:TypeId) (a b:ByteArray) (r:Value) (hs:op = .add→a.size + b.size ≤ 9223372036854775807) (h:znk op a b = some r) :
 (binOp op t (.string a) (.string b)).run P w = .ok r w:=by
 cases op <;> simp [znk] at h <;> subst h
 case add =>
  have h1:=hs rfl
  simp only [binOp]
  exact run_string_add_sum w a b h1
 all_goals simp [binOp,Op.stringOp]
theorem zkO (op:BinOp) (t:TypeId) (x y:Operand) (k k':IntKind) (a b:Int):(eqGuard op t x y (.int k a) (.int k' b)).run P w = .ok () w:=by
 unfold eqGuard;cases op <;> simp
theorem zhg (op:BinOp) (t:TypeId) (x y:Operand) (a b:ByteArray):(eqGuard op t x y (.string a) (.string b)).run P w = .ok () w:=by
 unfold eqGuard;cases op <;> simp
theorem zeD (op:BinOp) (t:TypeId) (x y:Operand) (a b:Bool):(eqGuard op t x y (.bool a) (.bool b)).run P w = .ok () w:=by
 unfold eqGuard;cases op <;> simp
end
theorem Rep.v_eq {w:World} {E:Env} {lo:Nat} {x y:Value} (h:Rep w E lo (.v x) y):y = x:=by cases h;rfl
def zf4 [zad] (P:Program) (G:Ghost) (s:St) (o:Oper) (p:PV):Prop :=
 ∀ (E:Env) (a:Act) (w:World),E.R = s.rw→WOk G E w→(∀ x ∈ o.op.operands,Rep w E 0 (s.ev x) (a.eval x)) →
  ∀ (K:Act→World→Prop) (Q:Exit→Act→World→Prop),(∀ v w',Ext w w'→Rep w' E 0 p v→K (a.put o.dst v) w')→o.wp P a w K Q
theorem zdv {P:Program} {o:Oper} {a:Act} {w w':World} {K:Act→World→Prop} {Q:Exit→Act→World→Prop} {v:Value}
 (h:(execOp a.eval o).run P w = .ok (.value v) w') (hk:K (a.put o.dst v) w'):o.wp P a w K Q:=by
 unfold Oper.wp;rw [h];exact hk
theorem zoa [zad] {P:Program} {G:Ghost} {s:St} {o:Oper} {p:PV}
 (h:∀ (E:Env) (a:Act) (w:World),E.R = s.rw→WOk G E w→(∀ x ∈ o.op.operands,Rep w E 0 (s.ev x) (a.eval x))→∃ v w',(execOp a.eval o).run P w = .ok (.value v) w'∧Ext w w'∧Rep w' E 0 p v) :
 zf4 P G s o p:=by
 intro E a w h1 h2 h3 K Q hk
 obtain ⟨v,w',hr,hx,hv⟩:=h E a w h1 h2 h3
 exact zdv hr (hk v w' hx hv)
end Go.Abs

/- DERIVED by an AI agent. Reading through pointers and slices, abstractly; the operations that only compute or read. No program in sight. -/
namespace Go.Abs
def zhe (fr:Bool) (p:PV):PV :=
 match p with
 | .v x=>.v x
 | .sl _ sz c=>.sl fr sz c
 | .eref _ c o=>.eref fr c o
 | _=>.junk
inductive Md where
 | asis
 | set (fr:Bool)
def Md.fix (m:Md) (p:PV):PV:=match m with | .asis=>p | .set fr=>zhe fr p
theorem zkN {w:World} {E:Env} {lo:Nat} {fr:Bool} {p:PV} {x:Value} (h:Rep w E.bare lo p x) (hl:E.lo 0 fr ≤ lo):Rep w E 0 (zhe fr p) x:=by
 cases h with
 | v x=>exact .v _
 | @sl _ _ f sz len cap cells a cs hl' hc hm hr hh =>
   have e:E.bare.lo lo f = lo:=by simp [Env.lo,Env.bare]
   have e2:E.bare.bare = E.bare:=rfl
   rw [e2,e] at hh
   refine .sl cs hl' hc hm (fun i hi=>?_) (fun i hi=>(hh i hi).low hl)
   obtain ⟨b,o,ha,hb,hr⟩:=hr i hi
   rw [e] at hb
   exact ⟨b,o,ha,Nat.le_trans hl hb,hr⟩
 | @eref _ _ f cells off b o cs hr hh =>
   have e:E.bare.lo lo f = lo:=by simp [Env.lo,Env.bare]
   have e2:E.bare.bare = E.bare:=rfl
   rw [e2,e] at hh
   refine .eref cs (fun i hi=>?_) (fun i hi=>(hh i hi).low hl)
   obtain ⟨hb,hr⟩:=hr i hi
   rw [e] at hb
   exact ⟨Nat.le_trans hl hb,hr⟩
 | own a b=>exact .junk _
 | ref a b=>exact .junk _
 | ag a b=>exact .junk _
 | tup a b=>exact .junk _
 | clo a b=>exact .junk _
 | junk x=>exact .junk _
def zrT (rw:Nat→Row) (p:PV) (K:Md→List PV→Nat→Prop):Prop :=
 match p with
 | .ref k ver off=>(rw k).ver = ver∧match (rw k).kind with | .box _ c=>K .asis c off | .sli _ _ _ c=>K (.set true) c off | .tab _ c=>K .asis c off | _=>False
 | .eref fr c off=>K (.set fr) c off
 | _=>False
def At (w:World) (E:Env) (m:Md) (cells:List PV) (x:Value) (off:Nat):Prop :=
 ∃ (b o:Nat) (cs:Nat→Value),x = .pointer (some ⟨b,o + off,none⟩)∧∀ i (h:i < cells.length),w.cell? ⟨b,o + i,none⟩ = some (cs i)∧Rep w E 0 (m.fix cells[i]) (cs i)
theorem zaz {w:World} {b i:Nat} {vs:List Value} {t:TypeId} {fr:Nat × Nat} (h:w.heap[b]? = some (.cells vs.toArray t fr)) (hi:i < vs.length) :
 w.cell? ⟨b,i,none⟩ = some vs[i]:=by
 rw [cell_of_row w b i vs.toArray t fr h];simp [hi]
theorem znj [zad] {rw:Nat→Row} {p:PV} {K:Md→List PV→Nat→Prop} {w:World} {E:Env} {G:Ghost} {x:Value}
 (hk:zrT rw p K) (hR:E.R = rw) (hw:WOk G E w) (hp:Rep w E 0 p x):∃ m cells off,K m cells off∧At w E m cells x off:=by
 subst hR
 cases hp with
 | @ref _ _ k ver off x hv hx =>
   obtain ⟨he,hk⟩:=hk
   have hrow:=hw.rows k
   unfold zau at hrow
   cases hkd:(E.R k).kind with
   | dead=>simp [hkd] at hk
   | nil=>simp [hkd] at hk
   | box t cells =>
     simp only [hkd] at hk hrow
     obtain ⟨b,vs,h1,h2,h3,h4⟩:=hrow
     obtain ⟨b',h1',hx⟩:=hx he (by rw [hkd];rfl)
     rw [h1] at h1';cases h1'
     refine ⟨_,_,_,hk,b,0,fun i=>vs.getD i undef,by simpa using hx,fun i hi=>?_⟩
     have hi':i < vs.length:=by rw [← h4.1];exact hi
     have e:vs.getD i undef = vs[i]:=by simp [List.getD,hi']
     show _ = some (vs.getD i undef)∧Rep w E _ _ (vs.getD i undef)
     rw [e,Nat.zero_add]
     exact ⟨zaz h3 hi',h4.2 i hi hi'⟩
   | sli e sz fz cells =>
     simp only [hkd] at hk hrow
     obtain ⟨b',h1',hx⟩:=hx he (by rw [hkd];rfl)
     rcases hrow with ⟨h1,_,_⟩ | ⟨b,n,cap,vs,rest,h1,h2,h3,h4,h5,h6,h7,h8,h9⟩
     ·rw [h1] at h1';exact absurd h1' (by simp)
     ·rw [h1] at h1'
      obtain rfl:b = b':=by simpa using h1'
      refine ⟨_,_,_,hk,b,0,fun i=>vs.getD i undef,by simpa using hx,fun i hi=>?_⟩
      have hi':i < vs.length:=by rw [← h9.1];exact hi
      have e:vs.getD i undef = vs[i]:=by simp [List.getD,hi']
      show _ = some (vs.getD i undef)∧Rep w E _ _ (vs.getD i undef)
      rw [e,Nat.zero_add]
      refine ⟨?_,zkN (h9.2 i hi hi') (by simp [Env.lo])⟩
      rw [zaz h4 (by simp;omega)]
      simp [List.getElem_append_left hi']
   | tab e cells =>
     simp only [hkd] at hk hrow
     obtain ⟨b',h1',hx⟩:=hx he (by rw [hkd];rfl)
     rcases hrow with ⟨h1,_,_⟩ | ⟨b,n,cap,vs,rest,h1,h2,h3,h4,h5,h6,h7,h8,h9⟩
     ·rw [h1] at h1';cases h1'
     rw [h1] at h1'
     obtain rfl:b = b':=by simpa using h1'
     refine ⟨_,_,_,hk,b,0,fun i=>vs.getD i undef,by simpa using hx,fun i hi=>?_⟩
     have hi':i < vs.length:=by rw [← h9.1];exact hi
     have e:vs.getD i undef = vs[i]:=by simp [List.getD,hi']
     show _ = some (vs.getD i undef)∧Rep w E _ _ (vs.getD i undef)
     rw [e,Nat.zero_add]
     refine ⟨?_,h9.2 i hi hi'⟩
     rw [zaz h4 (by simp;omega)]
     simp [List.getElem_append_left hi']
 | @eref _ _ fr cells off b o cs hr hh =>
   refine ⟨_,_,_,hk,b,o,cs,rfl,fun i hi=>⟨(hr i hi).2.2,zkN (hh i hi) (Nat.le_refl _)⟩⟩
 | v x=>exact hk.elim
 | sl=>exact hk.elim
 | own=>exact hk.elim
 | ag=>exact hk.elim
 | tup=>exact hk.elim
 | clo=>exact hk.elim
 | junk=>exact hk.elim
def zdV:Value→Bool
 | .slice none 0 0=>true
 | _=>false
theorem zeo {x:Value} (h:zdV x = true):x = .slice none 0 0:=by
 unfold zdV at h;split at h
 ·rfl
 ·cases h
def slK (rw:Nat→Row) (p:PV) (K:Bool→Nat→List PV→Prop):Prop :=
 match p with
 | .sl fr sz c=>K fr sz c
 | .own k ver=>(rw k).ver = ver∧match (rw k).kind with | .nil=>K true 1 [] | .sli _ sz _ c=>K true sz c | _=>False
 | .v x=>zdV x = true∧K true 1 []
 | _=>False
def zJd (w:World) (E:Env) (lo sz:Nat) (cells:List PV) (x:Value):Prop :=
 ∃ (a:Option Addr) (len cap:Nat) (cs:Nat→Value),x = .slice a len cap∧cells.length = len * sz∧len ≤ cap∧cap ≤ maxLen ∧
  ∀ i (h:i < cells.length),∃ b o,a = some ⟨b,o,none⟩∧w.cell? ⟨b,o + i,none⟩ = some (cs i)∧Rep w E.bare lo cells[i] (cs i)
theorem zhf [zad] {rw:Nat→Row} {p:PV} {K:Bool→Nat→List PV→Prop} {w:World} {E:Env} {G:Ghost} {x:Value}
 (hk:slK rw p K) (hR:E.R = rw) (hw:WOk G E w) (hp:Rep w E 0 p x):∃ fr sz cells,K fr sz cells∧zJd w E (E.lo 0 fr) sz cells x:=by
 subst hR
 cases hp with
 | @sl _ _ fr sz len cap cells a cs hl hc hm hr hh =>
   refine ⟨_,_,_,hk,a,len,cap,cs,rfl,hl,hc,hm,fun i hi=>?_⟩
   obtain ⟨b,o,ha,hb,hL,hcell⟩:=hr i hi
   exact ⟨b,o,ha,hcell,hh i hi⟩
 | @own _ _ k ver x hv hx =>
   obtain ⟨he,hk⟩:=hk
   have hrow:=hw.rows k
   unfold zau at hrow
   cases hkd:(E.R k).kind with
   | dead=>simp [hkd] at hk
   | box t cells=>simp [hkd] at hk
   | tab e cells=>simp [hkd] at hk
   | nil =>
     simp only [hkd] at hk hrow
     have:=hx he (by rw [hkd];rfl)
     subst this
     rw [hrow.2]
     exact ⟨_,_,_,hk,none,0,0,fun _=>undef,rfl,rfl,Nat.le_refl _,Nat.zero_le _,fun i hi=>absurd hi (by simp)⟩
   | sli e sz fz cells =>
     simp only [hkd] at hk hrow
     have:=hx he (by rw [hkd];rfl)
     subst this
     rcases hrow with ⟨h1,h2,h3⟩ | ⟨b,n,cap,vs,rest,h1,h2,h3,h4,h5,h6,h7,h8,h9⟩
     ·subst h3
      rw [h2]
      exact ⟨_,_,_,hk,none,0,0,fun _=>undef,rfl,by simp,Nat.le_refl _,Nat.zero_le _,fun i hi=>absurd hi (by simp)⟩
     ·rw [h3]
      refine ⟨_,_,_,hk,some ⟨b,0,none⟩,n,cap,fun i=>vs.getD i undef,rfl,by rw [h9.1,h5],h6,h7,fun i hi=>⟨b,0,rfl,?_⟩⟩
      have hi':i < vs.length:=by rw [← h9.1];exact hi
      have e:vs.getD i undef = vs[i]:=by simp [List.getD,hi']
      show _ = some (vs.getD i undef)∧Rep w E.bare _ _ (vs.getD i undef)
      rw [e,Nat.zero_add]
      refine ⟨?_,(h9.2 i hi hi').low (by simp [Env.lo])⟩
      rw [zaz h4 (by simp;omega)]
      simp [List.getElem_append_left hi']
 | v x =>
   obtain ⟨hn,hk⟩:=hk
   rw [zeo hn]
   exact ⟨_,_,_,hk,none,0,0,fun _=>undef,rfl,rfl,Nat.le_refl _,Nat.zero_le _,fun i hi=>absurd hi (by simp)⟩
 | eref=>exact hk.elim
 | ref=>exact hk.elim
 | ag=>exact hk.elim
 | tup=>exact hk.elim
 | clo=>exact hk.elim
 | junk=>exact hk.elim
def zxe (rw:Nat→Row) (p:PV) (K:Nat→Nat→Prop):Prop :=
 match p with
 | .sl _ sz c=>K sz c.length
 | .own k ver=>(rw k).ver = ver∧match (rw k).kind with | .nil=>K 1 0 | .sli _ sz _ c=>K sz c.length | .tab _ c=>K 1 c.length | _=>False
 | .v x=>zdV x = true∧K 1 0
 | _=>False
theorem zwA [zad] {rw:Nat→Row} {p:PV} {K:Nat→Nat→Prop} {w:World} {E:Env} {G:Ghost} {x:Value}
 (hk:zxe rw p K) (hR:E.R = rw) (hw:WOk G E w) (hp:Rep w E 0 p x):∃ sz n,K sz n∧∃ (a:Option Addr) (len cap:Nat),x = .slice a len cap∧n = len * sz:=by
 by_cases ht:∃ k ver e c,p = .own k ver∧(rw k).kind = .tab e c
 ·obtain ⟨k,ver,e,c,rfl,hkd⟩:=ht
  subst hR
  obtain ⟨he,hk⟩:=hk
  rw [hkd] at hk
  cases hp with
  | own hv hx =>
    have hrow:=hw.rows k
    unfold zau at hrow
    simp only [hkd] at hrow
    rcases hrow with ⟨h1,h2,h3⟩ | ⟨b,n,cap,vs,rest,h1,h2,h3,h4,h5,h6,h7,h8,h9⟩
    ·rw [hx he (by rw [hkd];rfl),h2]
     subst h3
     exact ⟨_,_,hk,_,_,_,rfl,rfl⟩
    rw [hx he (by rw [hkd];rfl),h3]
    exact ⟨_,_,hk,_,_,_,rfl,by rw [h9.1,h5,Nat.mul_one]⟩
 ·have hs:slK rw p fun _ sz c=>K sz c.length:=by
   unfold zxe at hk
   unfold slK
   cases p with
   | own k ver =>
     obtain ⟨he,hk⟩:=hk
     refine ⟨he,?_⟩
     cases hkd:(rw k).kind with
     | tab e c=>exact absurd ⟨k,ver,e,c,rfl,hkd⟩ ht
     | nil=>simp only [hkd] at hk ⊢;exact hk
     | sli e sz fz c=>simp only [hkd] at hk ⊢;exact hk
     | dead=>simp only [hkd] at hk
     | box t c=>simp only [hkd] at hk
   | sl fr sz c=>exact hk
   | v x=>exact hk
   | _=>exact hk.elim
  obtain ⟨fr,sz,cells,hk,a,len,cap,cs,rfl,h1,_⟩:=zhf hs hR hw hp
  exact ⟨_,_,hk,a,len,cap,rfl,h1⟩
def ldK (T:Tab) (t:TypeId) (m:Md) (cells:List PV) (off:Nat) (K:PV→Prop):Prop :=
 0 < (T t).size∧match (T t).k.agg with
  | true=>off + (T t).size ≤ cells.length∧K (.ag (((cells.drop off).take (T t).size).map m.fix))
  | false=>off < cells.length∧K (m.fix (cells.getD off .junk))
theorem zrf [zad] {P:Program} {T:Tab} (hT:T.Ok P) {t:TypeId} {m:Md} {cells:List PV} {off:Nat} {K:PV→Prop} {w:World} {E:Env} {x:Value}
 (hk:ldK T t m cells off K) (ha:At w E m cells x off):∃ p v,K p∧(Instr.loadAt t x).run P w = .ok v w∧Rep w E 0 p v:=by
 obtain ⟨hs,hk⟩:=hk
 obtain ⟨b,o,cs,rfl,hcell⟩:=ha
 have hf:=hT t hs
 have hag:=zrg hf.k w
 have hsz:=zaR hf w
 cases hagg:(T t).k.agg with
 | true =>
   simp only [hagg] at hk
   obtain ⟨hlen,hk⟩:=hk
   have hld:(loadCells ⟨b,o + off,none⟩ (T t).size).run P w = .ok ((List.range (T t).size).map fun j=>cs (off + j)).toArray w:=by
    have:=run_loadCells_list (P:=P) (w:=w) ⟨b,o + off,none⟩ ((List.range (T t).size).map fun j=>cs (off + j)) (fun j v hj=>by
     simp only [List.getElem?_map,Option.map_eq_some_iff] at hj
     obtain ⟨j',hj,rfl⟩:=hj
     obtain ⟨hlt,he⟩:=List.getElem?_eq_some_iff.1 hj
     have hj':j < (T t).size:=by simpa using hlt
     obtain rfl:j = j':=by simpa using he
     have:=(hcell (off + j) (by omega)).1
     unfold Addr.add
     split
     ·rename_i h0;subst h0;simpa using this
     ·rw [show o + off + j = o + (off + j) by omega];exact this)
    simpa using this
   refine ⟨_,.agg ((List.range (T t).size).map fun j=>cs (off + j)).toArray,hk,?_,?_⟩
   ·simp [Instr.loadAt,Instr.sureAddr,loadVar,hag,hagg,hsz,hld]
   ·refine .ag (by simp;omega) (fun i h h'=>?_)
    simp at h h'
    have:=(hcell (off + i) (by omega)).2
    simp only [List.getElem_take,List.getElem_drop,List.getElem_map,List.getElem_range]
    exact this
 | false =>
   simp only [hagg] at hk
   obtain ⟨hlen,hk⟩:=hk
   have hc:=hcell off hlen
   refine ⟨_,cs off,hk,?_,?_⟩
   ·simp [Instr.loadAt,Instr.sureAddr,loadVar,hag,hagg,run_load,hc.1]
   ·have e:cells.getD off .junk = cells[off]:=by simp [List.getD,hlen]
    rw [e]
    exact hc.2
end Go.Abs

/- DERIVED by an AI agent. The operations that only compute or read: what they ask, what they yield; and that the model yields it. No program in sight. -/
namespace Go.Abs
def zlB (ev:Operand→PV) (o:Option Operand) (dflt:Int) (K:Int→Prop):Prop :=
 match o with
 | none=>K dflt
 | some x=>match ev x with | .v (.int _ n)=>K n | _=>False
def zgd (rw:Nat→Row) (p:PV) (K:Bool→Nat→List PV→Prop):Prop :=
 match p with
 | .sl fr sz c=>K fr sz c
 | .own k ver=>k < lent∧(rw k).ver = ver∧match (rw k).kind with | .sli _ sz true c=>K true sz c | _=>False
 | _=>False
def unK (op:UnOp) (p:PV) (K:PV→Prop):Prop :=
 match op,p with
 | .not,.v (.bool b)=>K (.v (.bool !b))
 | .neg,.v (.int k n)=>K (.v (.int k (k.wrap (0 - n))))
 | .xor,.v (.int k n)=>K (.v (.int k (zEz k (if k.signed then -1 else k.max) n)))
 | _,_=>False
def zdu (rw:Nat→Row) (p:PV) (K:Prop):Prop :=
 match p with
 | .ref k ver _=>(rw k).ver = ver∧(rw k).kind.nd = true∧K
 | .eref _ _ _=>K
 | .clo _ _=>K
 | _=>False
def zd7 (p:PV) (d:Nat):PV :=
 match p with
 | .ref k ver off=>.ref k ver (off + d)
 | .eref fr c off=>.eref fr c (off + d)
 | p=>p
def zdQ (T:Tab) (t:TypeId) (f:Nat) (K:Nat→TypeId→Prop):Prop :=
 0 < (T t).size∧match (T t).k with | .struct fs=>(match fs[f]? with | some (o,ft)=>0 < (T ft).size∧K o ft | none=>False) | _=>False
def zkM:PV→Bool | .ref _ _ _=>true | .eref _ _ _=>true | _=>false
def zbn (T:Tab) (rw:Nat→Row) (t:TypeId) (x i:PV) (K:PV→Prop):Prop :=
 match i with
 | .v (.int _ n) =>
   0 < (T t).size∧match (T t).k with
   | .sli e =>
     (match x with
     | .sl fr sz c=>0 < (T e).size∧sz = (T e).size∧0 ≤ n∧n.toNat * sz < c.length∧K (.eref fr c (n.toNat * sz))
     | .own k ver=>(rw k).ver = ver∧match (rw k).kind with | .sli _ sz _ c=>0 < (T e).size∧sz = (T e).size∧0 ≤ n∧n.toNat * sz < c.length∧K (.ref k ver (n.toNat * sz)) | .tab _ c=>(T e).size = 1∧0 ≤ n∧n.toNat < c.length∧K (.ref k ver n.toNat) | _=>False
     | _=>False)
   | .arr len e=>zkM x = true∧0 < (T e).size∧0 ≤ n∧n < len∧zdu rw x (K (zd7 x (n.toNat * (T e).size)))
   | _=>False
 | _=>False
def zzV (T:Tab) (rw:Nat→Row) (t:TypeId) (x:PV) (K:PV→Prop):Prop :=
 0 < (T t).size∧match (T t).k with
 | .str=>(match x with | .v (.string s)=>K (.v (.int .i64 s.size)) | _=>False)
 | .sli _=>zxe rw x fun sz n=>0 < sz∧K (.v (.int .i64 ((n / sz:Nat):Int)))
 | .arr n _=>K (.v (.int .i64 n))
 | _=>False
def zbv (T:Tab) (rw:Nat→Row) (ev:Operand→PV) (t:TypeId) (x:PV) (lo hi mx:Option Operand) (K:PV→Prop):Prop :=
 0 < (T t).size∧match (T t).k with
 | .str=>mx = none∧(match x with
  | .v (.string s)=>zlB ev lo 0 fun l=>zlB ev hi s.size fun h=>0 ≤ l∧l ≤ h∧h ≤ s.size∧K (.v (.string (s.extract l.toNat h.toNat)))
  | _=>False)
 | .sli e=>zgd rw x fun fr sz c=>0 < (T e).size∧sz = (T e).size ∧
  zlB ev lo 0 fun l=>zlB ev hi ((c.length / sz:Nat):Int) fun h=>zlB ev mx ((c.length / sz:Nat):Int) fun m=>0 ≤ l∧l ≤ h∧h ≤ m∧m ≤ ((c.length / sz:Nat):Int)∧(hi = none→mx = none) ∧
   K (.sl fr sz ((c.take (h.toNat * sz)).drop (l.toNat * sz)))
 | _=>False
def zcB (isMax:Bool) (x y:PV) (K:PV→Prop):Prop :=
 match x,y with
 | .v (.int k a),.v (.int _ b)=>K (.v (.int k (match isMax with | true=>if b > a then b else a | false=>if b < a then b else a)))
 | _,_=>False
def zfP (T:Tab) (rw:Nat→Row) (src dst:TypeId) (x:PV) (K:PV→Prop):Prop :=
 0 < (T src).size∧0 < (T dst).size∧match (T src).k,(T dst).k with
 | .int _,.int k=>(match x with | .v (.int _ n)=>K (.v (.int k (k.wrap n))) | _=>False)
 | .str,.str=>(match x with | .v (.string s)=>K (.v (.string s)) | _=>False)
 | .sli e,.str=>0 < (T e).size∧(match (T e).k with
  | .int .u8=>slK rw x fun _ sz c=>sz = 1∧∃ bs:List Int,c = bs.map (fun n=>PV.v (.int .u8 n))∧K (.v (.string (bs.foldl (fun r n=>r.push (UInt8.ofNat n.toNat)) ByteArray.empty)))
  | _=>False)
 | _,_=>False
def ziS (T:Tab) (rw:Nat→Row) (ev:Operand→PV) (op:Op) (K:PV→Prop):Prop :=
 match op with
 | .move x=>K (ev x)
 | .assign x=>K (ev x)
 | .pick c a b=>(match ev c with | .v (.bool t)=>(t = true→K (ev a))∧(t = false→K (ev b)) | _=>False)
 | .binOp op t x y _=>zcY T op t (ev x) (ev y) K
 | .unOp op _ x=>unK op (ev x) K
 | .convert src dst x=>zfP T rw src dst (ev x) K
 | .load t x=>zrT rw (ev x) fun m c off=>ldK T t m c off K
 | .fieldAddr t x f=>zdQ T t f fun o _=>zkM (ev x) = true∧zdu rw (ev x) (K (zd7 (ev x) o))
 | .field t x f=>zdQ T t f fun o ft=>(match ev x with | .ag c=>ldK T ft .asis c o K | _=>False)
 | .indexAddr t x i=>zbn T rw t (ev x) (ev i) K
 | .index t x i=>0 < (T t).size∧(match (T t).k,ev x,ev i with
  | .str,.v (.string s),.v (.int _ n)=>0 ≤ n∧n.toNat < s.size∧K (.v (.int .u8 ((s.data.toList.getD n.toNat 0).toNat:Int)))
  | .arr len e,.ag c,.v (.int _ n)=>0 ≤ n∧n < len∧ldK T e .asis c (n.toNat * (T e).size) K
  | _,_,_=>False)
 | .slice t x lo hi mx=>zbv T rw ev t (ev x) lo hi mx K
 | .extract x i=>(match ev x with | .tup ps=>i < ps.length∧K (ps.getD i .junk) | _=>False)
 | .makeFunc fn first caps=>(match fn with | .func f=>first = #[]∧K (.clo f (caps.toList.map ev)) | _=>False)
 | .nilCheck x=>zdu rw (ev x) (K (ev x))
 | .call c=>(match c with
  | ⟨.builtin .len,⟨[x]⟩,⟨[t]⟩⟩=>zzV T rw t (ev x) K
  | ⟨.builtin .max,⟨[x,y]⟩,_⟩=>zcB true (ev x) (ev y) K
  | ⟨.builtin .min,⟨[x,y]⟩,_⟩=>zcB false (ev x) (ev y) K
  | _=>False)
 | _=>False
end Go.Abs

/- DERIVED by an AI agent. The model yields what the operations that compute or read are said to yield. No program in sight. -/
namespace Go.Abs
set_option linter.unusedSimpArgs false
section
variable {P:Program} {T:Tab} {w:World} {E:Env} {G:Ghost} {rw:Nat→Row} {K:PV→Prop}
theorem zzR [zad] (hT:T.Ok P) {op:BinOp} {t:TypeId} {x y:Operand} {p q:PV} {a b:Value} (hk:zcY T op t p q K) (hp:Rep w E 0 p a) (hq:Rep w E 0 q b) :
 ∃ r,K r∧∃ v,(do eqGuard op t x y a b;binOp op t a b:Sem Value).run P w = .ok v w∧Rep w E 0 r v:=by
 unfold zcY at hk
 split at hk
 ·obtain ⟨hc,hk⟩:=hk
  have:=hp.v_eq;subst this
  have:=hq.v_eq;subst this
  refine ⟨_,hk,_,?_,.v _⟩
  rw [Sem.run_bind,zkO]
  simp only [Result.andThen_ok]
  exact zwB w _ _ _ _ _ _ hc
 ·obtain ⟨hc,hk⟩:=hk
  have:=hp.v_eq;subst this
  have:=hq.v_eq;subst this
  split at hk
  ·rename_i r hr
   refine ⟨_,hk,_,?_,.v _⟩
   rw [Sem.run_bind,zhg]
   simp only [Result.andThen_ok]
   exact zwC w _ _ _ _ _ hc hr
  ·exact hk.elim
 ·obtain ⟨hb,hs,hk⟩:=hk
  have:=hp.v_eq;subst this
  have:=hq.v_eq;subst this
  have hf:=(hT t hs).k
  rw [hb] at hf
  split at hk
  ·refine ⟨_,hk,_,?_,.v _⟩
   rw [Sem.run_bind,zeD]
   simp [binOp,run_equal_bool w t _ _ hf]
  ·refine ⟨_,hk,_,?_,.v _⟩
   rw [Sem.run_bind,zeD]
   simp [binOp,run_equal_bool w t _ _ hf]
  ·exact hk.elim
 ·exact hk.elim
theorem zBQ [zad] {op:UnOp} {p:PV} {a:Value} (hk:unK op p K) (hp:Rep w E 0 p a):∃ r,K r∧∃ v,(Op.unary op a).run P w = .ok v w∧Rep w E 0 r v:=by
 unfold unK at hk
 split at hk
 ·have:=hp.v_eq;subst this;exact ⟨_,hk,_,by simp [Op.unary],.v _⟩
 ·have:=hp.v_eq;subst this;exact ⟨_,hk,_,by simp [Op.unary,Op.intArith],.v _⟩
 ·have:=hp.v_eq;subst this
  exact ⟨_,hk,_,by simp [Op.unary,Op.intBits,zEz],.v _⟩
 ·exact hk.elim
theorem zhQ {p:PV} {Kp:Prop} {x:Value} (hk:zdu rw p Kp) (hR:E.R = rw) (hp:Rep w E 0 p x) :
 Kp∧((∃ f cs vs,p = .clo f cs∧x = .func (.func f) #[] vs) ∨ ∃ b o,x = .pointer (some ⟨b,o,none⟩)∧zkM p = true∧∀ d,Rep w E 0 (zd7 p d) (.pointer (some ⟨b,o + d,none⟩))):=by
 subst hR
 cases hp with
 | @ref _ _ k ver off x hv hx =>
   obtain ⟨h1,h2,hk⟩:=hk
   obtain ⟨b,hb,hx⟩:=hx h1 h2
   refine ⟨hk,.inr ⟨b,off,hx,rfl,fun d=>.ref hv fun _ _=>⟨b,hb,rfl⟩⟩⟩
 | @eref _ _ fr cells off b o cs hr hh =>
   refine ⟨hk,.inr ⟨b,o + off,rfl,rfl,fun d=>?_⟩⟩
   have:=Rep.eref (w:=w) (E:=E) (lo:=0) (fr:=fr) (off:=off + d) (b:=b) (o:=o) cs hr hh
   rwa [← Nat.add_assoc] at this
 | clo hl hh=>exact ⟨hk,.inl ⟨_,_,_,rfl,rfl⟩⟩
 | v x=>exact hk.elim
 | sl=>exact hk.elim
 | own=>exact hk.elim
 | ag=>exact hk.elim
 | tup=>exact hk.elim
 | junk=>exact hk.elim
theorem zdc (b o d:Nat):(⟨b,o,none⟩:Addr).add d = ⟨b,o + d,none⟩:=by
 unfold Addr.add;split
 ·rename_i h;simp [h]
 ·rfl
theorem zkJ [zad] (hT:T.Ok P) {t:TypeId} {f:Nat} {p:PV} {x:Value} (hk:zdQ T t f fun o _=>zkM p = true∧zdu rw p (K (zd7 p o))) (hR:E.R = rw) (hp:Rep w E 0 p x) :
 ∃ r,K r∧∃ v,(Instr.fieldAt t x f).run P w = .ok v w∧Rep w E 0 r v:=by
 obtain ⟨hs,hk⟩:=hk
 have hf:=(hT t hs).k
 split at hk
 ·rename_i fs hfs
  rw [hfs] at hf
  obtain ⟨flds,hu,hfl⟩:=hf
  split at hk
  ·rename_i o ft hget
   obtain ⟨hft,hptr,hk⟩:=hk
   obtain ⟨hk,hx⟩:=zhQ hk hR hp
   rcases hx with ⟨f',cs,vs,rfl,_⟩ | ⟨b,off,rfl,_,hsh⟩
   ·cases hptr
   ·have hg:∃ fd,flds[f]? = some fd∧fd.offset = o∧fd.type = ft:=by
     rw [← hfl] at hget
     simp only [List.getElem?_map,Option.map_eq_some_iff] at hget
     obtain ⟨fd,h1,h2⟩:=hget
     injection h2 with h2 h3
     exact ⟨fd,by simpa using h1,h2,h3⟩
    obtain ⟨fd,h1,h2,h3⟩:=hg
    have hsz:=zaR (hT ft hft) w
    refine ⟨_,hk,_,?_,hsh o⟩
    have hne:(T ft).size ≠ 0:=by omega
    simp [Instr.fieldAt,run_underlying hu,h1,Instr.sureAddr,fieldPlace,h3,hsz,hne,h2,zdc]
  ·exact hk.elim
 ·exact hk.elim
theorem zzS [zad] (hT:T.Ok P) {t:TypeId} {cells:List PV} {vs:List Value} {o:Nat} (hk:ldK T t .asis cells o K) (hl:cells.length = vs.length)
 (hh:∀ i (h:i < cells.length) (h':i < vs.length),Rep w E 0 cells[i] vs[i]):∃ r,K r∧∃ v,(part t vs.toArray o).run P w = .ok v w∧Rep w E 0 r v:=by
 obtain ⟨hs,hk⟩:=hk
 have hf:=hT t hs
 have hag:=zrg hf.k w
 have hsz:=zaR hf w
 cases hagg:(T t).k.agg with
 | true =>
   simp only [hagg] at hk
   obtain ⟨hlen,hk⟩:=hk
   refine ⟨_,hk,.agg ((vs.drop o).take (T t).size).toArray,?_,?_⟩
   ·simp [part,hag,hagg,hsz,List.extract_toArray,List.extract_eq_take_drop]
   ·refine .ag (by simp [hl]) (fun i h h'=>?_)
    simp at h h'
    simp only [List.getElem_take,List.getElem_drop,List.getElem_map]
    exact hh _ (by omega) (by omega)
 | false =>
   simp only [hagg] at hk
   obtain ⟨hlen,hk⟩:=hk
   have hlen':o < vs.length:=by omega
   refine ⟨_,hk,vs[o],?_,?_⟩
   ·simp [part,hag,hagg,hlen']
   ·have e:cells.getD o .junk = cells[o]:=by simp [List.getD,hlen]
    rw [e]
    exact hh o hlen hlen'
theorem zsn [zad] (hT:T.Ok P) {t:TypeId} {f:Nat} {p:PV} {x:Value} (hk:zdQ T t f fun o ft=>(match p with | .ag c=>ldK T ft .asis c o K | _=>False)) (hp:Rep w E 0 p x) :
 ∃ r,K r∧∃ v,(Instr.field t x f).run P w = .ok v w∧Rep w E 0 r v:=by
 obtain ⟨hs,hk⟩:=hk
 have hf:=(hT t hs).k
 split at hk
 ·rename_i fs hfs
  rw [hfs] at hf
  obtain ⟨flds,hu,hfl⟩:=hf
  split at hk
  ·rename_i o ft hget
   obtain ⟨hft,hk⟩:=hk
   cases hp with
   | @ag _ _ cells vs hl hh =>
     have hg:∃ fd,flds[f]? = some fd∧fd.offset = o∧fd.type = ft:=by
      rw [← hfl] at hget
      simp only [List.getElem?_map,Option.map_eq_some_iff] at hget
      obtain ⟨fd,h1,h2⟩:=hget
      injection h2 with h2 h3
      exact ⟨fd,by simpa using h1,h2,h3⟩
     obtain ⟨fd,h1,h2,h3⟩:=hg
     obtain ⟨r,hr,v,hv,hrep⟩:=zzS (w:=w) hT hk hl hh
     refine ⟨r,hr,v,?_,hrep⟩
     simp [Instr.field,run_underlying hu,h1,asAgg,h2,h3,hv]
   | v x=>exact hk.elim
   | sl=>exact hk.elim
   | own=>exact hk.elim
   | ref=>exact hk.elim
   | eref=>exact hk.elim
   | tup=>exact hk.elim
   | clo=>exact hk.elim
   | junk=>exact hk.elim
  ·exact hk.elim
 ·exact hk.elim
theorem zzT [zad] {k ver:Nat} {x:Value} (hw:WOk G E w) (hp:Rep w E 0 (.own k ver) x) (hv:(E.R k).ver = ver) {e:TypeId} {sz:Nat} {fz:Bool} {c:List PV} (hk:(E.R k).kind = .sli e sz fz c) (hc:0 < c.length) :
 ∃ b n cap vs rest,E.rm k = some b∧x = .slice (some ⟨b,0,none⟩) n cap∧w.heap[b]? = some (.cells (vs ++ rest).toArray e (0,0)) ∧
  vs.length = n * sz∧n ≤ cap∧cap ≤ maxLen∧(vs ++ rest).length = cap * sz∧zbj w E.bare E.B c vs:=by
 cases hp with
 | own _ hx =>
   have hx:=hx hv (by rw [hk];rfl)
   have hrow:=hw.rows k
   unfold zau at hrow
   simp only [hk] at hrow
   rcases hrow with ⟨h1,h2,h3⟩ | ⟨b,n,cap,vs,rest,h1,h2,h3,h4,h5,h6,h7,h8,h9⟩
   ·subst h3;simp at hc
   ·exact ⟨b,n,cap,vs,rest,h1,hx.trans h3,h4,h5,h6,h7,h8,h9⟩
theorem zcA [zad] {t e:TypeId} {n:Nat} (hu:P.underlying t = some (.slice e)) (hs:(sizeOf e).run P w = .ok n w) {k:IntKind} {i:Int} {b o len cap:Nat} (h0:0 ≤ i) (h1:i < len) :
 (Instr.indexAt t (.slice (some ⟨b,o,none⟩) len cap) (.int k i)).run P w = .ok (.pointer (some ⟨b,o + i.toNat * n,none⟩)) w:=by
 simp [Instr.indexAt,asIntOf,run_underlying hu,h0,h1,hs,zdc]
theorem zhR [zad] {t e:TypeId} {n:Nat} {len:Nat} (hu:P.underlying t = some (.array len e)) (hs:(sizeOf e).run P w = .ok n w) {k:IntKind} {i:Int} {b o:Nat} (h0:0 ≤ i) (h1:i < len) :
 (Instr.indexAt t (.pointer (some ⟨b,o,none⟩)) (.int k i)).run P w = .ok (.pointer (some ⟨b,o + i.toNat * n,none⟩)) w:=by
 simp [Instr.indexAt,asIntOf,run_underlying hu,h0,h1,hs,zdc,Instr.sureAddr]
theorem zkK {i sz len:Nat} {m:Nat} (h:i * sz < m) (hl:m = len * sz):i < len:=by
 subst hl
 exact Nat.lt_of_mul_lt_mul_right h
theorem zkL [zad] (hT:T.Ok P) (hw:WOk G E w) {t:TypeId} {p q:PV} {x y:Value} (hk:zbn T rw t p q K) (hR:E.R = rw) (hp:Rep w E 0 p x) (hq:Rep w E 0 q y) :
 ∃ r,K r∧∃ v,(Instr.indexAt t x y).run P w = .ok v w∧Rep w E 0 r v:=by
 subst hR
 unfold zbn at hk
 split at hk
 ·rename_i k n
  have:=hq.v_eq;subst this
  obtain ⟨hs,hk⟩:=hk
  have hf:=(hT t hs).k
  split at hk
  ·rename_i e he
   rw [he] at hf
   have hu:P.underlying t = some (.slice e):=hf
   split at hk
   ·rename_i fr sz c
    obtain ⟨hes,hsz,h0,h1,hk⟩:=hk
    have hsize:=zaR (hT e hes) w
    rw [← hsz] at hsize
    cases hp with
    | @sl _ _ _ _ len cap _ a cs hl hc hm hr hh =>
      obtain ⟨b,o,rfl,hb,hL,hcell⟩:=hr _ h1
      have hlt:n.toNat < len:=zkK h1 hl
      refine ⟨_,hk,_,zcA hu hsize h0 (by omega),?_⟩
      refine .eref (b:=b) (o:=o) cs (fun i hi=>?_) hh
      obtain ⟨b',o',ha,hb',hL',hcell'⟩:=hr i hi
      injection ha with ha
      injection ha with h1 h2
      subst h1;subst h2
      exact ⟨hb',hL',hcell'⟩
   ·rename_i k' ver
    obtain ⟨hv,hk⟩:=hk
    split at hk
    ·rename_i e' sz fz c hkind
     obtain ⟨hes,hsz,h0,h1,hk⟩:=hk
     have hsize:=zaR (hT e hes) w
     rw [← hsz] at hsize
     obtain ⟨b,m,cap,vs,rest,hrm,rfl,hheap,hvl,hmc,hcm,hcap,hrl⟩:=zzT hw hp hv hkind (by omega)
     have hlt:n.toNat < m:=zkK h1 (hrl.1.trans hvl)
     refine ⟨_,hk,_,zcA hu hsize h0 (by omega),?_⟩
     rw [Nat.zero_add]
     exact .ref (by omega) fun _ _=>⟨b,hrm,rfl⟩
    ·rename_i e' c hkind
     obtain ⟨hes,h0,h1,hk⟩:=hk
     have hsize:=zaR (hT e (by omega)) w
     rw [hes] at hsize
     have hrow:=hw.rows k'
     unfold zau at hrow
     simp only [hkind] at hrow
     rcases hrow with ⟨_,_,hc0⟩ | ⟨b,m,cap,vs,rest,hrm,_,hrv,hheap,hvl,hmc,hcm,hcap,hrl⟩
     ·rw [hc0] at h1;exact absurd h1 (by simp)
     cases hp with
     | own _ hx =>
       have hx:=hx hv (by rw [hkind];rfl)
       rw [hrv] at hx
       subst hx
       have hlt:n.toNat < m:=by rw [hrl.1] at h1;omega
       refine ⟨_,hk,_,zcA hu hsize h0 (by omega),?_⟩
       rw [Nat.zero_add,Nat.mul_one]
       exact .ref (by omega) fun _ _=>⟨b,hrm,rfl⟩
    ·exact hk.elim
   ·exact hk.elim
  ·rename_i len e he
   rw [he] at hf
   have hu:P.underlying t = some (.array len e):=hf
   obtain ⟨hptr,hes,h0,h1,hk⟩:=hk
   have hsize:=zaR (hT e hes) w
   obtain ⟨hk,hx⟩:=zhQ hk rfl hp
   rcases hx with ⟨f',cs,vs,rfl,_⟩ | ⟨b,off,rfl,_,hsh⟩
   ·cases hptr
   ·exact ⟨_,hk,_,zhR hu hsize h0 h1,hsh _⟩
  ·exact hk.elim
 ·exact hk.elim
theorem zzU [zad] (hT:T.Ok P) (hw:WOk G E w) {t ty:TypeId} {p:PV} {x:Value} (hk:zzV T rw t p K) (hR:E.R = rw) (hp:Rep w E 0 p x) :
 ∃ r,K r∧∃ v,(Builtin.len_ #[t] ty #[x]).run P w = .ok v w∧Rep w E 0 r v:=by
 obtain ⟨hs,hk⟩:=hk
 have hf:=(hT t hs).k
 split at hk
 ·rename_i he
  rw [he] at hf
  have hu:P.underlying t = some .string:=hf
  split at hk
  ·have:=hp.v_eq;subst this
   exact ⟨_,hk,_,by simp [Builtin.len_,run_underlying hu,goInt],.v _⟩
  ·exact hk.elim
 ·rename_i e he
  rw [he] at hf
  have hu:P.underlying t = some (.slice e):=hf
  obtain ⟨sz,c,⟨hsz,hk⟩,a,len,cap,rfl,hl⟩:=zwA hk hR hw hp
  have e:c / sz = len:=by rw [hl];exact Nat.mul_div_cancel _ hsz
  rw [e] at hk
  exact ⟨_,hk,_,by simp [Builtin.len_,run_underlying hu,goInt],.v _⟩
 ·rename_i n e he
  rw [he] at hf
  have hu:P.underlying t = some (.array n e):=hf
  exact ⟨_,hk,_,by simp [Builtin.len_,run_underlying hu,goInt],.v _⟩
 ·exact hk.elim
end
end Go.Abs

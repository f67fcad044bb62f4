/- DERIVED by an AI agent. -/
import Derived.WalkKit
import Derived.Orders
import Derived.MapKept
import Derived.ChangeMaps5
namespace Go.Abs
theorem om {p:Prop} (h:p:=by omega):p:=h
theorem sp {p:Prop} (h:p:=by simp):p:=h
inductive PV where
 | v (x:Value)
 | sl (fr:Bool) (sz:Nat) (cells:List PV)
 | own (k ver:Nat)
 | ref (k ver off:Nat)
 | eref (fr:Bool) (cells:List PV) (off:Nat)
 | ag (cells:List PV)
 | tup (parts:List PV)
 | clo (f:FuncId) (caps:List PV)
 | junk
 deriving Inhabited
inductive RK where
 | dead
 | nil
 | box (t:TypeId) (cells:List PV)
 | sli (e:TypeId) (sz:Nat) (fz:Bool) (cells:List PV)
 | tab (e:TypeId) (cells:List PV)
 | mp (f:Int->Int)
def RK.nd:RK->Bool | .dead=>false | _=>true
def RK.live:RK->Bool | .box _ _=>true | .sli _ _ fz _=>!fz | .tab _ _=>true | .mp _=>true | _=>false
def RK.slice:RK->Bool | .nil=>true | .sli _ _ _ _=>true | .tab _ _=>true | .mp _=>true | _=>false
structure Row where
 ver:Nat
 kind:RK
structure St where
 sl:Nat->PV
 rw:Nat->Row
structure Env where
 R:Nat->Row
 rm:Nat->Option Nat
 rv:Nat->Value
 L:Nat->Prop
 B:Nat
 X:Nat->Prop
def Env.lo (E:Env) (lo:Nat) (fr:Bool):Nat:=max lo (if fr = true then E.B else 0)
def Env.bare (E:Env):Env:={ R:=fun _=>⟨0,.dead⟩,rm:=fun _=>none,rv:=fun _=>default,L:=E.L,B:=0,X:=fun _=>False }
inductive Rep (w:World):Env->Nat->PV->Value->Prop
 | v {E:Env} {lo:Nat} (x:Value):Rep w E lo (.v x) x
 | sl {E:Env} {lo:Nat} {fr:Bool} {sz len cap:Nat} {cells:List PV} {a:Option Addr} (cs:Nat->Value)
  (hl:cells.length = len * sz) (hc:len <= cap) (hm:cap <= maxLen)
  (hr:∀ i,i < cells.length->∃ b o,a = some ⟨b,o,none⟩/\E.lo lo fr <= b/\¬ E.L b/\w.cell? ⟨b,o + i,none⟩ = some (cs i))
  (hh:∀ i (h:i < cells.length),Rep w E.bare (E.lo lo fr) cells[i] (cs i)):Rep w E lo (.sl fr sz cells) (.slice a len cap)
 | own {E:Env} {lo k ver:Nat} {x:Value} (hv:ver <= (E.R k).ver) (hx:(E.R k).ver = ver->(E.R k).kind.slice = true->x = E.rv k):Rep w E lo (.own k ver) x
 | ref {E:Env} {lo k ver off:Nat} {x:Value} (hv:ver <= (E.R k).ver)
  (hx:(E.R k).ver = ver->(E.R k).kind.nd = true->∃ b,E.rm k = some b/\x = .pointer (some ⟨b,off,none⟩)):Rep w E lo (.ref k ver off) x
 | eref {E:Env} {lo:Nat} {fr:Bool} {cells:List PV} {off b o:Nat} (cs:Nat->Value)
  (hr:∀ i,i < cells.length->E.lo lo fr <= b/\¬ E.L b/\w.cell? ⟨b,o + i,none⟩ = some (cs i))
  (hh:∀ i (h:i < cells.length),Rep w E.bare (E.lo lo fr) cells[i] (cs i)):Rep w E lo (.eref fr cells off) (.pointer (some ⟨b,o + off,none⟩))
 | ag {E:Env} {lo:Nat} {cells:List PV} {vs:List Value} (hl:cells.length = vs.length) (hh:∀ i (h:i < cells.length) (h':i < vs.length),Rep w E lo cells[i] vs[i]) :
  Rep w E lo (.ag cells) (.agg vs.toArray)
 | tup {E:Env} {lo:Nat} {cells:List PV} {vs:List Value} (hl:cells.length = vs.length) (hh:∀ i (h:i < cells.length) (h':i < vs.length),Rep w E lo cells[i] vs[i]) :
  Rep w E lo (.tup cells) (.tuple vs.toArray)
 | clo {E:Env} {lo:Nat} {f:FuncId} {cells:List PV} {vs:List Value} (hl:cells.length = vs.length) (hh:∀ i (h:i < cells.length) (h':i < vs.length),Rep w E lo cells[i] vs[i]) :
  Rep w E lo (.clo f cells) (.func (.func f) #[] vs.toArray)
 | junk {E:Env} {lo:Nat} (x:Value):Rep w E lo .junk x
def zbu (w:World) (E:Env) (lo:Nat) (ps:List PV) (vs:List Value):Prop :=
 ps.length = vs.length/\∀ i (h:i < ps.length) (h':i < vs.length),Rep w E lo ps[i] vs[i]
theorem zfb {w w':World} {b o:Nat} {s:Option Nat} (h:w'.heap[b]? = w.heap[b]?):w'.cell? ⟨b,o,s⟩ = w.cell? ⟨b,o,s⟩:=by
 simp [World.cell?,h]
theorem zjk {w:World} {b o:Nat} {v:Value} (h:w.cell? ⟨b,o,none⟩ = some v):b < w.heap.size :=
 World.block_lt_of_cell? w ⟨b,o,none⟩ h
structure Lasts (w w':World) (E E':Env):Prop where
 cells:∀ b,b < w.heap.size->¬ E.L b->w'.heap[b]? = w.heap[b]?/\¬ E'.L b
 ver:∀ k,(E.R k).ver <= (E'.R k).ver
 slice:∀ k,(E'.R k).ver = (E.R k).ver->(E'.R k).kind.slice = true->(E.R k).kind.slice = true/\E'.rv k = E.rv k
 nd:∀ k,(E'.R k).ver = (E.R k).ver->(E'.R k).kind.nd = true->(E.R k).kind.nd = true/\E'.rm k = E.rm k
 base:E'.B <= E.B
theorem Lasts.bare {w w':World} {E E':Env} (h:Lasts w w' E E'):Lasts w w' E.bare E'.bare :=
 ⟨h.cells,fun _=>Nat.le_refl _,fun _ _ h=>absurd h (by simp [Env.bare,RK.slice]),fun _ _ h=>absurd h (by simp [Env.bare,RK.nd]),Nat.le_refl _⟩
theorem Rep.mono {w w':World} {E E':Env} (hh:Lasts w w' E E') {lo:Nat} {p:PV} {x:Value} (h:Rep w E lo p x):∀ {lo':Nat},lo' <= lo->Rep w' E' lo' p x:=by
 induction h generalizing E' with
 | v x=>exact fun _=>.v x
 | @sl E lo fr sz len cap cells a cs hl hc hm hr hcs ih =>
   intro lo' hlo
   have hle:E'.lo lo' fr <= E.lo lo fr:=by
    have:=hh.base;unfold Env.lo;cases fr <;> simp <;> omega
   refine .sl cs hl hc hm (fun i hi=>?_) (fun i hi=>ih i hi hh.bare hle)
   obtain ⟨b,o,ha,hb,hL,hcell⟩:=hr i hi
   obtain ⟨e1,e2⟩:=hh.cells b (zjk hcell) hL
   exact ⟨b,o,ha,Nat.le_trans hle hb,e2,(zfb e1).trans hcell⟩
 | @own E lo k ver x hv hx =>
   intro lo' _
   refine .own (Nat.le_trans hv (hh.ver k)) fun he hs=>?_
   have e:(E'.R k).ver = (E.R k).ver:=by have:=hh.ver k;omega
   obtain ⟨a1,a2⟩:=hh.slice k e hs
   rw [a2];exact hx (by omega) a1
 | @ref E lo k ver off x hv hx =>
   intro lo' _
   refine .ref (Nat.le_trans hv (hh.ver k)) fun he hs=>?_
   have e:(E'.R k).ver = (E.R k).ver:=by have:=hh.ver k;omega
   obtain ⟨a1,a2⟩:=hh.nd k e hs
   rw [a2];exact hx (by omega) a1
 | @eref E lo fr cells off b o cs hr hcs ih =>
   intro lo' hlo
   have hle:E'.lo lo' fr <= E.lo lo fr:=by
    have:=hh.base;unfold Env.lo;cases fr <;> simp <;> omega
   refine .eref cs (fun i hi=>?_) (fun i hi=>ih i hi hh.bare hle)
   obtain ⟨hb,hL,hcell⟩:=hr i hi
   obtain ⟨e1,e2⟩:=hh.cells _ (zjk hcell) hL
   exact ⟨Nat.le_trans hle hb,e2,(zfb e1).trans hcell⟩
 | ag hl _ ih=>exact fun hlo=>.ag hl (fun i a b=>ih i a b hh hlo)
 | tup hl _ ih=>exact fun hlo=>.tup hl (fun i a b=>ih i a b hh hlo)
 | clo hl _ ih=>exact fun hlo=>.clo hl (fun i a b=>ih i a b hh hlo)
 | junk x=>exact fun _=>.junk x
theorem Lasts.refl (w:World) (E:Env):Lasts w w E E:=⟨fun _ _ h=>⟨rfl,h⟩,fun _=>Nat.le_refl _,fun _ _ h=>⟨h,rfl⟩,fun _ _ h=>⟨h,rfl⟩,Nat.le_refl _⟩
theorem Rep.low {w:World} {E:Env} {lo lo':Nat} {p:PV} {x:Value} (h:Rep w E lo p x) (hl:lo' <= lo):Rep w E lo' p x:=h.mono (Lasts.refl w E) hl
theorem zbu.mono {w w':World} {E E':Env} {lo lo':Nat} {ps:List PV} {vs:List Value} (hh:Lasts w w' E E') (hl:lo' <= lo) (h:zbu w E lo ps vs):zbu w' E' lo' ps vs :=
 ⟨h.1,fun i a b=>(h.2 i a b).mono hh hl⟩
def ziw:List MapEntry->Int->Int
 | [],_=>0
 | e :: es,a=>match e.key,e.val with | .int .u64 b,.int .i64 x=>if b = a then x else ziw es a | _,_=>ziw es a
def zFp (es:List MapEntry) (f:Int->Int):Prop:=(∀ e ∈ es,∃ a x,e.key = .int .u64 a/\e.val = .int .i64 x)/\∀ a,ziw es a = f a
def zav (w:World) (E:Env) (C:Nat->Nat->Prop) (k:Nat):Prop :=
 match (E.R k).kind with
 | .dead=>True
 | .nil=>E.rm k = none/\E.rv k = .slice none 0 0
 | .box t cells=>∃ b vs,E.rm k = some b/\C k b/\w.heap[b]? = some (.cells vs.toArray t (0,0))/\zbu w E 0 cells vs
 | .sli e sz _ cells =>
   (E.rm k = none/\E.rv k = .slice none 0 0/\cells = []) \/
   ∃ b n cap vs rest,E.rm k = some b/\C k b/\E.rv k = .slice (some ⟨b,0,none⟩) n cap/\w.heap[b]? = some (.cells (vs ++ rest).toArray e (0,0)) /\
    vs.length = n * sz/\n <= cap/\cap <= maxLen/\(vs ++ rest).length = cap * sz/\zbu w E.bare E.B cells vs
 | .tab e cells =>
   (E.rm k = none/\E.rv k = .slice none 0 0/\cells = []) \/
   ∃ b n cap vs rest,E.rm k = some b/\C k b/\E.rv k = .slice (some ⟨b,0,none⟩) n cap/\w.heap[b]? = some (.cells (vs ++ rest).toArray e (0,0)) /\
    vs.length = n/\n <= cap/\cap <= maxLen/\(vs ++ rest).length = cap/\zbu w E 0 cells vs
 | .mp f=>∃ b es clock,E.rm k = some b/\C k b/\E.rv k = .map (some b)/\w.heap[b]? = some (.map es clock)/\zFp es.toList f
structure HeldS where
 Φ:World->Prop
 Gl:Nat->Prop
 dr:Prop
 keep:∀ {w w':World},Φ w->(∀ b,Gl b->w'.heap[b]? = w.heap[b]?)->Φ w'
 low:∀ {w:World} {b:Nat},Φ w->Gl b->b < w.heap.size
abbrev zae:=Inhabited HeldS
def zae.Φ [zae]:World->Prop:=(default:HeldS).Φ
def zae.Gl [zae]:Nat->Prop:=(default:HeldS).Gl
def zae.dr [zae]:Prop:=(default:HeldS).dr
structure OutLe [zae] (w w':World):Prop where
 same:w'.output = w.output
 more:zae.dr->w.drawn <= w'.drawn
theorem OutLe.refl [zae] (w:World):OutLe w w:=⟨rfl,fun _=>Nat.le_refl _⟩
theorem OutLe.trans [zae] {a b c:World} (k:OutLe b c) (h:OutLe a b):OutLe a c:=⟨k.same.trans h.same,fun hd=>Nat.le_trans (h.more hd) (k.more hd)⟩
theorem zae.keep [zae] {w w':World} (h:zae.Φ w) (hb:∀ b,zae.Gl b->w'.heap[b]? = w.heap[b]?):zae.Φ w':=(default:HeldS).keep h hb
theorem zae.low [zae] {w:World} {b:Nat} (h:zae.Φ w) (hb:zae.Gl b):b < w.heap.size:=(default:HeldS).low h hb
structure Fx [zae] (w0:World) (M:Nat->Nat->Prop) (X:Nat->Prop):Prop where
 low:∀ b,X b->b < w0.heap.size
 mx:∀ k b,M k b->¬ zae.Gl b
 phi:zae.Φ w0
structure Ghost where
 w0:World
 M:Nat->Nat->Prop
 n:Nat
 pR:Nat->Row
 pm:Nat->Option Nat
 px:Nat->Value
 X:Nat->Prop
structure Kept [zae] (G:Ghost) (w:World):Prop where
 os:w.os = G.w0.os
 tape:w.tape = G.w0.tape
 output:OutLe G.w0 w
 size:G.w0.heap.size <= w.heap.size
 block:∀ b,b < G.w0.heap.size->(∀ k,¬ G.M k b)->w.heap[b]? = G.w0.heap[b]?
def lent:Nat:=1000000
def Ghost.C (G:Ghost) (k b:Nat):Prop:=G.w0.heap.size <= b \/ (lent <= k/\G.M k b)
structure WOk [zae] (G:Ghost) (E:Env) (w:World):Prop where
 rows:∀ k,zav w E G.C k
 inj:∀ k k' b,(E.R k).kind.nd = true->(E.R k').kind.nd = true->E.rm k = some b->E.rm k' = some b->k = k'
 live:∀ b,E.L b ↔ (∃ k,E.rm k = some b/\(E.R k).kind.live = true) \/ E.X b
 pos:∀ k,(E.R k).kind.nd = true->0 < (E.R k).ver
 base:E.B = G.w0.heap.size
 xs:E.X = G.X
 fx:Fx G.w0 G.M G.X
 apart:∀ k b,(E.R k).kind.nd = true->E.rm k = some b->¬ G.X b
 kept:Kept G w
 pin:∀ k,(G.pR k).ver <= (E.R k).ver/\((E.R k).ver = (G.pR k).ver->(E.R k).kind.nd = true->(G.pR k).kind.nd = true/\E.rm k = G.pm k/\((E.R k).kind.slice = true->(G.pR k).kind.slice = true/\E.rv k = G.px k))
theorem WOk.held [zae] {G:Ghost} {E:Env} {w:World} (h:WOk G E w):zae.Φ w :=
 zae.keep h.fx.phi fun b hb=>h.kept.block b (zae.low h.fx.phi hb) fun k hM=>h.fx.mx k b hM hb
structure SimE [zae] (G:Ghost) (E:Env) (s:St) (a:Act) (w:World):Prop where
 rw:E.R = s.rw
 wok:WOk G E w
 size:a.tmps.size = G.n
 defers:a.defers = []
 slots:∀ i,Rep w E 0 (s.sl i) (a.tmps.getD i undef)
def Sim [zae] (G:Ghost) (s:St) (a:Act) (w:World):Prop:=∃ E,SimE G E s a w
def zuT:Value->PV
 | .agg cs=>.ag (cs.toList.map PV.v)
 | x=>.v x
def St.ev (s:St):Operand->PV
 | .tmp t=>s.sl t
 | .const c=>zuT c
 | .func f=>.clo f []
 | .global _=>.junk
def St.put (s:St) (d:Option Nat) (p:PV):St :=
 match d with
 | none=>s
 | some d=>{ s with sl:=fun i=>if i = d then p else s.sl i }
def St.row (s:St) (k:Nat) (r:Row):St:={ s with rw:=fun i=>if i = k then r else s.rw i }
theorem zaB {w:World} {E:Env} {s:St} {a:Act} (h:∀ i,Rep w E 0 (s.sl i) (a.tmps.getD i undef)) (x:Operand):Rep w E 0 (s.ev x) (a.eval x):=by
 cases x with
 | tmp t=>exact h t
 | const c =>
   show Rep w E 0 (zuT c) c
   cases c <;> first | exact .v _ | skip
   rename_i cs
   exact .ag (cells:=cs.toList.map PV.v) (vs:=cs.toList) (by simp) (fun i h h'=>by simp;exact .v _)
 | func f=>exact .clo (vs:=[]) rfl (fun i hi=>absurd hi (by simp))
 | global g=>exact .junk _
theorem SimE.put [zae] {G:Ghost} {E:Env} {s:St} {a:Act} {w:World} (h:SimE G E s a w) {d:Option Nat} (hd:∀ x,d = some x->x < G.n) {p:PV} {v:Value} (hp:Rep w E 0 p v) :
 SimE G E (s.put d p) (a.put d v) w:=by
 cases d with
 | none=>exact h
 | some d =>
   refine ⟨h.rw,h.wok,by simpa [Act.put] using h.size,h.defers,fun i=>?_⟩
   simp only [St.put,Act.put,Array.getD_eq_getD_getElem?]
   by_cases hi:i = d
   ·subst hi
    have:i < a.tmps.size:=by rw [h.size];exact hd i rfl
    simp [this];exact hp
   ·rw [if_neg hi,Array.getElem?_setIfInBounds_ne (Ne.symm hi)]
    have:=h.slots i
    rwa [Array.getD_eq_getD_getElem?] at this
theorem SimE.turn [zae] {G:Ghost} {E E':Env} {s:St} {a:Act} {w w':World} (h:SimE G E s a w) (hl:Lasts w w' E E') (hw:WOk G E' w'):SimE G E' { s with rw:=E'.R } a w' :=
 ⟨rfl,hw,h.size,h.defers,fun i=>(h.slots i).mono hl (Nat.le_refl _)⟩
structure Ext [zae] (w w':World):Prop where
 os:w'.os = w.os
 tape:w'.tape = w.tape
 output:OutLe w w'
 size:w.heap.size <= w'.heap.size
 block:∀ b,b < w.heap.size->w'.heap[b]? = w.heap[b]?
theorem Ext.refl [zae] (w:World):Ext w w:=⟨rfl,rfl,OutLe.refl w,Nat.le_refl _,fun _ _=>rfl⟩
theorem Ext.trans [zae] {a b c:World} (h:Ext a b) (k:Ext b c):Ext a c :=
 ⟨k.os.trans h.os,k.tape.trans h.tape,k.output.trans h.output,Nat.le_trans h.size k.size,fun i hi=>(k.block i (Nat.lt_of_lt_of_le hi h.size)).trans (h.block i hi)⟩
theorem Ext.lasts [zae] {w w':World} (h:Ext w w') (E:Env):Lasts w w' E E :=
 ⟨fun b hb hL=>⟨h.block b hb,hL⟩,fun _=>Nat.le_refl _,fun _ _ h=>⟨h,rfl⟩,fun _ _ h=>⟨h,rfl⟩,Nat.le_refl _⟩
theorem Ext.alloc [zae] (w:World) (o:Obj):Ext w (w.alloc o):=⟨rfl,rfl,⟨rfl,fun _=>Nat.le_refl _⟩,by simp,fun b hb=>by show (w.heap.push o)[b]? = _;rw [Array.getElem?_push,if_neg (by omega)]⟩
theorem Ext.drew [zae] (w:World):Ext w w.drew:=⟨rfl,rfl,⟨rfl,fun _=>Nat.le_succ _⟩,Nat.le_refl _,fun _ _=>rfl⟩
theorem zfB {w:World} {b:Nat} {o:Obj} (h:w.heap[b]? = some o):b < w.heap.size:=(Array.getElem?_eq_some_iff.1 h).1
theorem zav.ext [zae] {w w':World} {E:Env} {C:Nat->Nat->Prop} {k:Nat} (h:zav w E C k) (hx:Ext w w'):zav w' E C k:=by
 unfold zav at *
 split at h
 ·trivial
 ·exact h
 ·obtain ⟨b,vs,h1,h2,h3,h4⟩:=h
  exact ⟨b,vs,h1,h2,(hx.block b (zfB h3)).trans h3,h4.mono (hx.lasts E) (Nat.le_refl _)⟩
 ·rcases h with h | ⟨b,n,cap,vs,rest,h1,h2,h3,h4,h5,h6,h7,h8,h9⟩
  ·exact .inl h
  ·exact .inr ⟨b,n,cap,vs,rest,h1,h2,h3,(hx.block b (zfB h4)).trans h4,h5,h6,h7,h8,h9.mono (hx.lasts E).bare (Nat.le_refl _)⟩
 ·rcases h with h | ⟨b,n,cap,vs,rest,h1,h2,h3,h4,h5,h6,h7,h8,h9⟩
  ·exact .inl h
  ·exact .inr ⟨b,n,cap,vs,rest,h1,h2,h3,(hx.block b (zfB h4)).trans h4,h5,h6,h7,h8,h9.mono (hx.lasts E) (Nat.le_refl _)⟩
 ·obtain ⟨b,es,ck,h1,h2,h3,h4,h5⟩:=h
  exact ⟨b,es,ck,h1,h2,h3,(hx.block b (zfB h4)).trans h4,h5⟩
theorem Kept.ext [zae] {G:Ghost} {w w':World} (h:Kept G w) (hx:Ext w w'):Kept G w' :=
 ⟨hx.os.trans h.os,hx.tape.trans h.tape,hx.output.trans h.output,Nat.le_trans h.size hx.size,fun b hb hm=>(hx.block b (Nat.lt_of_lt_of_le hb h.size)).trans (h.block b hb hm)⟩
theorem WOk.ext [zae] {G:Ghost} {E:Env} {w w':World} (h:WOk G E w) (hx:Ext w w'):WOk G E w' :=
 ⟨fun k=>(h.rows k).ext hx,h.inj,h.live,h.pos,h.base,h.xs,h.fx,h.apart,h.kept.ext hx,h.pin⟩
theorem RK.nd_of_slice {k:RK} (h:k.slice = true):k.nd = true:=by cases k <;> simp_all [RK.slice,RK.nd]
theorem RK.nd_of_live {k:RK} (h:k.live = true):k.nd = true:=by cases k <;> simp_all [RK.live,RK.nd]
theorem WOk.block [zae] {G:Ghost} {E:Env} {w:World} (h:WOk G E w) {k b:Nat} (hb:E.rm k = some b) (hn:(E.R k).kind.nd = true):b < w.heap.size/\G.C k b:=by
 have hr:=h.rows k
 unfold zav at hr
 cases hk:(E.R k).kind with
 | dead=>rw [hk] at hn;cases hn
 | nil=>simp only [hk] at hr;rw [hr.1] at hb;cases hb
 | box t cells =>
   simp only [hk] at hr
   obtain ⟨b',vs,h1,h2,h3,_⟩:=hr
   rw [h1] at hb;cases hb
   exact ⟨zfB h3,h2⟩
 | sli e sz fz cells =>
   simp only [hk] at hr
   rcases hr with ⟨h1,_,_⟩ | ⟨b',n,cap,vs,rest,h1,h2,h3,h4,_⟩
   ·rw [h1] at hb;cases hb
   ·rw [h1] at hb;cases hb
    exact ⟨zfB h4,h2⟩
 | tab e cells =>
   simp only [hk] at hr
   rcases hr with ⟨h1,_,_⟩ | ⟨b',n,cap,vs,rest,h1,h2,h3,h4,_⟩
   ·rw [h1] at hb;cases hb
   ·rw [h1] at hb;cases hb
    exact ⟨zfB h4,h2⟩
 | mp f =>
   simp only [hk] at hr
   obtain ⟨b',es,ck,h1,h2,h3,h4,_⟩:=hr
   rw [h1] at hb;cases hb
   exact ⟨zfB h4,h2⟩
theorem WOk.low [zae] {G:Ghost} {E:Env} {w:World} (h:WOk G E w) {b:Nat} (hL:E.L b):b < w.heap.size:=by
 rcases (h.live b).1 hL with ⟨k,h1,h2⟩ | hX
 ·exact (h.block h1 (RK.nd_of_live h2)).1
 ·rw [h.xs] at hX
  exact Nat.lt_of_lt_of_le (h.fx.low b hX) h.kept.size
theorem SimE.ext [zae] {G:Ghost} {E:Env} {s:St} {a:Act} {w w':World} (h:SimE G E s a w) (hx:Ext w w'):SimE G E s a w' :=
 ⟨h.rw,h.wok.ext hx,h.size,h.defers,fun i=>(h.slots i).mono (hx.lasts E) (Nat.le_refl _)⟩
theorem WOk.ngl [zae] {G:Ghost} {E:Env} {w:World} (h:WOk G E w) {k b:Nat} (hb:E.rm k = some b) (hn:(E.R k).kind.nd = true):¬ zae.Gl b:=by
 have hC:G.C k b:=by
  have h0:=h.rows k
  unfold zav at h0
  cases hk:(E.R k).kind with
  | dead=>rw [hk] at hn;cases hn
  | nil=>simp only [hk] at h0;rw [h0.1] at hb;cases hb
  | box t c =>
    simp only [hk] at h0
    obtain ⟨b',vs,h1,h2,_⟩:=h0
    rw [h1] at hb;cases hb;exact h2
  | sli e sz fz c =>
    simp only [hk] at h0
    rcases h0 with ⟨h1,_⟩ | ⟨b',n,cap,vs,rest,h1,h2,_⟩
    ·rw [h1] at hb;cases hb
    ·rw [h1] at hb;cases hb;exact h2
  | tab e c =>
    simp only [hk] at h0
    rcases h0 with ⟨h1,_⟩ | ⟨b',n,cap,vs,rest,h1,h2,_⟩
    ·rw [h1] at hb;cases hb
    ·rw [h1] at hb;cases hb;exact h2
  | mp f =>
    simp only [hk] at h0
    obtain ⟨b',es,ck,h1,h2,_⟩:=h0
    rw [h1] at hb;cases hb;exact h2
 rcases hC with h1 | ⟨_,h2⟩
 ·exact fun hg=>absurd (zae.low h.fx.phi hg) (Nat.not_lt_of_le h1)
 ·exact h.fx.mx k b h2
set_option linter.unusedSimpArgs false
set_option linter.unusedVariables false
def zuU (es:List MapEntry):Prop:=∀ e ∈ es,∃ a x,e.key = .int .u64 a/\e.val = .int .i64 x
theorem zuU.tail {e:MapEntry} {es:List MapEntry} (h:zuU (e :: es)):zuU es:=fun x hx=>h x (List.mem_cons_of_mem _ hx)
theorem zcl {e:MapEntry} {es:List MapEntry} {b x a:Int} (hk:e.key = .int .u64 b) (hv:e.val = .int .i64 x):ziw (e :: es) a = if b = a then x else ziw es a:=by
 rw [ziw,hk,hv]
theorem zmx (a:Int):∀ (es:List MapEntry) (i:Nat),zuU es ->
 (Instr.findNow (.int .u64) (.int .u64 a) es i = some none/\ziw es a = 0/\∀ e ∈ es,e.key ≠ .int .u64 a) \/
 ∃ (j:Nat) (x:Int) (e:MapEntry),Instr.findNow (.int .u64) (.int .u64 a) es i = some (some (i + j,.int .i64 x))/\ziw es a = x/\es[j]? = some e/\e.key = .int .u64 a/\∀ (j':Nat) (e':MapEntry),j' < j->es[j']? = some e'->e'.key ≠ .int .u64 a
 | [],i,_=>.inl ⟨rfl,rfl,fun e h=>by cases h⟩
 | e :: es,i,h=>by
   obtain ⟨b,x,hk,hv⟩:=h e List.mem_cons_self
   have hs:Instr.sameNow (.int .u64) (.int .u64 a) e.key = some (a == b):=by rw [hk];simp [Instr.sameNow]
   by_cases hab:a = b
   ·subst hab
    refine .inr ⟨0,x,e,?_,?_,rfl,hk,fun j' e' hj=>absurd hj om⟩
    ·rw [Instr.findNow,hs];simp [hv]
    ·rw [zcl hk hv,if_pos rfl]
   ·have hs':Instr.sameNow (.int .u64) (.int .u64 a) e.key = some false:=by rw [hs];simpa using hab
    have hf:Instr.findNow (.int .u64) (.int .u64 a) (e :: es) i = Instr.findNow (.int .u64) (.int .u64 a) es (i + 1):=by rw [Instr.findNow,hs']
    have hl:ziw (e :: es) a = ziw es a:=by rw [zcl hk hv,if_neg fun h=>hab h.symm]
    rw [hf,hl]
    have hne:e.key ≠ .int .u64 a:=fun hc=>by rw [hk] at hc;injection hc with _ h2;exact hab h2.symm
    rcases zmx a es (i + 1) h.tail with ⟨h1,h2,h3⟩ | ⟨j,x',e',h1,h2,h3,h4,h5⟩
    ·refine .inl ⟨h1,h2,fun e' he'=>?_⟩
     rcases List.mem_cons.1 he' with rfl | he'
     ·exact hne
     ·exact h3 e' he'
    ·refine .inr ⟨j + 1,x',e',by rw [h1];congr 3;omega,h2,by simpa using h3,h4,fun j' e2 hj he2=>?_⟩
     cases j' with
     | zero=>simp at he2;subst he2;exact hne
     | succ j'=>exact h5 j' e2 om (by simpa using he2)
def ztv (f:Int->Int) (a y:Int):Int->Int:=fun b=>if b = a then y else f b
theorem ztw (a y:Int) (n:Nat):∀ (es:List MapEntry),zuU es->(∀ e ∈ es,e.key ≠ .int .u64 a)->∀ b,ziw (es ++ [⟨.int .u64 a,.int .i64 y,n⟩]) b = if b = a then y else ziw es b
 | [],_,_,b=>by
   rw [List.nil_append,zcl rfl rfl]
   by_cases h:b = a
   ·rw [if_pos h,if_pos h.symm]
   ·rw [if_neg h,if_neg fun e=>h e.symm]
 | e :: es,h,hn,b=>by
   obtain ⟨c,x,hk,hv⟩:=h e List.mem_cons_self
   have ih:=ztw a y n es h.tail (fun e he=>hn e (List.mem_cons_of_mem _ he)) b
   rw [List.cons_append,zcl hk hv,zcl hk hv,ih]
   have hca:c ≠ a:=fun e'=>hn e List.mem_cons_self (by rw [hk,e'])
   by_cases h1:c = b
   ·rw [if_pos h1,if_pos h1,if_neg fun h=>hca (h1.trans h)]
   ·rw [if_neg h1,if_neg h1]
theorem zx0 (a y:Int):∀ (es:List MapEntry) (j:Nat) (e:MapEntry),zuU es->es[j]? = some e->e.key = .int .u64 a->(∀ (j':Nat) (e':MapEntry),j' < j->es[j']? = some e'->e'.key ≠ .int .u64 a) ->
 zuU (es.modify j fun e=>{ e with key:=.int .u64 a,val:=.int .i64 y })/\∀ b,ziw (es.modify j fun e=>{ e with key:=.int .u64 a,val:=.int .i64 y }) b = if b = a then y else ziw es b
 | [],j,e,_,h,_,_=>by simp at h
 | e0 :: es,0,e,h,h1,hk,hn=>by
   simp at h1;subst h1
   obtain ⟨c,x,hk',hv⟩:=h e0 List.mem_cons_self
   have hm:(e0 :: es).modify 0 (fun e=>{ e with key:=.int .u64 a,val:=.int .i64 y }) = { e0 with key:=.int .u64 a,val:=.int .i64 y } :: es:=rfl
   rw [hm]
   refine ⟨fun e he=>?_,fun b=>?_⟩
   ·rcases List.mem_cons.1 he with rfl | he
    ·exact ⟨a,y,rfl,rfl⟩
    ·exact h e (List.mem_cons_of_mem _ he)
   ·rw [zcl rfl rfl,zcl hk hv]
    by_cases hb:b = a
    ·rw [if_pos hb,if_pos hb.symm]
    ·rw [if_neg hb,if_neg fun e=>hb e.symm,if_neg fun e=>hb e.symm]
 | e0 :: es,j + 1,e,h,h1,hk,hn=>by
   obtain ⟨c,x,hk',hv⟩:=h e0 List.mem_cons_self
   obtain ⟨i1,i2⟩:=zx0 a y es j e h.tail (by simpa using h1) hk fun j' e' hj he=>hn (j' + 1) e' om (by simpa using he)
   have hm:(e0 :: es).modify (j + 1) (fun e=>{ e with key:=.int .u64 a,val:=.int .i64 y }) = e0 :: es.modify j (fun e=>{ e with key:=.int .u64 a,val:=.int .i64 y }):=rfl
   rw [hm]
   refine ⟨fun e he=>?_,fun b=>?_⟩
   ·rcases List.mem_cons.1 he with rfl | he
    ·exact h e List.mem_cons_self
    ·exact i1 e he
   ·have hca:c ≠ a:=fun e'=>hn 0 e0 om rfl (by rw [hk',e'])
    rw [zcl hk' hv,zcl hk' hv,i2]
    by_cases h1:c = b
    ·rw [if_pos h1,if_pos h1,if_neg fun h=>hca (h1.trans h)]
    ·rw [if_neg h1,if_neg h1]
section
variable {P:Program} {t k e:TypeId} {w:World} {b:Nat} {es:Array MapEntry} {ck:Nat} {f:Int->Int}
theorem zej (hk:P.underlying k = some (.int .u64)) (em:Bool) (a:Int):(Instr.checkKey em 10000 k (.int .u64 a)).run P w = .ok () w:=by
 have h:∀ n,(Instr.checkKey em (n + 1) k (.int .u64 a)).run P w = .ok () w:=fun n=>by simp [Instr.checkKey,run_underlying hk]
 exact h 9999
theorem zzf (ht:P.underlying t = some (.map k e)) (hk:P.underlying k = some (.int .u64)) (hz:(zeroValue e).run P w = .ok (.int .i64 0) w) (hb:w.heap[b]? = some (.map es ck)) (hm:zFp es.toList f) (a:Int) :
 (Instr.lookup t (.map (some b)) (.int .u64 a) false).run P w = .ok (.int .i64 (f a)) w:=by
 have hl:=hm.2 a
 rcases zmx a es.toList 0 hm.1 with ⟨h1,h2,_⟩ | ⟨j,x,e',h1,h2,_⟩
 ·simp [Instr.lookup,run_underlying ht,MapKept.run_getObj_map hb,zej hk,Instr.findKey,run_underlying hk,h1,hz]
  omega
 ·simp [Instr.lookup,run_underlying ht,MapKept.run_getObj_map hb,zej hk,Instr.findKey,run_underlying hk,h1]
  omega
theorem zqu (ht:P.underlying t = some (.map k e)) (hk:P.underlying k = some (.int .u64)) (hb:w.heap[b]? = some (.map es ck)) (hm:zFp es.toList f) (a y:Int) :
 ∃ es' ck',(Instr.mapUpdate t (.map (some b)) (.int .u64 a) (.int .i64 y)).run P w = .ok () (ChangeMaps.setBlock w b (.map es' ck'))/\zFp es'.toList (ztv f a y):=by
 rcases zmx a es.toList 0 hm.1 with ⟨h1,h2,h3⟩ | ⟨j,x,e',h1,h2,h3,h4,h5⟩
 ·refine ⟨es.push ⟨.int .u64 a,.int .i64 y,ck⟩,ck + 1,?_,fun e he=>?_,fun c=>?_⟩
  ·simp [Instr.mapUpdate,run_underlying ht,MapKept.run_getObj_map hb,zej hk,Instr.findKey,run_underlying hk,h1,MapKept.run_setObj_map _ hb,ChangeMaps.setBlock]
  ·rw [Array.toList_push,List.mem_append,List.mem_singleton] at he
   rcases he with he | rfl
   ·exact hm.1 e he
   ·exact ⟨a,y,rfl,rfl⟩
  ·rw [Array.toList_push,ztw a y ck _ hm.1 h3,hm.2];rfl
 ·obtain ⟨i1,i2⟩:=zx0 a y es.toList j e' hm.1 h3 h4 h5
  refine ⟨es.modify j fun e=>{ e with key:=.int .u64 a,val:=.int .i64 y },ck,?_,?_,fun c=>?_⟩
  ·have hj:es[j]? = some e':=by simpa using h3
   simp [Instr.mapUpdate,run_underlying ht,MapKept.run_getObj_map hb,zej hk,Instr.findKey,run_underlying hk,h1,MapKept.run_setObj_map _ hb,ChangeMaps.setBlock,Instr.keyThatStays,hj,h4,Instr.sameBits]
  ·rw [Array.toList_modify];exact i1
  ·rw [Array.toList_modify,i2,hm.2];rfl
end
inductive TK where
 | int (k:IntKind)
 | bool
 | str
 | sli (e:TypeId)
 | struct (fs:List (Nat × TypeId))
 | arr (n:Nat) (e:TypeId)
 | map (k e:TypeId)
 | other
def TK.agg:TK->Bool | .struct _=>true | .arr _ _=>true | _=>false
structure TD where
 k:TK
 size:Nat
 bytes:Nat
 zero:List Value
def TK.fits (P:Program) (t:TypeId):TK->Prop
 | .int k=>P.underlying t = some (.int k)
 | .bool=>P.underlying t = some .bool
 | .str=>P.underlying t = some .string
 | .sli e=>P.underlying t = some (.slice e)
 | .struct fs=>∃ flds:Array Field,P.underlying t = some (.struct flds)/\flds.toList.map (fun f=>(f.offset,f.type)) = fs
 | .arr n e=>P.underlying t = some (.array n e)
 | .map k e=>P.underlying t = some (.map k e)
 | .other=>∃ d,P.underlying t = some d/\(match d with | .struct _ | .array _ _=>False | _=>True)
structure TD.Fits (P:Program) (t:TypeId) (d:TD):Prop where
 k:d.k.fits P t
 info:∃ i z,P.info? t = some i/\i.size = d.size/\i.bytes = d.bytes/\i.zero = some z/\z.cells.toList = d.zero
 zlen:d.zero.length = d.size
 one:d.k.agg = false->d.size = 1/\∀ z,d.zero = [z]->z.oneCell' = true
 zv:d.k.agg = true \/ ∃ i z,P.info? t = some i/\i.zero = some z/\d.zero = [z]
abbrev Tab:=TypeId->TD
def Tab.Ok (T:Tab) (P:Program):Prop:=∀ t,0 < (T t).size->(T t).Fits P t
section
variable {P:Program} {T:Tab}
theorem ztt {t:TypeId} {k:TK} (h:k.fits P t) (w:World):(isAgg t).run P w = .ok k.agg w:=by
 cases k with
 | struct fs=>obtain ⟨fl,h,_⟩:=h;simp [isAgg,run_underlying h,TK.agg]
 | other =>
   obtain ⟨d,h,hd⟩:=h
   cases d <;> simp [isAgg,run_underlying h,TK.agg] at hd ⊢
 | _=>simp only [TK.fits] at h;simp [isAgg,run_underlying h,TK.agg]
theorem za0 {t:TypeId} {d:TD} (h:d.Fits P t) (w:World):(sizeOf t).run P w = .ok d.size w:=by
 obtain ⟨i,z,h1,h2,_⟩:=h.info
 simp [sizeOf,typeInfo,h1,h2]
end
def zdQ (k:IntKind) (a b:Int):Int:=k.wrap (BitVec.ofInt k.bits a &&& BitVec.ofInt k.bits b).toNat
def ior (k:IntKind) (a b:Int):Int:=k.wrap (BitVec.ofInt k.bits a ||| BitVec.ofInt k.bits b).toNat
def zIP (k:IntKind) (a b:Int):Int:=k.wrap (BitVec.ofInt k.bits a ^^^ BitVec.ofInt k.bits b).toNat
def zb8 (k:IntKind) (a b:Int):Int:=k.wrap (BitVec.ofInt k.bits a &&& ~~~ BitVec.ofInt k.bits b).toNat
def zg1 (k:IntKind) (a b:Int):Int:=k.wrap (a * 2 ^ (min b.toNat k.bits))
def zpk (k:IntKind) (a b:Int):Int:=a.fdiv (2 ^ (min b.toNat k.bits))
def zcs:BinOp->IntKind->Int->Int->Value
 | .add,k,a,b=>.int k (k.wrap (a + b))
 | .sub,k,a,b=>.int k (k.wrap (a - b))
 | .mul,k,a,b=>.int k (k.wrap (a * b))
 | .quo,k,a,b=>.int k (k.wrap (a.tdiv b))
 | .rem,k,a,b=>.int k (a.tmod b)
 | .and,k,a,b=>.int k (zdQ k a b)
 | .or,k,a,b=>.int k (ior k a b)
 | .xor,k,a,b=>.int k (zIP k a b)
 | .andNot,k,a,b=>.int k (zb8 k a b)
 | .shl,k,a,b=>.int k (zg1 k a b)
 | .shr,k,a,b=>.int k (zpk k a b)
 | .eql,_,a,b=>.bool (a == b)
 | .neq,_,a,b=>.bool (a != b)
 | .lss,_,a,b=>.bool (decide (a < b))
 | .leq,_,a,b=>.bool (decide (a <= b))
 | .gtr,_,a,b=>.bool (decide (a > b))
 | .geq,_,a,b=>.bool (decide (a >= b))
def zbK:BinOp->IntKind->IntKind->Int->Prop
 | .quo,k,k',b=>k = k'/\b ≠ 0
 | .rem,k,k',b=>k = k'/\b ≠ 0
 | .shl,_,_,b=>0 <= b
 | .shr,_,_,b=>0 <= b
 | _,k,k',_=>k = k'
def zpl:BinOp->ByteArray->ByteArray->Option Value
 | .add,a,b=>some (.string (a ++ b))
 | .eql,a,b=>some (.bool (a.toList == b.toList))
 | .neq,a,b=>some (.bool (!(a.toList == b.toList)))
 | .lss,a,b=>some (.bool (Op.bytesLess a.toList b.toList))
 | _,_,_=>none
def zdw (T:Tab) (op:BinOp) (t:TypeId) (x y:PV) (K:PV->Prop):Prop :=
 match x,y with
 | .v (.int k a),.v (.int k' b)=>zbK op k k' b/\K (.v (zcs op k a b))
 | .v (.string a),.v (.string b)=>(op = .add->a.size + b.size <= 9223372036854775807)/\match zpl op a b with | some r=>K (.v r) | none=>False
 | .v (.bool a),.v (.bool b)=>(T t).k = .bool/\0 < (T t).size/\match op with | .eql=>K (.v (.bool (a == b))) | .neq=>K (.v (.bool (!(a == b)))) | _=>False
 | _,_=>False
section
variable {P:Program} {T:Tab} (w:World)
theorem zzc (op:BinOp) (t:TypeId) (k k':IntKind) (a b:Int) (h:zbK op k k' b):(binOp op t (.int k a) (.int k' b)).run P w = .ok (zcs op k a b) w:=by
 cases op <;> simp only [zbK] at h <;> first
  | (obtain ⟨rfl,hb⟩:=h;simp [binOp,Op.intDiv,zcs,hb];done)
  | (subst h;simp [binOp,Op.intArith,Op.intBits,Op.intCmp,zcs,zdQ,ior,zIP,zb8];done)
  | (have hn:¬ b < 0:=om
     simp [binOp,Op.shift,zcs,zg1,zpk,hn];done)
theorem zzd (op:BinOp) (t:TypeId) (a b:ByteArray) (r:Value) (hs:op = .add->a.size + b.size <= 9223372036854775807) (h:zpl op a b = some r) :
 (binOp op t (.string a) (.string b)).run P w = .ok r w:=by
 cases op <;> simp [zpl] at h <;> subst h
 case add =>
  have h1:=hs rfl
  simp only [binOp]
  exact run_string_add_sum w a b h1
 all_goals simp [binOp,Op.stringOp]
theorem zmw (op:BinOp) (t:TypeId) (x y:Operand) (k k':IntKind) (a b:Int):(eqGuard op t x y (.int k a) (.int k' b)).run P w = .ok () w:=by
 unfold eqGuard;cases op <;> simp
theorem ziv (op:BinOp) (t:TypeId) (x y:Operand) (a b:ByteArray):(eqGuard op t x y (.string a) (.string b)).run P w = .ok () w:=by
 unfold eqGuard;cases op <;> simp
theorem zfA (op:BinOp) (t:TypeId) (x y:Operand) (a b:Bool):(eqGuard op t x y (.bool a) (.bool b)).run P w = .ok () w:=by
 unfold eqGuard;cases op <;> simp
end
theorem Rep.v_eq {w:World} {E:Env} {lo:Nat} {x y:Value} (h:Rep w E lo (.v x) y):y = x:=by cases h;rfl
def zhf [zae] (P:Program) (G:Ghost) (s:St) (o:Oper) (p:PV):Prop :=
 ∀ (E:Env) (a:Act) (w:World),E.R = s.rw->WOk G E w->(∀ x ∈ o.op.operands,Rep w E 0 (s.ev x) (a.eval x)) ->
  ∀ (K:Act->World->Prop) (Q:Exit->Act->World->Prop),(∀ v w',Ext w w'->Rep w' E 0 p v->K (a.put o.dst v) w')->o.wp P a w K Q
theorem zdX {P:Program} {o:Oper} {a:Act} {w w':World} {K:Act->World->Prop} {Q:Exit->Act->World->Prop} {v:Value}
 (h:(execOp a.eval o).run P w = .ok (.value v) w') (hk:K (a.put o.dst v) w'):o.wp P a w K Q:=by
 unfold Oper.wp;rw [h];exact hk
theorem zqt [zae] {P:Program} {G:Ghost} {s:St} {o:Oper} {p:PV}
 (h:∀ (E:Env) (a:Act) (w:World),E.R = s.rw->WOk G E w->(∀ x ∈ o.op.operands,Rep w E 0 (s.ev x) (a.eval x))->∃ v w',(execOp a.eval o).run P w = .ok (.value v) w'/\Ext w w'/\Rep w' E 0 p v) :
 zhf P G s o p:=by
 intro E a w h1 h2 h3 K Q hk
 obtain ⟨v,w',hr,hx,hv⟩:=h E a w h1 h2 h3
 exact zdX hr (hk v w' hx hv)
def zhv (fr:Bool) (p:PV):PV :=
 match p with
 | .v x=>.v x
 | .sl _ sz c=>.sl fr sz c
 | .eref _ c o=>.eref fr c o
 | _=>.junk
inductive Md where
 | asis
 | set (fr:Bool)
def Md.fix (m:Md) (p:PV):PV:=match m with | .asis=>p | .set fr=>zhv fr p
theorem zmv {w:World} {E:Env} {lo:Nat} {fr:Bool} {p:PV} {x:Value} (h:Rep w E.bare lo p x) (hl:E.lo 0 fr <= lo):Rep w E 0 (zhv fr p) x:=by
 cases h with
 | v x=>exact .v _
 | @sl _ _ f sz len cap cells a cs hl' hc hm hr hh =>
   have e:E.bare.lo lo f = lo:=by simp [Env.lo,Env.bare]
   have e2:E.bare.bare = E.bare:=rfl
   rw [e2,e] at hh
   refine .sl cs hl' hc hm (fun i hi=>?_) (fun i hi=>(hh i hi).low hl)
   obtain ⟨b,o,ha,hb,hr⟩:=hr i hi
   rw [e] at hb
   exact ⟨b,o,ha,Nat.le_trans hl hb,hr⟩
 | @eref _ _ f cells off b o cs hr hh =>
   have e:E.bare.lo lo f = lo:=by simp [Env.lo,Env.bare]
   have e2:E.bare.bare = E.bare:=rfl
   rw [e2,e] at hh
   refine .eref cs (fun i hi=>?_) (fun i hi=>(hh i hi).low hl)
   obtain ⟨hb,hr⟩:=hr i hi
   rw [e] at hb
   exact ⟨Nat.le_trans hl hb,hr⟩
 | own a b=>exact .junk _
 | ref a b=>exact .junk _
 | ag a b=>exact .junk _
 | tup a b=>exact .junk _
 | clo a b=>exact .junk _
 | junk x=>exact .junk _
def zue (rw:Nat->Row) (p:PV) (K:Md->List PV->Nat->Prop):Prop :=
 match p with
 | .ref k ver off=>(rw k).ver = ver/\match (rw k).kind with | .box _ c=>K .asis c off | .sli _ _ _ c=>K (.set true) c off | .tab _ c=>K .asis c off | _=>False
 | .eref fr c off=>K (.set fr) c off
 | _=>False
def At (w:World) (E:Env) (m:Md) (cells:List PV) (x:Value) (off:Nat):Prop :=
 ∃ (b o:Nat) (cs:Nat->Value),x = .pointer (some ⟨b,o + off,none⟩)/\∀ i (h:i < cells.length),w.cell? ⟨b,o + i,none⟩ = some (cs i)/\Rep w E 0 (m.fix cells[i]) (cs i)
theorem zaL {w:World} {b i:Nat} {vs:List Value} {t:TypeId} {fr:Nat × Nat} (h:w.heap[b]? = some (.cells vs.toArray t fr)) (hi:i < vs.length) :
 w.cell? ⟨b,i,none⟩ = some vs[i]:=by
 rw [cell_of_row w b i vs.toArray t fr h];simp [hi]
theorem zpj [zae] {rw:Nat->Row} {p:PV} {K:Md->List PV->Nat->Prop} {w:World} {E:Env} {G:Ghost} {x:Value}
 (hk:zue rw p K) (hR:E.R = rw) (hw:WOk G E w) (hp:Rep w E 0 p x):∃ m cells off,K m cells off/\At w E m cells x off:=by
 subst hR
 cases hp with
 | @ref _ _ k ver off x hv hx =>
   obtain ⟨he,hk⟩:=hk
   have hrow:=hw.rows k
   unfold zav at hrow
   cases hkd:(E.R k).kind with
   | dead=>simp [hkd] at hk
   | mp f=>simp [hkd] at hk
   | nil=>simp [hkd] at hk
   | box t cells =>
     simp only [hkd] at hk hrow
     obtain ⟨b,vs,h1,h2,h3,h4⟩:=hrow
     obtain ⟨b',h1',hx⟩:=hx he (by rw [hkd];rfl)
     rw [h1] at h1';cases h1'
     refine ⟨_,_,_,hk,b,0,fun i=>vs.getD i undef,by simpa using hx,fun i hi=>?_⟩
     have hi':i < vs.length:=by rw [<- h4.1];exact hi
     have e:vs.getD i undef = vs[i]:=by simp [List.getD,hi']
     show _ = some (vs.getD i undef)/\Rep w E _ _ (vs.getD i undef)
     rw [e,Nat.zero_add]
     exact ⟨zaL h3 hi',h4.2 i hi hi'⟩
   | sli e sz fz cells =>
     simp only [hkd] at hk hrow
     obtain ⟨b',h1',hx⟩:=hx he (by rw [hkd];rfl)
     rcases hrow with ⟨h1,_,_⟩ | ⟨b,n,cap,vs,rest,h1,h2,h3,h4,h5,h6,h7,h8,h9⟩
     ·rw [h1] at h1';exact absurd h1' sp
     ·rw [h1] at h1'
      obtain rfl:b = b':=by simpa using h1'
      refine ⟨_,_,_,hk,b,0,fun i=>vs.getD i undef,by simpa using hx,fun i hi=>?_⟩
      have hi':i < vs.length:=by rw [<- h9.1];exact hi
      have e:vs.getD i undef = vs[i]:=by simp [List.getD,hi']
      show _ = some (vs.getD i undef)/\Rep w E _ _ (vs.getD i undef)
      rw [e,Nat.zero_add]
      refine ⟨?_,zmv (h9.2 i hi hi') (by simp [Env.lo])⟩
      rw [zaL h4 (by simp;omega)]
      simp [List.getElem_append_left hi']
   | tab e cells =>
     simp only [hkd] at hk hrow
     obtain ⟨b',h1',hx⟩:=hx he (by rw [hkd];rfl)
     rcases hrow with ⟨h1,_,_⟩ | ⟨b,n,cap,vs,rest,h1,h2,h3,h4,h5,h6,h7,h8,h9⟩
     ·rw [h1] at h1';cases h1'
     rw [h1] at h1'
     obtain rfl:b = b':=by simpa using h1'
     refine ⟨_,_,_,hk,b,0,fun i=>vs.getD i undef,by simpa using hx,fun i hi=>?_⟩
     have hi':i < vs.length:=by rw [<- h9.1];exact hi
     have e:vs.getD i undef = vs[i]:=by simp [List.getD,hi']
     show _ = some (vs.getD i undef)/\Rep w E _ _ (vs.getD i undef)
     rw [e,Nat.zero_add]
     refine ⟨?_,h9.2 i hi hi'⟩
     rw [zaL h4 (by simp;omega)]
     simp [List.getElem_append_left hi']
 | @eref _ _ fr cells off b o cs hr hh =>
   refine ⟨_,_,_,hk,b,o,cs,rfl,fun i hi=>⟨(hr i hi).2.2,zmv (hh i hi) (Nat.le_refl _)⟩⟩
 | v x=>exact hk.elim
 | sl=>exact hk.elim
 | own=>exact hk.elim
 | ag=>exact hk.elim
 | tup=>exact hk.elim
 | clo=>exact hk.elim
 | junk=>exact hk.elim
def zey:Value->Bool
 | .slice none 0 0=>true
 | _=>false
theorem zfa {x:Value} (h:zey x = true):x = .slice none 0 0:=by
 unfold zey at h;split at h
 ·rfl
 ·cases h
def slK (rw:Nat->Row) (p:PV) (K:Bool->Nat->List PV->Prop):Prop :=
 match p with
 | .sl fr sz c=>K fr sz c
 | .own k ver=>(rw k).ver = ver/\match (rw k).kind with | .nil=>K true 1 [] | .sli _ sz _ c=>K true sz c | _=>False
 | .v x=>zey x = true/\K true 1 []
 | _=>False
def zPh (w:World) (E:Env) (lo sz:Nat) (cells:List PV) (x:Value):Prop :=
 ∃ (a:Option Addr) (len cap:Nat) (cs:Nat->Value),x = .slice a len cap/\cells.length = len * sz/\len <= cap/\cap <= maxLen /\
  ∀ i (h:i < cells.length),∃ b o,a = some ⟨b,o,none⟩/\w.cell? ⟨b,o + i,none⟩ = some (cs i)/\Rep w E.bare lo cells[i] (cs i)
theorem ziu [zae] {rw:Nat->Row} {p:PV} {K:Bool->Nat->List PV->Prop} {w:World} {E:Env} {G:Ghost} {x:Value}
 (hk:slK rw p K) (hR:E.R = rw) (hw:WOk G E w) (hp:Rep w E 0 p x):∃ fr sz cells,K fr sz cells/\zPh w E (E.lo 0 fr) sz cells x:=by
 subst hR
 cases hp with
 | @sl _ _ fr sz len cap cells a cs hl hc hm hr hh =>
   refine ⟨_,_,_,hk,a,len,cap,cs,rfl,hl,hc,hm,fun i hi=>?_⟩
   obtain ⟨b,o,ha,hb,hL,hcell⟩:=hr i hi
   exact ⟨b,o,ha,hcell,hh i hi⟩
 | @own _ _ k ver x hv hx =>
   obtain ⟨he,hk⟩:=hk
   have hrow:=hw.rows k
   unfold zav at hrow
   cases hkd:(E.R k).kind with
   | dead=>simp [hkd] at hk
   | box t cells=>simp [hkd] at hk
   | tab e cells=>simp [hkd] at hk
   | mp f=>simp [hkd] at hk
   | nil =>
     simp only [hkd] at hk hrow
     have:=hx he (by rw [hkd];rfl)
     subst this
     rw [hrow.2]
     exact ⟨_,_,_,hk,none,0,0,fun _=>undef,rfl,rfl,Nat.le_refl _,Nat.zero_le _,fun i hi=>absurd hi sp⟩
   | sli e sz fz cells =>
     simp only [hkd] at hk hrow
     have:=hx he (by rw [hkd];rfl)
     subst this
     rcases hrow with ⟨h1,h2,h3⟩ | ⟨b,n,cap,vs,rest,h1,h2,h3,h4,h5,h6,h7,h8,h9⟩
     ·subst h3
      rw [h2]
      exact ⟨_,_,_,hk,none,0,0,fun _=>undef,rfl,sp,Nat.le_refl _,Nat.zero_le _,fun i hi=>absurd hi sp⟩
     ·rw [h3]
      refine ⟨_,_,_,hk,some ⟨b,0,none⟩,n,cap,fun i=>vs.getD i undef,rfl,by rw [h9.1,h5],h6,h7,fun i hi=>⟨b,0,rfl,?_⟩⟩
      have hi':i < vs.length:=by rw [<- h9.1];exact hi
      have e:vs.getD i undef = vs[i]:=by simp [List.getD,hi']
      show _ = some (vs.getD i undef)/\Rep w E.bare _ _ (vs.getD i undef)
      rw [e,Nat.zero_add]
      refine ⟨?_,(h9.2 i hi hi').low (by simp [Env.lo])⟩
      rw [zaL h4 (by simp;omega)]
      simp [List.getElem_append_left hi']
 | v x =>
   obtain ⟨hn,hk⟩:=hk
   rw [zfa hn]
   exact ⟨_,_,_,hk,none,0,0,fun _=>undef,rfl,rfl,Nat.le_refl _,Nat.zero_le _,fun i hi=>absurd hi sp⟩
 | eref=>exact hk.elim
 | ref=>exact hk.elim
 | ag=>exact hk.elim
 | tup=>exact hk.elim
 | clo=>exact hk.elim
 | junk=>exact hk.elim
def zzV (rw:Nat->Row) (p:PV) (K:Nat->Nat->Prop):Prop :=
 match p with
 | .sl _ sz c=>K sz c.length
 | .own k ver=>(rw k).ver = ver/\match (rw k).kind with | .nil=>K 1 0 | .sli _ sz _ c=>K sz c.length | .tab _ c=>K 1 c.length | _=>False
 | .v x=>zey x = true/\K 1 0
 | _=>False
theorem zzb [zae] {rw:Nat->Row} {p:PV} {K:Nat->Nat->Prop} {w:World} {E:Env} {G:Ghost} {x:Value}
 (hk:zzV rw p K) (hR:E.R = rw) (hw:WOk G E w) (hp:Rep w E 0 p x):∃ sz n,K sz n/\∃ (a:Option Addr) (len cap:Nat),x = .slice a len cap/\n = len * sz:=by
 by_cases ht:∃ k ver e c,p = .own k ver/\(rw k).kind = .tab e c
 ·obtain ⟨k,ver,e,c,rfl,hkd⟩:=ht
  subst hR
  obtain ⟨he,hk⟩:=hk
  rw [hkd] at hk
  cases hp with
  | own hv hx =>
    have hrow:=hw.rows k
    unfold zav at hrow
    simp only [hkd] at hrow
    rcases hrow with ⟨h1,h2,h3⟩ | ⟨b,n,cap,vs,rest,h1,h2,h3,h4,h5,h6,h7,h8,h9⟩
    ·rw [hx he (by rw [hkd];rfl),h2]
     subst h3
     exact ⟨_,_,hk,_,_,_,rfl,rfl⟩
    rw [hx he (by rw [hkd];rfl),h3]
    exact ⟨_,_,hk,_,_,_,rfl,by rw [h9.1,h5,Nat.mul_one]⟩
 ·have hs:slK rw p fun _ sz c=>K sz c.length:=by
   unfold zzV at hk
   unfold slK
   cases p with
   | own k ver =>
     obtain ⟨he,hk⟩:=hk
     refine ⟨he,?_⟩
     cases hkd:(rw k).kind with
     | tab e c=>exact absurd ⟨k,ver,e,c,rfl,hkd⟩ ht
     | nil=>simp only [hkd] at hk ⊢;exact hk
     | sli e sz fz c=>simp only [hkd] at hk ⊢;exact hk
     | dead=>simp only [hkd] at hk
     | mp f=>simp only [hkd] at hk
     | box t c=>simp only [hkd] at hk
   | sl fr sz c=>exact hk
   | v x=>exact hk
   | _=>exact hk.elim
  obtain ⟨fr,sz,cells,hk,a,len,cap,cs,rfl,h1,_⟩:=ziu hs hR hw hp
  exact ⟨_,_,hk,a,len,cap,rfl,h1⟩
def ldK (T:Tab) (t:TypeId) (m:Md) (cells:List PV) (off:Nat) (K:PV->Prop):Prop :=
 0 < (T t).size/\match (T t).k.agg with
  | true=>off + (T t).size <= cells.length/\K (.ag (((cells.drop off).take (T t).size).map m.fix))
  | false=>off < cells.length/\K (m.fix (cells.getD off .junk))
theorem zts [zae] {P:Program} {T:Tab} (hT:T.Ok P) {t:TypeId} {m:Md} {cells:List PV} {off:Nat} {K:PV->Prop} {w:World} {E:Env} {x:Value}
 (hk:ldK T t m cells off K) (ha:At w E m cells x off):∃ p v,K p/\(Instr.loadAt t x).run P w = .ok v w/\Rep w E 0 p v:=by
 obtain ⟨hs,hk⟩:=hk
 obtain ⟨b,o,cs,rfl,hcell⟩:=ha
 have hf:=hT t hs
 have hag:=ztt hf.k w
 have hsz:=za0 hf w
 cases hagg:(T t).k.agg with
 | true =>
   simp only [hagg] at hk
   obtain ⟨hlen,hk⟩:=hk
   have hld:(loadCells ⟨b,o + off,none⟩ (T t).size).run P w = .ok ((List.range (T t).size).map fun j=>cs (off + j)).toArray w:=by
    have:=run_loadCells_list (P:=P) (w:=w) ⟨b,o + off,none⟩ ((List.range (T t).size).map fun j=>cs (off + j)) (fun j v hj=>by
     simp only [List.getElem?_map,Option.map_eq_some_iff] at hj
     obtain ⟨j',hj,rfl⟩:=hj
     obtain ⟨hlt,he⟩:=List.getElem?_eq_some_iff.1 hj
     have hj':j < (T t).size:=by simpa using hlt
     obtain rfl:j = j':=by simpa using he
     have:=(hcell (off + j) om).1
     unfold Addr.add
     split
     ·rename_i h0;subst h0;simpa using this
     ·rw [show o + off + j = o + (off + j) by omega];exact this)
    simpa using this
   refine ⟨_,.agg ((List.range (T t).size).map fun j=>cs (off + j)).toArray,hk,?_,?_⟩
   ·simp [Instr.loadAt,Instr.sureAddr,loadVar,hag,hagg,hsz,hld]
   ·refine .ag (by simp;omega) (fun i h h'=>?_)
    simp at h h'
    have:=(hcell (off + i) om).2
    simp only [List.getElem_take,List.getElem_drop,List.getElem_map,List.getElem_range]
    exact this
 | false =>
   simp only [hagg] at hk
   obtain ⟨hlen,hk⟩:=hk
   have hc:=hcell off hlen
   refine ⟨_,cs off,hk,?_,?_⟩
   ·simp [Instr.loadAt,Instr.sureAddr,loadVar,hag,hagg,run_load,hc.1]
   ·have e:cells.getD off .junk = cells[off]:=by simp [List.getD,hlen]
    rw [e]
    exact hc.2
def znw (ev:Operand->PV) (o:Option Operand) (dflt:Int) (K:Int->Prop):Prop :=
 match o with
 | none=>K dflt
 | some x=>match ev x with | .v (.int _ n)=>K n | _=>False
def zhu (rw:Nat->Row) (p:PV) (K:Bool->Nat->List PV->Prop):Prop :=
 match p with
 | .sl fr sz c=>K fr sz c
 | .own k ver=>k < lent/\(rw k).ver = ver/\match (rw k).kind with | .sli _ sz true c=>K true sz c | _=>False
 | _=>False
def unK (op:UnOp) (p:PV) (K:PV->Prop):Prop :=
 match op,p with
 | .not,.v (.bool b)=>K (.v (.bool !b))
 | .neg,.v (.int k n)=>K (.v (.int k (k.wrap (0 - n))))
 | .xor,.v (.int k n)=>K (.v (.int k (zIP k (if k.signed then -1 else k.max) n)))
 | _,_=>False
def zdW (rw:Nat->Row) (p:PV) (K:Prop):Prop :=
 match p with
 | .ref k ver _=>(rw k).ver = ver/\(rw k).kind.nd = true/\K
 | .eref _ _ _=>K
 | .clo _ _=>K
 | _=>False
def zeP (p:PV) (d:Nat):PV :=
 match p with
 | .ref k ver off=>.ref k ver (off + d)
 | .eref fr c off=>.eref fr c (off + d)
 | p=>p
def zei (T:Tab) (t:TypeId) (f:Nat) (K:Nat->TypeId->Prop):Prop :=
 0 < (T t).size/\match (T t).k with | .struct fs=>(match fs[f]? with | some (o,ft)=>0 < (T ft).size/\K o ft | none=>False) | _=>False
def zmu:PV->Bool | .ref _ _ _=>true | .eref _ _ _=>true | _=>false
def zbz (T:Tab) (rw:Nat->Row) (t:TypeId) (x i:PV) (K:PV->Prop):Prop :=
 match i with
 | .v (.int _ n) =>
   0 < (T t).size/\match (T t).k with
   | .sli e =>
     (match x with
     | .sl fr sz c=>0 < (T e).size/\sz = (T e).size/\0 <= n/\n.toNat * sz < c.length/\K (.eref fr c (n.toNat * sz))
     | .own k ver=>(rw k).ver = ver/\match (rw k).kind with | .sli _ sz _ c=>0 < (T e).size/\sz = (T e).size/\0 <= n/\n.toNat * sz < c.length/\K (.ref k ver (n.toNat * sz)) | .tab _ c=>(T e).size = 1/\0 <= n/\n.toNat < c.length/\K (.ref k ver n.toNat) | _=>False
     | _=>False)
   | .arr len e=>zmu x = true/\0 < (T e).size/\0 <= n/\n < len/\zdW rw x (K (zeP x (n.toNat * (T e).size)))
   | _=>False
 | _=>False
def zCZ (T:Tab) (rw:Nat->Row) (t:TypeId) (x:PV) (K:PV->Prop):Prop :=
 0 < (T t).size/\match (T t).k with
 | .str=>(match x with | .v (.string s)=>K (.v (.int .i64 s.size)) | _=>False)
 | .sli _=>zzV rw x fun sz n=>0 < sz/\K (.v (.int .i64 ((n / sz:Nat):Int)))
 | .arr n _=>K (.v (.int .i64 n))
 | _=>False
def zbJ (T:Tab) (rw:Nat->Row) (ev:Operand->PV) (t:TypeId) (x:PV) (lo hi mx:Option Operand) (K:PV->Prop):Prop :=
 0 < (T t).size/\match (T t).k with
 | .str=>mx = none/\(match x with
  | .v (.string s)=>znw ev lo 0 fun l=>znw ev hi s.size fun h=>0 <= l/\l <= h/\h <= s.size/\K (.v (.string (s.extract l.toNat h.toNat)))
  | _=>False)
 | .sli e=>zhu rw x fun fr sz c=>0 < (T e).size/\sz = (T e).size /\
  znw ev lo 0 fun l=>znw ev hi ((c.length / sz:Nat):Int) fun h=>znw ev mx ((c.length / sz:Nat):Int) fun m=>0 <= l/\l <= h/\h <= m/\m <= ((c.length / sz:Nat):Int)/\(hi = none->mx = none) /\
   K (.sl fr sz ((c.take (h.toNat * sz)).drop (l.toNat * sz)))
 | _=>False
def zc9 (isMax:Bool) (x y:PV) (K:PV->Prop):Prop :=
 match x,y with
 | .v (.int k a),.v (.int _ b)=>K (.v (.int k (match isMax with | true=>if b > a then b else a | false=>if b < a then b else a)))
 | _,_=>False
def zg0 (T:Tab) (rw:Nat->Row) (src dst:TypeId) (x:PV) (K:PV->Prop):Prop :=
 0 < (T src).size/\0 < (T dst).size/\match (T src).k,(T dst).k with
 | .int _,.int k=>(match x with | .v (.int _ n)=>K (.v (.int k (k.wrap n))) | _=>False)
 | .str,.str=>(match x with | .v (.string s)=>K (.v (.string s)) | _=>False)
 | .sli e,.str=>0 < (T e).size/\(match (T e).k with
  | .int .u8=>slK rw x fun _ sz c=>sz = 1/\∃ bs:List Int,c = bs.map (fun n=>PV.v (.int .u8 n))/\K (.v (.string (bs.foldl (fun r n=>r.push (UInt8.ofNat n.toNat)) ByteArray.empty)))
  | _=>False)
 | _,_=>False
def zHJ (T:Tab) (t:TypeId):Prop:=0 < (T t).size/\match (T t).k with | .map k e=>0 < (T k).size/\(T k).k = .int .u64/\0 < (T e).size/\(T e).k = .int .i64/\(T e).zero = [.int .i64 0] | _=>False
def zkk (T:Tab) (rw:Nat->Row) (t:TypeId) (m i:PV) (K:PV->Prop):Prop :=
 match m,i with
 | .own k ver,.v (.int .u64 a)=>(rw k).ver = ver/\(match (rw k).kind with | .mp f=>zHJ T t/\K (.v (.int .i64 (f a))) | _=>False)
 | _,_=>False
def zkl (T:Tab) (rw:Nat->Row) (ev:Operand->PV) (op:Op) (K:PV->Prop):Prop :=
 match op with
 | .move x=>K (ev x)
 | .assign x=>K (ev x)
 | .pick c a b=>(match ev c with | .v (.bool t)=>(t = true->K (ev a))/\(t = false->K (ev b)) | _=>False)
 | .binOp op t x y _=>zdw T op t (ev x) (ev y) K
 | .unOp op _ x=>unK op (ev x) K
 | .convert src dst x=>zg0 T rw src dst (ev x) K
 | .load t x=>zue rw (ev x) fun m c off=>ldK T t m c off K
 | .fieldAddr t x f=>zei T t f fun o _=>zmu (ev x) = true/\zdW rw (ev x) (K (zeP (ev x) o))
 | .field t x f=>zei T t f fun o ft=>(match ev x with | .ag c=>ldK T ft .asis c o K | _=>False)
 | .indexAddr t x i=>zbz T rw t (ev x) (ev i) K
 | .index t x i=>0 < (T t).size/\(match (T t).k,ev x,ev i with
  | .str,.v (.string s),.v (.int _ n)=>0 <= n/\n.toNat < s.size/\K (.v (.int .u8 ((s.data.toList.getD n.toNat 0).toNat:Int)))
  | .arr len e,.ag c,.v (.int _ n)=>0 <= n/\n < len/\ldK T e .asis c (n.toNat * (T e).size) K
  | _,_,_=>False)
 | .slice t x lo hi mx=>zbJ T rw ev t (ev x) lo hi mx K
 | .extract x i=>(match ev x with | .tup ps=>i < ps.length/\K (ps.getD i .junk) | _=>False)
 | .makeFunc fn first caps=>(match fn with | .func f=>first = #[]/\K (.clo f (caps.toList.map ev)) | _=>False)
 | .nilCheck x=>zdW rw (ev x) (K (ev x))
 | .call c=>(match c with
  | ⟨.builtin .len,⟨[x]⟩,⟨[t]⟩⟩=>zCZ T rw t (ev x) K
  | ⟨.builtin .max,⟨[x,y]⟩,_⟩=>zc9 true (ev x) (ev y) K
  | ⟨.builtin .min,⟨[x,y]⟩,_⟩=>zc9 false (ev x) (ev y) K
  | _=>False)
 | .lookup t x i ok=>ok = false/\zkk T rw t (ev x) (ev i) K
 | _=>False
section
variable {P:Program} {T:Tab} {rw rw':Nat->Row} {t:TypeId} {m i:PV} {K:PV->Prop}
theorem ztu (h:zkk T rw t m i K):∃ p,K p/\∀ K':PV->Prop,K' p->zkk T rw t m i K':=by
 unfold zkk at h ⊢
 split at h
 ·obtain ⟨h1,h⟩:=h
  split at h
  ·exact ⟨_,h.2,fun _ hk=>⟨h1,h.1,hk⟩⟩
  ·exact h.elim
 ·exact h.elim
theorem zpm (hT:T.Ok P) (h:zHJ T t):∃ k e,P.underlying t = some (.map k e)/\P.underlying k = some (.int .u64)/\∀ w,(zeroValue e).run P w = .ok (.int .i64 0) w:=by
 obtain ⟨h1,h⟩:=h
 have hf:=(hT t h1).k
 split at h
 ·rename_i k e hk
  obtain ⟨a1,a2,a3,a4,a5⟩:=h
  rw [hk] at hf
  have hk':=(hT k a1).k
  rw [a2] at hk'
  refine ⟨k,e,hf,hk',fun w=>?_⟩
  rcases (hT e a3).zv with hz | ⟨i,z,z1,z2,z3⟩
  ·rw [a4] at hz;cases hz
  ·rw [a5] at z3
   obtain rfl:Value.int .i64 0 = z:=by simpa using z3
   simp [zeroValue,typeInfo,z1,z2]
 ·exact h.elim
theorem zze [zae] {G:Ghost} {E:Env} {w:World} (hT:T.Ok P) (hw:WOk G E w) (hk:zkk T rw t m i K) (hR:E.R = rw) {vm vi:Value} (hm:Rep w E 0 m vm) (hi:Rep w E 0 i vi) :
 ∃ r,K r/\∃ v,(Instr.lookup t vm vi false).run P w = .ok v w/\Rep w E 0 r v:=by
 subst hR
 unfold zkk at hk
 split at hk
 ·rename_i k ver a
  obtain ⟨hver,hk⟩:=hk
  split at hk
  ·rename_i f hkd
   obtain ⟨hmt,hk⟩:=hk
   obtain ⟨kt,e,u1,u2,u3⟩:=zpm hT hmt
   refine ⟨_,hk,_,?_,.v _⟩
   have hv:=hi.v_eq
   subst hv
   cases hm with
   | own hv hx =>
     have hrow:=hw.rows k
     unfold zav at hrow
     simp only [hkd] at hrow
     obtain ⟨b,es,ck,h1,h2,h3,h4,h5⟩:=hrow
     rw [hx hver (by rw [hkd];rfl),h3]
     exact zzf u1 u2 (u3 w) h4 h5 a
  ·exact hk.elim
 ·exact hk.elim
end
end Go.Abs

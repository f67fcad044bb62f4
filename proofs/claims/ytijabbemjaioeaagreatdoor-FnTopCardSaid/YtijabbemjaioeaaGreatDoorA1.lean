/- DERIVED by an AI agent. -/
import Derived.WalkKit
import Derived.Orders
import Derived.MapKept
import Derived.ChangeMaps5
set_option linter.all false
namespace Go.Abs
abbrev N0:=List Int
abbrev O0:=List Nat
abbrev P0:=ByteArray
abbrev Q0:=List ByteArray
abbrev T0:=Nat->Nat
abbrev U0:=Nat->Int
abbrev V0:=Nat->Bool
abbrev W0:=Nat->Nat->Bool
abbrev X0:=Nat->Nat->Int
abbrev Z0:=Nat->Nat->Nat
abbrev l1:=Nat->Prop
open Bool renaming true→k0,false→l0
open Option renaming some→n0,none→o0
open Go renaming TypeId→A0,Operand→B0,World→C0,IntKind→D0,Value→E0,Program→G0
open List renaming range→lc,getD→lg,length→lh
variable {a:C0}{x:E0}{g:Nat}{c:A0}{d:Nat->Nat->Prop}{h:List MapEntry}{j:G0}{p:Prop}{l:List E0}{o:MapEntry}{q:Act}{r:Oper}
theorem om(h:p:=by omega):p:=h
theorem sp(h:p:=by simp):p:=h
theorem dc(h:p:=by decide):p:=h
theorem ss{q:Prop}(h:q)(g:q->p:=by intro h;simpa using h):p:=g h
def ab:=@Nat.le_refl
def ac:=@if_neg
def ae:=@if_pos
def aj:=@Bool.and_eq_true
def aq:=@decide_eq_true_iff
def ar:=@Int.toNat_natCast
def ay:=@decide_eq_true
def au:=@Bool.true_and
def av:=@List.take_length
def aA:=@List.length_append
def aB:=@Nat.zero_le
def aC:=@Classical.byContradiction
def aD:=@decide_eq_false
def aG:=@List.length_map
def aI:=@ByteArray.size_append
def aK:=@beq_iff_eq
def aJ:=@Nat.le_trans
def aL:=@List.eq_nil_of_length_eq_zero
def aM:=@List.getElem_map
def aO:=@List.length_filter_le
def aN:=@List.getElem?_eq_getElem
def aV:=@Nat.pow_le_pow_right
def aX:=@eq_false
def cV:=@congrArg
def aW:=@List.filter_append
def aZ:=@Bool.eq_iff_iff
def aY:=@List.all_eq_true
def bc:=@beq_eq_false_iff_ne
def bf:=@Nat.lt_or_ge
def bC:=@Bool.not_eq_true'
def bg:=@List.length_take
def bp:=@List.length_range
def bx:=@List.getElem_mem
def bq:=@Nat.testBit_or
def bh:=@List.append_nil
def bB:=@Nat.eq_of_testBit_eq
def bD:=@Nat.lt_of_le_of_lt
def bI:=@Nat.and_le_left
def bE:=@List.ext_getElem
def bM:=@List.getElem_append_left
def bF:=@List.filter_cons
def bQ:=@Nat.testBit_and
def bG:=@List.getElem_range
def bH:=@List.length_cons
def bJ:=@decide_eq_false_iff_not
def bO:=@eq_true
def bT:=@decide_eq_true_eq
def bN:=@Nat.pow_lt_pow_right
def bR:=@Nat.testBit_two_pow
def bK:=@List.take_of_length_le
def bV:=@List.getElem_of_mem
def cm:=@Nat.zero_add
def bY:=@Array.getD_eq_getD_getElem?
def ca:=@Int.eq_ofNat_of_zero_le
def bW:=@List.range_succ
def cl:=@Nat.and_comm
def ce:=@Bool.false_and
def cp:=@Nat.lt_of_lt_of_le
def cq:=@List.map_append
def ct:=@Array.getElem?_eq_getElem
def cu:=@Nat.or_lt_two_pow
def cw:=@Bool.or_eq_true
def cH:=@of_decide_eq_true
def cG:=@List.length_singleton
def cL:=@List.getElem_cons_zero
def cC:=@true_and
def cJ:=@List.length_nil
def cK:=@Nat.le_succ
def cS:=@List.any_eq_true
def cO:=@List.map_congr_left
def cP:=@List.append_assoc
def cQ:=@List.size_toArray
def cT:=@Bool.and_false
def cU:=@List.mem_cons_self
def cE:=@List.flatMap_cons
def cW:=@List.getElem?_set_ne
def dp:=@Nat.and_self
def du:=@beq_self_eq_true
def cX:=@List.length_replicate
def dd:=@List.mem_cons_of_mem
def dD:=@Nat.lt_succ_self
def de:=@List.length_set
def dR:=@List.map_cons
def eP:=@Bool.false_eq_true
def dn:=@List.perm_ext_iff_of_nodup
def dh:=@Nat.mul_one
def dC:=@List.nodup_range
def dF:=@and_true
def dG:=@List.mem_filter
def dH:=@List.filter_nil
def ec:=@Nat.mul_le_mul_right
def dN:=@Array.getElem?_append_left
def dQ:=@Nat.zero_testBit
def dS:=@Nat.add_sub_cancel
def dU:=@Array.length_toList
def dY:=@Nat.le_of_lt
def eo:=@List.getElem?_append_right
def dX:=@List.mem_map
def er:=@Bool.and_eq_false_iff
def ep:=@Int.mul_zero
def gj:=@List.findIdx?_eq_some_iff_getElem
def eE:=@List.getElem?_append_left
def eI:=@List.drop_of_length_le
def eJ:=@List.mem_range
def eK:=@Nat.testBit_lt_two_pow
def eM:=@List.filter_congr
def fZ:=@List.mem_singleton
def eW:=@if_true
def eQ:=@List.getElem?_eq_none
def eg:=@List.nil_append
def eS:=@Nat.testBit_xor
def fS:=@List.nodup_nil
def eU:=@List.getD_eq_getElem?_getD
def fJ:=@List.getElem_append_right
def fm:=@Nat.pow_succ
def eZ:=@Bool.not_eq_false'
def fd:=@List.getElem_set
def fA:=@Nat.add_mul
def fh:=@Nat.eq_of_beq_eq_true
def fj:=@List.map_map
def fk:=@List.getElem?_map
def fo:=@List.all_eq_false
def gx:=@if_false
def fD:=@Nat.and_assoc
def fE:=@Int.mul_assoc
def gd:=@List.getElem_inj
def fO:=@List.flatMap_append
def fT:=@Bool.or_false
def gG:=@List.mem_append
def fW:=@List.all_append
def ge:=@List.getElem?_cons_succ
def kF:=@Nat.le_add_right
def jT:=@Nat.add_assoc
def gm:=@Bool.false_or
def gy:=@List.map_nil
def gz:=@List.getElem_replicate
def gA:=@List.pairwise_lt_range
def gS:=@bne_iff_ne
def gM:=@List.mem_append_right
def ji:=@Int.emod_lt_of_pos
def gR:=@Nat.xor_lt_two_pow
def hO:=@List.any_cons
def iq:=@List.take_append_of_le_length
def ir:=@Bool.or_eq_false_iff
def iB:=@List.flatten_cons
def iC:=@Nat.le_mul_of_pos_right
def jr:=@Int.emod_nonneg
def iG:=@List.countP_eq_length_filter
def lD:=@Nat.add_zero
def iN:=@Option.map_eq_some_iff
def iO:=@List.filter_eq_nil_iff
def iR:=@ByteArray.ext
def kG:=@BitVec.toNat_and
def iV:=@List.mem_flatMap
def iU:=@Int.natCast_zero
def jh:=@List.mem_filterMap
def tu:=@Bool.false_ne_true
def jo:=@List.mem_of_find?_eq_some
def oE:=@Int.le_refl
def jF:=@List.any_nil
def jG:=@Nat.succ_pos
def jI:=@Int.sub_zero
def jH:=@Int.emod_eq_of_lt
def jJ:=@List.foldl_append
def jK:=@List.mem_of_mem_take
def jL:=@Int.one_mul
def jU:=@Bool.not_true
def jV:=@List.mem_cons
def jS:=@Int.mul_tdiv_cancel_left
def kE:=@List.cons_append
def kH:=@Int.mul_nonneg
def kI:=@Int.mul_le_mul
def kP:=@List.drop_append_of_le_length
def lE:=@Int.natCast_nonneg
def lF:=@List.getElem_idxOf
def kZ:=@Int.mul_comm
def lK:=@List.any_append
def lV:=@List.take_append_drop
def lX:=@Nat.le_of_ble_eq_true
def mc:=@List.getElem_take
def md:=@List.idxOf_lt_length_of_mem
def my:=@List.mem_of_getElem?
def mz:=@Int.fdiv_eq_ediv_of_nonneg
def mA:=@Int.tmod_eq_emod_of_nonneg
def pt:=@Nat.left_le_or
def mC:=@List.getElem?_append
def mE:=@Nat.sub_le
def mB:=@List.mem_append_left
def mD:=@Nat.mod_two_eq_zero_or_one
def kD:=@List.flatMap_nil
def mV:=@Iff.rfl
def mW:=@Option.getD_some
def mX:=@Nat.lt_of_not_le
def na:=@List.extract_eq_take_drop
def nb:=@Nat.shiftRight_eq_div_pow
def nf:=@Nat.ge_two_pow_of_testBit
def nI:=@Bool.or_assoc
def nJ:=@List.filterMap_cons_some
def nL:=@List.set_eq_of_length_le
def um:=@List.all_cons
def nM:=@Bool.and_true
def nY:=@Eq.symm
def nZ:=@and_congr_right
def ou:=@List.filter_filter
def ow:=@Int.natAbs_natCast
def ov:=@Nat.pos_of_ne_zero
def pl:=@List.getElem_cons_succ
def pj:=@List.set_set_perm
def pn:=@List.getElem?_set_self
def po:=@Nat.le_succ_of_le
def pq:=@List.take_succ_eq_append_getElem
def pu:=@List.take_zero
def pw:=@Bool.not_false
def pJ:=@Array.getElem?_toList
def wq:=@Nat.and_le_right
def ql:=@Bool.not_eq_true
def qm:=@Array.eq_empty_of_size_eq_zero
def qY:=@List.foldl_cons
def qZ:=@Nat.two_pow_pos
def rb:=@Nat.not_lt_zero
def ra:=@Nat.min_eq_left
def Co:=@Nat.testBit_two_pow_sub_succ
def pi:=@Nat.sub_self
def rI:=@Nat.le_of_eq
def rJ:=@Nat.two_pow_add_eq_or_of_lt
def Gs:=@Nat.mul_comm
def ta:=@Array.all_eq_true'
def td:=@List.set_cons_succ
def te:=@Array.toList_setIfInBounds
def tf:=@BitVec.toNat_ofNat
def tg:=@Nat.eq_zero_or_pos
def tl:=@List.findIdx?_eq_none_iff
def tn:=@Nat.lt_pow_two_of_testBit
def tO:=@List.getElem_drop
def pk:=@List.any_eq_false
def tP:=@Nat.pow_right_inj
def tQ:=@Int.mul_sub
def tR:=@Function.comp_def
def ul:=@List.filterMap_cons_none
def uo:=@Nat.pow_lt_pow_iff_right
def wi:=@Nat.zero_lt_succ
def wj:=@List.mem_toArray
def wl:=@List.getElem?_cons_zero
def wm:=@List.drop_append
def wn:=@Nat.mod_eq_of_lt
def wr:=@List.length_drop
def wo:=@Int.natCast_emod
def wt:=@List.not_mem_nil
def xp:=@Int.zero_mul
def xr:=@Nat.add_comm
def xu:=@Nat.mul_succ
def xq:=@Nat.mod_lt
def xt:=@Nat.or_assoc
def xw:=@List.length_pos_of_mem
def xo:=@ByteArray.append_assoc
def xx:=@ByteArray.data_extract
def xU:=@List.find?_some
def xV:=@Option.map_some
def xW:=@List.nodup_cons
def xX:=@Int.natCast_mul
def lW:=@List.set_append_right
def yk:=@List.findSome?_append
def yi:=@List.filter_replicate
def yj:=@List.countP_mono_left
def yl:=@Array.getElem?_modify
def zX:=@Nat.mul_le_mul
def zY:=@List.mem_erase_of_ne
def zZ:=@List.pairwise_append
def zW:=@List.replicate_succ'
def Aa:=@Array.toList_extract
def BF:=@Array.toList_zipIdx
def BG:=@Array.toList_modify
def Ma:=@List.nodup_finRange
def BH:=@Int.toNat_of_nonneg
def Gq:=@dif_neg
def Gr:=@dif_pos
def Gt:=@Bool.or_true
def Gu:=@Int.zero_sub
def MU:=@Nat.pow_pos
def JN:=@Nat.mod_mod
def JO:=@Nat.one_mul
def JP:=@Nat.sub_mul
def JS:=@Nat.zero_or
def JR:=@Nat.or_comm
def JT:=@List.map_id
def Ng:=@Nat.pow_add
def JQ:=@Int.neg_mul
def LF:=@Fin.ext
inductive PV where
 | v (x:Value)
 | sl (fr:Bool) (sz:Nat) (cells:List PV)
 | own (k ver:Nat)
 | ref (k ver off:Nat)
 | eref (fr:Bool) (cells:List PV) (off:Nat)
 | ag (cells:List PV)
 | tup (parts:List PV)
 | clo (f:FuncId) (caps:List PV)
 | junk
 deriving Inhabited
abbrev M0:=List PV
inductive RK where
 | dead
 | nil
 | box (t:TypeId) (cells:List PV)
 | sli (e:TypeId) (sz:Nat) (fz:Bool) (cells:List PV)
 | tab (e:TypeId) (cells:List PV)
 | mp (f:Int->Int)
def RK.nd:RK->Bool|.dead=>l0|_=>k0
def RK.live:RK->Bool|.box _ _=>k0|.sli _ _ a _=>!a|.tab _ _=>k0|.mp _=>k0|_=>l0
def RK.slice:RK->Bool|.nil=>k0|.sli _ _ _ _=>k0|.tab _ _=>k0|.mp _=>k0|_=>l0
structure Row where
 ver:Nat
 kind:RK
abbrev Y0:=List Row
abbrev S0:=Nat->Row
structure St where
 sl:Nat->PV
 rw:Nat->Row
structure Env where
 R:Nat->Row
 rm:Nat->Option Nat
 rv:Nat->Value
 L:Nat->Prop
 B:Nat
 X:Nat->Prop
def Env.lo(E:Env)(a:Nat)(fr:Bool):Nat:=max a (if fr=k0 then E.B else 0)
def Env.bare(E:Env):Env:={ R:=λ_=>⟨0,.dead⟩,rm:=λ_=>o0,rv:=λ_=>default,L:=E.L,B:=0,X:=λ_=>False }
inductive Rep (w:World):Env->Nat->PV->Value->Prop
 | v {E:Env} {lo:Nat} (x:Value):Rep w E lo (.v x) x
 | sl {E:Env} {lo:Nat} {fr:Bool} {sz len cap:Nat} {cells:List PV} {a:Option Addr} (cs:Nat->Value)
  (hl:cells.length=len*sz) (hc:len<=cap) (hm:cap<=maxLen)
  (hr:∀i,i<cells.length->∃b o,a=some ⟨b,o,none⟩/\E.lo lo fr<=b/\¬E.L b/\w.cell? ⟨b,o+i,none⟩=some (cs i))
  (hh:∀i (h:i<cells.length),Rep w E.bare (E.lo lo fr) cells[i] (cs i)):Rep w E lo (.sl fr sz cells) (.slice a len cap)
 | own {E:Env} {lo k ver:Nat} {x:Value} (hv:ver<=(E.R k).ver) (hx:(E.R k).ver=ver->(E.R k).kind.slice=true->x=E.rv k):Rep w E lo (.own k ver) x
 | ref {E:Env} {lo k ver off:Nat} {x:Value} (hv:ver<=(E.R k).ver)
  (hx:(E.R k).ver=ver->(E.R k).kind.nd=true->∃b,E.rm k=some b/\x=.pointer (some ⟨b,off,none⟩)):Rep w E lo (.ref k ver off) x
 | eref {E:Env} {lo:Nat} {fr:Bool} {cells:List PV} {off b o:Nat} (cs:Nat->Value)
  (hr:∀i,i<cells.length->E.lo lo fr<=b/\¬E.L b/\w.cell? ⟨b,o+i,none⟩=some (cs i))
  (hh:∀i (h:i<cells.length),Rep w E.bare (E.lo lo fr) cells[i] (cs i)):Rep w E lo (.eref fr cells off) (.pointer (some ⟨b,o+off,none⟩))
 | ag {E:Env} {lo:Nat} {cells:List PV} {vs:List Value} (hl:cells.length=vs.length) (hh:∀i (h:i<cells.length) (h':i<vs.length),Rep w E lo cells[i] vs[i]) :
  Rep w E lo (.ag cells) (.agg vs.toArray)
 | tup {E:Env} {lo:Nat} {cells:List PV} {vs:List Value} (hl:cells.length=vs.length) (hh:∀i (h:i<cells.length) (h':i<vs.length),Rep w E lo cells[i] vs[i]) :
  Rep w E lo (.tup cells) (.tuple vs.toArray)
 | clo {E:Env} {lo:Nat} {f:FuncId} {cells:List PV} {vs:List Value} (hl:cells.length=vs.length) (hh:∀i (h:i<cells.length) (h':i<vs.length),Rep w E lo cells[i] vs[i]) :
  Rep w E lo (.clo f cells) (.func (.func f) #[] vs.toArray)
 | junk {E:Env} {lo:Nat} (x:Value):Rep w E lo .junk x
def ex(w:C0)(E:Env)(c:Nat)(a:M0)(b:List E0):Prop :=
 (lh a)=lh b/\∀i(h:i<lh a)(d:i<lh b),Rep w E c a[i] b[i]
theorem tY{b:C0}{o:Nat}{s:Option Nat}(h:b.heap[g]?=a.heap[g]?):b.cell? ⟨g,o,s⟩=a.cell? ⟨g,o,s⟩:=by simp[C0.cell?,h]
theorem CH{o:Nat}(h:a.cell? ⟨g,o,o0⟩=n0 x):g<a.heap.size :=
 C0.block_lt_of_cell? a _ h
structure Lasts (w w':World) (E E':Env):Prop where
 cells:∀b,b<w.heap.size->¬E.L b->w'.heap[b]?=w.heap[b]?/\¬E'.L b
 ver:∀k,(E.R k).ver<=(E'.R k).ver
 slice:∀k,(E'.R k).ver=(E.R k).ver->(E'.R k).kind.slice=true->(E.R k).kind.slice=true/\E'.rv k=E.rv k
 nd:∀k,(E'.R k).ver=(E.R k).ver->(E'.R k).kind.nd=true->(E.R k).kind.nd=true/\E'.rm k=E.rm k
 base:E'.B<=E.B
theorem Lasts.bare{w:C0}{E b:Env}(h:Lasts a w E b):Lasts a w E.bare b.bare :=
 ⟨h.cells,λ_=>ab _,λ_ _ h=>absurd h<|by simp[Env.bare,RK.slice],λ_ _ h=>absurd h<|by simp[Env.bare,RK.nd],ab _⟩
theorem Rep.mono{K:C0}{E n:Env}(f:Lasts a K E n){p:PV}(h:Rep a E g p x):∀{d:Nat},d<=g->Rep K n d p x:=by
 induction h generalizing n with
 | v x=>exact λ_=>.v x
 | @sl E g fr P len cap cells w s q L M t u l =>
   intro d m;have j:n.lo d fr<=E.lo g fr:=by have:=f.base;unfold Env.lo;cases fr<;>simp<;>omega
   refine .sl s q L M (λi r=>?_)<|λi r=>l i r f.bare j;have⟨b,o,N,y,z,c⟩:=t i r;have⟨A,B⟩:=f.cells b (CH c) z;exact⟨b,o,N,aJ j y,B,(tY A).trans c⟩
 | @own E g k C x D F =>
   intro d _;refine .own (aJ D<|f.ver k) λO G=>?_;have e:(n.R k).ver=(E.R k).ver:=by have:=f.ver k;omega
   have⟨H,I⟩:=f.slice k e G;rw[I];exact F (by omega) H
 | @ref E g k C J x D F =>
   intro d _;refine .ref (aJ D<|f.ver k) λO G=>?_;have e:(n.R k).ver=(E.R k).ver:=by have:=f.ver k;omega
   have⟨H,I⟩:=f.nd k e G;rw[I];exact F (by omega) H
 | @eref E g fr cells J b o s t u l =>
   intro d m;have j:n.lo d fr<=E.lo g fr:=by have:=f.base;unfold Env.lo;cases fr<;>simp<;>omega
   refine .eref s (λi r=>?_)<|λi r=>l i r f.bare j;have⟨y,z,c⟩:=t i r;have⟨A,B⟩:=f.cells _ (CH c) z;exact⟨aJ j y,B,(tY A).trans c⟩
 | ag q _ l=>exact λm=>.ag q<|λi w b=>l i w b f m
 | tup q _ l=>exact λm=>.tup q<|λi w b=>l i w b f m
 | clo q _ l=>exact λm=>.clo q<|λi w b=>l i w b f m
 | junk x=>exact λ_=>.junk x
theorem Lasts.refl(w:C0)(E:Env):Lasts w w E E:=⟨λ_ _ h=>⟨rfl,h⟩,λ_=>ab _,λ_ _ h=>⟨h,rfl⟩,λ_ _ h=>⟨h,rfl⟩,ab _⟩
theorem Rep.low{E:Env}{b:Nat}{p:PV}(h:Rep a E g p x)(c:b<=g):Rep a E b p x:=h.mono (Lasts.refl a E) c
theorem ex.mono{d:C0}{E e:Env}{c:Nat}{j:M0}(k:Lasts a d E e)(w:c<=g)(h:ex a E g j l):ex d e c j l :=
 ⟨h.1,λi f b=>(h.2 i f b).mono k w⟩
def tB:List MapEntry->Int->Int
 | [],_=>0
 | e::c,a=>match e.key,e.val with|.int .u64 b,.int .i64 x=>if b=a then x else tB c a|_,_=>tB c a
def zg3(b:List MapEntry)(f:Int->Int):Prop:=(∀e∈b,∃a x,e.key=.int .u64 a/\e.val=.int .i64 x)/\∀a,tB b a=f a
def cn(w:C0)(E:Env)(C:Nat->Nat->Prop)(k:Nat):Prop :=
 match (E.R k).kind with
 | .dead=>True
 | .nil=>E.rm k=o0/\E.rv k=.slice o0 0 0
 | .box t cells=>∃b c,E.rm k=n0 b/\C k b/\w.heap[b]?=n0 (.cells c.toArray t (0,0))/\ex w E 0 cells c
 | .sli e d _ cells =>
   (E.rm k=o0/\E.rv k=.slice o0 0 0/\cells=[]) \/
   ∃b n cap c a,E.rm k=n0 b/\C k b/\E.rv k=.slice (n0 ⟨b,0,o0⟩) n cap/\w.heap[b]?=n0 (.cells (c++a).toArray e (0,0)) /\
    (lh c)=n*d/\n<=cap/\cap<=maxLen/\(c++a).length=cap*d/\ex w E.bare E.B cells c
 | .tab e cells =>
   (E.rm k=o0/\E.rv k=.slice o0 0 0/\cells=[]) \/
   ∃b n cap c a,E.rm k=n0 b/\C k b/\E.rv k=.slice (n0 ⟨b,0,o0⟩) n cap/\w.heap[b]?=n0 (.cells (c++a).toArray e (0,0)) /\
    (lh c)=n/\n<=cap/\cap<=maxLen/\(c++a).length=cap/\ex w E 0 cells c
 | .mp f=>∃b g clock,E.rm k=n0 b/\C k b/\E.rv k=.map (n0 b)/\w.heap[b]?=n0 (.map g clock)/\zg3 g.toList f
structure HeldS where
 Φ:World->Prop
 Gl:Nat->Prop
 dr:Prop
 keep:∀{w w':World},Φ w->(∀b,Gl b->w'.heap[b]?=w.heap[b]?)->Φ w'
 low:∀{w:World} {b:Nat},Φ w->Gl b->b<w.heap.size
abbrev aw:=Inhabited HeldS
def aw.Φ[aw]:C0->Prop:=(default:HeldS).Φ
def aw.Gl[aw]:l1:=(default:HeldS).Gl
def aw.dr[aw]:Prop:=(default:HeldS).dr
structure OutLe [aw] (w w':World):Prop where
 same:w'.output=w.output
 more:aw.dr->w.drawn<=w'.drawn
theorem OutLe.refl[aw](w:C0):OutLe w w:=⟨rfl,λ_=>ab _⟩
theorem OutLe.trans[aw]{b c:C0}(k:OutLe b c)(h:OutLe a b):OutLe a c:=⟨k.same.trans h.same,λd=>aJ (h.more d)<|k.more d⟩
theorem aw.keep[aw]{w:C0}(h:aw.Φ a)(c:∀b,aw.Gl b->w.heap[b]?=a.heap[b]?):aw.Φ w:=(default:HeldS).keep h c
theorem aw.low[aw](h:aw.Φ a)(b:aw.Gl g):g<a.heap.size:=(default:HeldS).low h b
structure Fx [aw] (w0:World) (M:Nat->Nat->Prop) (X:Nat->Prop):Prop where
 low:∀b,X b->b<w0.heap.size
 mx:∀k b,M k b->¬aw.Gl b
 phi:aw.Φ w0
structure Ghost where
 w0:World
 M:Nat->Nat->Prop
 n:Nat
 pR:Nat->Row
 pm:Nat->Option Nat
 px:Nat->Value
 X:Nat->Prop
structure Kept [aw] (G:Ghost) (w:World):Prop where
 os:w.os=G.w0.os
 tape:w.tape=G.w0.tape
 output:OutLe G.w0 w
 size:G.w0.heap.size<=w.heap.size
 block:∀b,b<G.w0.heap.size->(∀k,¬G.M k b)->w.heap[b]?=G.w0.heap[b]?
def lent:Nat:=1000000
def Ghost.C(G:Ghost)(k b:Nat):Prop:=G.w0.heap.size<=b\/(lent<=k/\G.M k b)
structure WOk [aw] (G:Ghost) (E:Env) (w:World):Prop where
 rows:∀k,cn w E G.C k
 inj:∀k k' b,(E.R k).kind.nd=true->(E.R k').kind.nd=true->E.rm k=some b->E.rm k'=some b->k=k'
 live:∀b,E.L b↔(∃k,E.rm k=some b/\(E.R k).kind.live=true)\/E.X b
 pos:∀k,(E.R k).kind.nd=true->0<(E.R k).ver
 base:E.B=G.w0.heap.size
 xs:E.X=G.X
 fx:Fx G.w0 G.M G.X
 apart:∀k b,(E.R k).kind.nd=true->E.rm k=some b->¬G.X b
 kept:Kept G w
 pin:∀k,(G.pR k).ver<=(E.R k).ver/\((E.R k).ver=(G.pR k).ver->(E.R k).kind.nd=true->(G.pR k).kind.nd=true/\E.rm k=G.pm k/\((E.R k).kind.slice=true->(G.pR k).kind.slice=true/\E.rv k=G.px k))
theorem WOk.held[aw]{G:Ghost}{E:Env}(h:WOk G E a):aw.Φ a :=
 aw.keep h.fx.phi λb w=>h.kept.block b (aw.low h.fx.phi w) λk c=>h.fx.mx k b c w
structure SimE [aw] (G:Ghost) (E:Env) (s:St) (a:Act) (w:World):Prop where
 rw:E.R=s.rw
 wok:WOk G E w
 size:a.tmps.size=G.n
 defers:a.defers=[]
 slots:∀i,Rep w E 0 (s.sl i) (a.tmps.getD i undef)
def rt[aw](G:Ghost)(s:St)(a:Act)(w:C0):Prop:=∃E,SimE G E s a w
def VY:E0->PV
 | .agg a=>.ag (a.toList.map PV.v)
 | x=>.v x
def St.ev(s:St):B0->PV
 | .tmp t=>s.sl t
 | .const c=>VY c
 | .func f=>.clo f []
 | .global _=>.junk
def St.put(s:St)(d:Option Nat)(p:PV):St :=
 match d with
 | none=>s
 | some d=>{ s with sl:=λi=>if i=d then p else s.sl i }
def St.row(s:St)(k:Nat)(r:Row):St:={ s with rw:=λi=>if i=k then r else s.rw i }
theorem dE{w:C0}{E:Env}{s:St}{a:Act}(h:∀i,Rep w E 0 (s.sl i) (a.tmps.getD i undef))(x:B0):Rep w E 0 (s.ev x) (a.eval x):=by
 cases x with
 | tmp t=>exact h t
 | const c =>
   cases c<;>first|exact .v _|skip
   exact .ag sp<|λi h e=>by simp;exact .v _
 | func f=>exact .clo rfl<|λi d=>absurd d<|sp
 | global g=>exact .junk _
theorem SimE.put[aw]{G:Ghost}{E:Env}{s:St}(h:SimE G E s q a){d:Option Nat}(c:∀v,d=n0 v->v<G.n){p:PV}(e:Rep a E 0 p x) :
 SimE G E (s.put d p) (q.put d x) a:=by
 cases d with
 | none=>exact h
 | some d =>
   refine⟨h.rw,h.wok,by simpa[Act.put]using h.size,h.defers,λi=>?_⟩
   simp[St.put,Act.put]
   by_cases b:i=d
   have:i<q.tmps.size:=by simp_all[h.size]
   grind
   rw[Array.getElem?_setIfInBounds_ne<|Ne.symm b];have:=h.slots i;simp_all
theorem SimE.turn[aw]{G:Ghost}{E E':Env}{s:St}{a:Act}{w w':C0}(h:SimE G E s a w)(hl:Lasts w w' E E')(hw:WOk G E' w'):SimE G E' { s with rw:=E'.R } a w' :=
 ⟨rfl,hw,h.size,h.defers,λi=>(h.slots i).mono hl<|ab _⟩
structure Ext [aw] (w w':World):Prop where
 os:w'.os=w.os
 tape:w'.tape=w.tape
 output:OutLe w w'
 size:w.heap.size<=w'.heap.size
 block:∀b,b<w.heap.size->w'.heap[b]?=w.heap[b]?
theorem Ext.refl[aw](w:C0):Ext w w:=⟨rfl,rfl,OutLe.refl w,ab _,λ_ _=>rfl⟩
theorem Ext.trans[aw]{b c:C0}(h:Ext a b)(k:Ext b c):Ext a c :=
 ⟨k.os.trans h.os,k.tape.trans h.tape,k.output.trans h.output,aJ h.size k.size,λi d=>(k.block i<|cp d h.size).trans<|h.block i d⟩
theorem Ext.lasts[aw]{w:C0}(h:Ext a w)(E:Env):Lasts a w E E :=
 ⟨λb c d=>⟨h.block b c,d⟩,λ_=>ab _,λ_ _ h=>⟨h,rfl⟩,λ_ _ h=>⟨h,rfl⟩,ab _⟩
theorem Ext.alloc[aw](w:C0)(o:Obj):Ext w (w.alloc o):=⟨rfl,rfl,⟨rfl,λ_=>ab _⟩,sp,λb a=>by show(w.heap.push o)[b]?=_;grind⟩
theorem Ext.drew[aw](w:C0):Ext w w.drew:=⟨rfl,rfl,⟨rfl,λ_=>cK _⟩,ab _,λ_ _=>rfl⟩
theorem pQ{o:Obj}(h:a.heap[g]?=n0 o):g<a.heap.size:=(Array.getElem?_eq_some_iff.1 h).1
theorem cn.ext[aw]{q:C0}{E:Env}(h:cn a E d g)(e:Ext a q):cn q E d g:=by unfold cn at *;split at h;trivial;exact h;have⟨b,i,f,w,k,c⟩:=h;exact⟨b,i,f,w,(e.block b<|pQ k).trans k,c.mono (e.lasts E)<|ab _⟩;rcases h with h|⟨b,n,cap,i,C,f,w,k,c,j,l,m,o,p⟩;exact .inl h;exact .inr ⟨b,n,cap,i,C,f,w,k,(e.block b<|pQ c).trans c,j,l,m,o,p.mono (e.lasts E).bare<|ab _⟩;rcases h with h|⟨b,n,cap,i,C,f,w,k,c,j,l,m,o,p⟩;exact .inl h;exact .inr ⟨b,n,cap,i,C,f,w,k,(e.block b<|pQ c).trans c,j,l,m,o,p.mono (e.lasts E)<|ab _⟩;have⟨b,r,s,f,w,k,c,j⟩:=h;exact⟨b,r,s,f,w,k,(e.block b<|pQ c).trans c,j⟩
theorem Kept.ext[aw]{G:Ghost}{c:C0}(h:Kept G a)(w:Ext a c):Kept G c :=
 ⟨w.os.trans h.os,w.tape.trans h.tape,w.output.trans h.output,aJ h.size w.size,λb d e=>(w.block b<|cp d h.size).trans<|h.block b d e⟩
theorem WOk.ext[aw]{G:Ghost}{E:Env}{w:C0}(h:WOk G E a)(b:Ext a w):WOk G E w :=
 ⟨λk=>(h.rows k).ext b,h.inj,h.live,h.pos,h.base,h.xs,h.fx,h.apart,h.kept.ext b,h.pin⟩
theorem RK.nd_of_slice{k:RK}(h:k.slice=k0):k.nd=true:=by cases k<;>simp_all [RK.slice,RK.nd]
theorem RK.nd_of_live{k:RK}(h:k.live=k0):k.nd=true:=by cases k<;>simp_all [RK.live,RK.nd]
theorem WOk.block[aw]{G:Ghost}{E:Env}(h:WOk G E a){b:Nat}(w:E.rm g=n0 b)(p:(E.R g).kind.nd=k0):b<a.heap.size/\G.C g b:=by
 have c:=h.rows g;unfold cn at c;cases i:(E.R g).kind with
 | dead=>rw[i]at p;cases p
 | nil=>grind
 | box t cells =>grind
 | sli e r s cells =>
   grind
 | tab e cells =>
   grind
 | mp f =>grind
theorem WOk.low[aw]{G:Ghost}{E:Env}(h:WOk G E a)(c:E.L g):g<a.heap.size:=by rcases(h.live g).1 c with⟨k,d,e⟩|b;exact(h.block d<|RK.nd_of_live e).1;rw[h.xs]at b;exact cp (h.fx.low g b) h.kept.size
theorem SimE.ext[aw]{G:Ghost}{E:Env}{s:St}{b:C0}(h:SimE G E s q a)(c:Ext a b):SimE G E s q b :=
 ⟨h.rw,h.wok.ext c,h.size,h.defers,λi=>(h.slots i).mono (c.lasts E)<|ab _⟩
theorem WOk.ngl[aw]{G:Ghost}{E:Env}(h:WOk G E a){b:Nat}(w:E.rm g=n0 b)(o:(E.R g).kind.nd=k0):¬aw.Gl b:=by
 have q:G.C g b:=by
  have k:=h.rows g;unfold cn at k;cases j:(E.R g).kind with
  | dead=>rw[j]at o;cases o
  | nil=>grind
  | box t c =>grind
  | sli e s u c =>
    grind
  | tab e c =>
    grind
  | mp f =>grind
 rcases q with d|⟨_,i⟩;exact λr=>absurd (aw.low h.fx.phi r)<|Nat.not_lt_of_le d;exact h.fx.mx g b i
def NS(es:List MapEntry):Prop:=∀e∈es,∃a x,e.key=.int .u64 a/\e.val=.int .i64 x
theorem NS.tail(es:NS (o::h)):NS h:=λx a=>es x<|dd _ a
theorem kT{b x a:Int}(c:o.key=.int .u64 b)(d:o.val=.int .i64 x):tB (o::h) a=if b=a then x else tB h a:=by rw[tB,c,d]
theorem Hl(a:Int):∀(es:List MapEntry)(i:Nat),NS es ->
 (Instr.findNow (.int .u64) (.int .u64 a) es i=n0 o0/\tB es a=0/\∀e∈es,e.key≠.int .u64 a) \/
 ∃(j:Nat)(x:Int)(e:MapEntry),Instr.findNow (.int .u64) (.int .u64 a) es i=n0 (n0 (i+j,.int .i64 x))/\tB es a=x/\es[j]?=n0 e/\e.key=.int .u64 a/\∀(d:Nat)(f:MapEntry),d<j->es[d]?=n0 f->f.key≠.int .u64 a
 | [],i,_=>.inl ⟨rfl,rfl,λe h=>by cases h⟩
 | e::es,i,h=>by
   have⟨b,x,l,o⟩:=h e cU;have s:Instr.sameNow (.int .u64) (.int .u64 a) e.key=n0 (a==b):=by rw[l];simp[Instr.sameNow]
   by_cases c:a=b;subst c;refine .inr ⟨0,x,e,?_,?_,rfl,l,λd f t=>absurd t om⟩;rw[Instr.findNow,s];simp[o];rw[kT l o,ae rfl];have p:Instr.sameNow (.int .u64) (.int .u64 a) e.key=n0 false:=by rw[s];simpa using c
   have w:Instr.findNow (.int .u64) (.int .u64 a) (e::es) i=Instr.findNow (.int .u64) (.int .u64 a) es (i+1):=by rw[Instr.findNow,p]
   have y:tB (e::es) a=tB es a:=by rw[kT l o,ac λh=>c h.symm]
   rw[w,y];have m:e.key≠.int .u64 a:=λu=>by rw[l]at u;injection u with _ n;exact c n.symm
   rcases Hl a es (i+1) h.tail with⟨q,n,r⟩|⟨j,z,f,q,n,r,A,B⟩;grind;refine .inr ⟨j+1,z,f,by rw[q];congr 3;omega,n,ss r,A,λd C t k=>?_⟩;grind
def yO(f:Int->Int)(a y:Int):Int->Int:=λb=>if b=a then y else f b
theorem TX(a y:Int)(n:Nat):∀(es:List MapEntry),NS es->(∀e∈es,e.key≠.int .u64 a)->∀b,tB (es++[⟨.int .u64 a,.int .i64 y,n⟩]) b=if b=a then y else tB es b
 | [],_,_,b=>by simp[kT];omega
 | e::es,h,i,b=>by have⟨c,x,f,j⟩:=h e cU;have k:=TX a y n es h.tail (λe l=>i e (dd _ l)) b;rw[kE,kT f j,kT f j];grind
theorem zaW(a y:Int):∀(es:List MapEntry)(j:Nat)(e:MapEntry),NS es->es[j]?=n0 e->e.key=.int .u64 a->(∀(j':Nat)(e':MapEntry),j'<j->es[j']?=n0 e'->e'.key≠.int .u64 a) ->
 NS (es.modify j λe=>{ e with key:=.int .u64 a,val:=.int .i64 y })/\∀b,tB (es.modify j λe=>{ e with key:=.int .u64 a,val:=.int .i64 y }) b=if b=a then y else tB es b
 | [],j,e,_,h,_,_=>by simp at h
 | e0::es,0,e,h,h1,hk,hn=>by simp at h1;subst h1;have⟨c,x,hk',hv⟩:=h e0 cU;have hm:(e0::es).modify 0 (λe=>{ e with key:=.int .u64 a,val:=.int .i64 y })={ e0 with key:=.int .u64 a,val:=.int .i64 y }::es:=rfl;rw[hm];refine⟨λe he=>?_,λb=>?_⟩;rcases List.mem_cons.1 he with rfl|he;exact⟨a,y,rfl,rfl⟩;exact h e (dd _ he);rw[kT rfl rfl,kT hk hv];grind
 | e0::es,j+1,e,h,h1,hk,hn=>by have⟨c,x,hk',hv⟩:=h e0 cU;have⟨i1,i2⟩:=zaW a y es j e h.tail (ss h1) hk λj' e' hj he=>hn (j'+1) e' om (ss he);have hm:(e0::es).modify (j+1) (λe=>{ e with key:=.int .u64 a,val:=.int .i64 y })=e0::es.modify j _:=rfl;rw[hm];refine⟨λe he=>?_,λb=>?_⟩;rcases List.mem_cons.1 he with rfl|he;exact h e cU;exact i1 e he;have hca:c≠a:=λe'=>hn 0 e0 om rfl (by rw[hk',e']);rw[kT hk' hv,kT hk' hv,i2];grind
section
variable {P:G0}{t k e:A0}{w:C0}{b:Nat}{es:Array MapEntry}{ck:Nat}{f:Int->Int}
theorem ru(b:P.underlying k=n0 (.int .u64))(em:Bool)(a:Int):(Instr.checkKey em 10000 k (.int .u64 a)).run P w=.ok () w:=by
 have h:∀n,(Instr.checkKey em (n+1) k<|.int .u64 a).run P w=.ok () w:=λn=>by simp[Instr.checkKey,run_underlying b]
 grind
theorem zdv(g:P.underlying t=n0 (.map k e))(c:P.underlying k=n0 (.int .u64))(l:(zeroValue e).run P w=.ok (.int .i64 0) w)(h:w.heap[b]?=n0 (.map es ck))(i:zg3 es.toList f)(a:Int) :
 (Instr.lookup t (.map (n0 b)) (.int .u64 a) l0).run P w=.ok (.int .i64 (f a)) w:=by
 have n:=i.2 a
 rcases Hl a _ 0 i.1 with⟨d,m,_⟩|⟨j,x,o,d,m,_⟩
 simp[Instr.lookup,run_underlying g,MapKept.run_getObj_map h,ru c,Instr.findKey,run_underlying c,d,l];omega
 simp[Instr.lookup,run_underlying g,MapKept.run_getObj_map h,ru c,Instr.findKey,run_underlying c,d];omega
theorem Qm(ht:P.underlying t=n0 (.map k e))(hk:P.underlying k=n0 (.int .u64))(hb:w.heap[b]?=n0 (.map es ck))(hm:zg3 es.toList f)(a y:Int) :
 ∃es' ck',(Instr.mapUpdate t (.map (n0 b)) (.int .u64 a) (.int .i64 y)).run P w=.ok () (ChangeMaps.setBlock w b (.map es' ck'))/\zg3 es'.toList (yO f a y):=by
 rcases Hl a _ 0 hm.1 with⟨h1,h2,h3⟩|⟨j,x,e',h1,h2,h3,h4,h5⟩
 refine⟨es.push ⟨.int .u64 a,.int .i64 y,ck⟩,ck+1,?_,λe he=>?_,λc=>?_⟩
 simp[Instr.mapUpdate,run_underlying ht,MapKept.run_getObj_map hb,ru hk,Instr.findKey,run_underlying hk,h1,MapKept.run_setObj_map _ hb,ChangeMaps.setBlock]
 rw[Array.toList_push,gG,fZ]at he;rcases he with he|rfl
 exact hm.1 e he
 simp
 rw[Array.toList_push,TX a y ck _ hm.1 h3,hm.2];rfl
 have⟨i1,i2⟩:=zaW a y _ j e' hm.1 h3 h4 h5;refine⟨es.modify j λe=>{ e with key:=.int .u64 a,val:=.int .i64 y },ck,?_,?_,λc=>?_⟩
 simp[Instr.mapUpdate,run_underlying ht,MapKept.run_getObj_map hb,ru hk,Instr.findKey,run_underlying hk,h1,MapKept.run_setObj_map _ hb,ChangeMaps.setBlock,Instr.keyThatStays,ss h3,h4,Instr.sameBits]
 rw[BG];exact i1
 rw[BG,i2,hm.2];rfl
end
inductive TK where
 | int (k:IntKind)
 | bool
 | str
 | sli (e:TypeId)
 | struct (fs:List (Nat×TypeId))
 | arr (n:Nat) (e:TypeId)
 | map (k e:TypeId)
 | other
def TK.agg:TK->Bool|.struct _=>k0|.arr _ _=>k0|_=>l0
structure TD where
 k:TK
 size:Nat
 bytes:Nat
 zero:List Value
def TK.fits(P:G0)(t:A0):TK->Prop
 | .int k=>P.underlying t=n0 (.int k)
 | .bool=>P.underlying t=n0 .bool
 | .str=>P.underlying t=n0 .string
 | .sli e=>P.underlying t=n0 (.slice e)
 | .struct b=>∃a:Array Field,P.underlying t=n0 (.struct a)/\a.toList.map (λf=>(f.offset,f.type))=b
 | .arr n e=>P.underlying t=n0 (.array n e)
 | .map k e=>P.underlying t=n0 (.map k e)
 | .other=>∃d,P.underlying t=n0 d/\(match d with|.struct _|.array _ _=>False|_=>True)
structure TD.Fits (P:Program) (t:TypeId) (d:TD):Prop where
 k:d.k.fits P t
 info:∃i z,P.info? t=some i/\i.size=d.size/\i.bytes=d.bytes/\i.zero=some z/\z.cells.toList=d.zero
 zlen:d.zero.length=d.size
 one:d.k.agg=false->d.size=1/\∀z,d.zero=[z]->z.oneCell'=true
 zv:d.k.agg=true\/∃i z,P.info? t=some i/\i.zero=some z/\d.zero=[z]
abbrev gg:=A0->TD
def gg.Ok(T:gg)(P:G0):Prop:=∀t,0<(T t).size->(T t).Fits P t
section
variable {P:G0}{T:gg}
theorem TV{k:TK}(h:k.fits P c)(w:C0):(isAgg c).run P w=.ok k.agg w:=by
 cases k with
 | struct b=>have⟨t,h,_⟩:=h;simp[isAgg,run_underlying h,TK.agg]
 | other =>have⟨d,h,a⟩:=h;cases d<;>simp[isAgg,run_underlying h,TK.agg]at a ⊢
 | _=>simp[isAgg,run_underlying h,TK.agg]
theorem fQ{d:TD}(h:d.Fits P c)(w:C0):(sizeOf c).run P w=.ok d.size w:=by have⟨i,z,a,b,_⟩:=h.info;simp[sizeOf,typeInfo,a,b]
end
def fu(k:D0)(a b:Int):Int:=k.wrap (BitVec.ofInt k.bits a&&&BitVec.ofInt k.bits b).toNat
def EX(k:D0)(a b:Int):Int:=k.wrap (BitVec.ofInt k.bits a|||BitVec.ofInt k.bits b).toNat
def zl4(k:D0)(a b:Int):Int:=k.wrap (BitVec.ofInt k.bits a ^^^ BitVec.ofInt k.bits b).toNat
def gU(k:D0)(a b:Int):Int:=k.wrap (BitVec.ofInt k.bits a&&&~~~ BitVec.ofInt k.bits b).toNat
def jl(k:D0)(a b:Int):Int:=k.wrap (a*2^(min b.toNat k.bits))
def wH(k:D0)(a b:Int):Int:=a.fdiv (2^(min b.toNat k.bits))
def jm:BinOp->D0->Int->Int->E0
 | .add,k,a,b=>.int k (k.wrap (a+b))
 | .sub,k,a,b=>.int k (k.wrap (a-b))
 | .mul,k,a,b=>.int k (k.wrap (a*b))
 | .quo,k,a,b=>.int k (k.wrap (a.tdiv b))
 | .rem,k,a,b=>.int k (a.tmod b)
 | .and,k,a,b=>.int k (fu k a b)
 | .or,k,a,b=>.int k (EX k a b)
 | .xor,k,a,b=>.int k (zl4 k a b)
 | .andNot,k,a,b=>.int k (gU k a b)
 | .shl,k,a,b=>.int k (jl k a b)
 | .shr,k,a,b=>.int k (wH k a b)
 | .eql,_,a,b=>.bool (a==b)
 | .neq,_,a,b=>.bool (a != b)
 | .lss,_,a,b=>.bool (decide (a<b))
 | .leq,_,a,b=>.bool (decide (a<=b))
 | .gtr,_,a,b=>.bool (decide (a > b))
 | .geq,_,a,b=>.bool (decide (a>=b))
def iw:BinOp->D0->D0->Int->Prop
 | .quo,k,a,b=>k=a/\b≠0
 | .rem,k,a,b=>k=a/\b≠0
 | .shl,_,_,b=>0<=b
 | .shr,_,_,b=>0<=b
 | _,k,a,_=>k=a
def Hk:BinOp->P0->P0->Option E0
 | .add,a,b=>n0 (.string (a++b))
 | .eql,a,b=>n0 (.bool (a.toList==b.toList))
 | .neq,a,b=>n0 (.bool (!(a.toList==b.toList)))
 | .lss,a,b=>n0 (.bool (Op.bytesLess a.toList b.toList))
 | _,_,_=>o0
def iu(T:gg)(c:BinOp)(t:A0)(x y:PV)(K:PV->Prop):Prop :=
 match x,y with
 | .v (.int k a),.v (.int d b)=>iw c k d b/\K (.v (jm c k a b))
 | .v (.string a),.v (.string b)=>(c=.add->a.size+b.size<=9223372036854775807)/\match Hk c a b with|some r=>K (.v r)|none=>False
 | .v (.bool a),.v (.bool b)=>(T t).k=.bool/\0<(T t).size/\match c with|.eql=>K (.v (.bool (a==b)))|.neq=>K (.v (.bool (!(a==b))))|_=>False
 | _,_=>False
section
variable {P:G0}{T:gg}(w:C0)
theorem zds(c:BinOp)(t:A0)(k d:D0)(a b:Int)(h:iw c k d b):(binOp c t (.int k a) (.int d b)).run P w=.ok (jm c k a b) w:=by
 cases c<;>simp only[iw]at h<;>first
  | (have⟨rfl,e⟩:=h;simp[binOp,Op.intDiv,jm,e];done)
  | (subst h;simp[binOp,Op.intArith,Op.intBits,Op.intCmp,jm,fu,EX,zl4,gU])
  | (have f:¬b<0:=om
     simp[binOp,Op.shift,jm,jl,wH,f])
theorem zdt(c:BinOp)(t:A0)(a b:P0)(r:E0)(d:c=.add->a.size+b.size<=9223372036854775807)(h:Hk c a b=n0 r) :
 (binOp c t (.string a) (.string b)).run P w=.ok r w:=by
 cases c<;>simp[Hk]at h<;>subst h
 case add =>
  have e:=d rfl
  exact run_string_add_sum w a b e
 all_goals rfl
theorem Kl(c:BinOp)(t:A0)(x y:B0)(k d:D0)(a b:Int):(eqGuard c t x y (.int k a) (.int d b)).run P w=.ok () w:=by simp[eqGuard]
theorem CG(c:BinOp)(t:A0)(x y:B0)(a b:P0):(eqGuard c t x y (.string a) (.string b)).run P w=.ok () w:=by simp[eqGuard]
theorem uN(c:BinOp)(t:A0)(x y:B0)(a b:Bool):(eqGuard c t x y (.bool a) (.bool b)).run P w=.ok () w:=by simp[eqGuard]
end
theorem Rep.v_eq{E:Env}{y:E0}(h:Rep a E g (.v x) y):y=x:=by cases h;rfl
def tX[aw](P:G0)(G:Ghost)(s:St)(o:Oper)(p:PV):Prop :=
 ∀(E:Env)(a:Act)(w:C0),E.R=s.rw->WOk G E w->(∀x∈o.op.operands,Rep w E 0 (s.ev x) (a.eval x)) ->
  ∀(K:Act->C0->Prop)(Q:Exit->Act->C0->Prop),(∀v b,Ext w b->Rep b E 0 p v->K (a.put o.dst v) b)->o.wp P a w K Q
theorem qA{w w':C0}{K:Act->C0->Prop}{Q:Exit->Act->C0->Prop}{v:E0}(h:(execOp q.eval r).run j w=.ok (.value v) w')(b:K (q.put r.dst v) w'):r.wp j q w K Q:=by
 unfold Oper.wp;rwa[h]
theorem Ql[aw]{G:Ghost}{s:St}{p:PV}(h:∀(E:Env)(a:Act)(w:C0),E.R=s.rw->WOk G E w->(∀x∈r.op.operands,Rep w E 0 (s.ev x) (a.eval x))->∃v b,(execOp a.eval r).run j w=.ok (.value v) b/\Ext w b/\Rep b E 0 p v) :
 tX j G s r p:=λE a w c d e K Q f=>have⟨v,b,g,i,o⟩:=h E a w c d e;qA g<|f v b i o
def mY(fr:Bool)(p:PV):PV :=
 match p with
 | .v x=>.v x
 | .sl _ a c=>.sl fr a c
 | .eref _ c o=>.eref fr c o
 | _=>.junk
inductive Md where
 | asis
 | set (fr:Bool)
def Md.fix(m:Md)(p:PV):PV:=match m with|.asis=>p|.set fr=>mY fr p
theorem Hj{E:Env}{fr:Bool}{p:PV}(h:Rep a E.bare g p x)(l:E.lo 0 fr<=g):Rep a E 0 (mY fr p) x:=by
 cases h with
 | v x=>exact .v _
 | @sl _ _ f y len cap cells w m n r s c j =>
   have e:E.bare.lo g f=g:=by simp[Env.lo,Env.bare]
   have q:E.bare.bare=E.bare:=rfl;rw[e]at j;refine .sl m n r s (λi d=>?_)<|λi d=>(j i d).low l;have⟨b,o,t,k,c⟩:=c i d;rw[e]at k;exact⟨b,o,t,aJ l k,c⟩
 | @eref _ _ f cells u b o m c j =>
   have e:E.bare.lo g f=g:=by simp[Env.lo,Env.bare]
   have q:E.bare.bare=E.bare:=rfl;rw[e]at j;refine .eref m (λi d=>?_)<|λi d=>(j i d).low l;have⟨k,c⟩:=c i d;rw[e]at k;exact⟨aJ l k,c⟩
 | own w b=>exact .junk _
 | ref w b=>exact .junk _
 | ag w b=>exact .junk _
 | tup w b=>exact .junk _
 | clo w b=>exact .junk _
 | junk x=>exact .junk _
def Bh(rw:S0)(p:PV)(K:Md->M0->Nat->Prop):Prop :=
 match p with
 | .ref k b a=>(rw k).ver=b/\match (rw k).kind with|.box _ c=>K .asis c a|.sli _ _ _ c=>K (.set k0) c a|.tab _ c=>K .asis c a|_=>False
 | .eref fr c a=>K (.set fr) c a
 | _=>False
def At(w:C0)(E:Env)(m:Md)(cells:M0)(x:E0)(a:Nat):Prop :=
 ∃(b o:Nat)(c:Nat->E0),x=.pointer (n0 ⟨b,o+a,o0⟩)/\∀i(h:i<lh cells),w.cell? ⟨b,o+i,o0⟩=n0 (c i)/\Rep w E 0 (m.fix cells[i]) (c i)
theorem eF{i:Nat}{fr:Nat×Nat}(h:a.heap[g]?=n0 (.cells l.toArray c fr))(t:i<lh l) :
 a.cell? ⟨g,i,o0⟩=n0 l[i]:=by
 simp[cell_of_row a g i _ c fr h]
theorem NQ[aw]{rw:S0}{p:PV}{K:Md->M0->Nat->Prop}{E:Env}{G:Ghost}(h:Bh rw p K)(F:E.R=rw)(H:WOk G E a)(I:Rep a E 0 p x):∃m cells q,K m cells q/\At a E m cells x q:=by
 subst F
 cases I with
 | @ref _ _ k J q x S r =>
   have⟨B,h⟩:=h
   have c:=H.rows k
   unfold cn at c
   cases j:(E.R k).kind with
   | dead=>simp[j]at h
   | mp f=>simp[j]at h
   | nil=>simp[j]at h
   | box t cells =>
     simp only[j]at h c
     have⟨b,g,s,D,C,u⟩:=c
     have⟨A,w,r⟩:=r B (by rw[j];rfl)
     rw[s]at w;cases w
     refine⟨_,_,_,h,b,0,λi=>lg g i undef,ss r,λi l=>?_⟩
     have d:i<lh g:=by rw[<- u.1];exact l
     have e:lg g i undef=g[i]:=by simp[lg,d]
     show _=n0 (lg g i undef)/\Rep a E _ _ (lg g i undef)
     rw[e,cm]
     exact⟨eF C d,u.2 i l d⟩
   | sli e U V cells =>
     simp only[j]at h c
     have⟨A,w,r⟩:=r B (by rw[j];rfl)
     rcases c with⟨s,_,_⟩|⟨b,n,cap,g,y,s,D,C,u,L,M,N,O,z⟩
     rw[s]at w;exact absurd w sp
     rw[s]at w;obtain rfl:b=A:=ss w
     refine⟨_,_,_,h,b,0,λi=>lg g i undef,ss r,λi l=>?_⟩;have d:i<lh g:=by rw[<- z.1];exact l
     have e:lg g i undef=g[i]:=by simp[lg,d]
     show _=n0 (lg g i undef)/\Rep a E _ _ (lg g i undef);rw[e,cm];refine⟨?_,Hj (z.2 i l d)<|by simp[Env.lo]⟩;rw[eF u<|by simp;omega];simp[bM d]
   | tab e cells =>
     simp only[j]at h c
     have⟨A,w,r⟩:=r B (by rw[j];rfl)
     rcases c with⟨s,_,_⟩|⟨b,n,cap,g,y,s,D,C,u,L,M,N,O,z⟩
     rw[s]at w;cases w
     rw[s]at w
     obtain rfl:b=A:=ss w
     refine⟨_,_,_,h,b,0,λi=>lg g i undef,ss r,λi l=>?_⟩
     have d:i<lh g:=by rw[<- z.1];exact l
     have e:lg g i undef=g[i]:=by simp[lg,d]
     show _=n0 (lg g i undef)/\Rep a E _ _ (lg g i undef)
     rw[e,cm]
     refine⟨?_,z.2 i l d⟩
     rw[eF u<|by simp;omega]
     simp[bM d]
 | @eref _ _ fr cells q b o P Q R =>refine⟨_,_,_,h,b,o,P,rfl,λi l=>⟨(Q i l).2.2,Hj (R i l)<|ab _⟩⟩
 | v x=>exact h.elim
 | sl=>exact h.elim
 | own=>exact h.elim
 | ag=>exact h.elim
 | tup=>exact h.elim
 | clo=>exact h.elim
 | junk=>exact h.elim
def nu:E0->Bool
 | .slice o0 0 0=>k0
 | _=>l0
theorem sf(h:nu x=k0):x=.slice o0 0 0:=by unfold nu at h;grind
def Qk(rw:S0)(p:PV)(K:Bool->Nat->M0->Prop):Prop :=
 match p with
 | .sl fr a c=>K fr a c
 | .own k b=>(rw k).ver=b/\match (rw k).kind with|.nil=>K k0 1 []|.sli _ a _ c=>K k0 a c|_=>False
 | .v x=>nu x=k0/\K k0 1 []
 | _=>False
def zvq(w:C0)(E:Env)(d e:Nat)(cells:M0)(x:E0):Prop :=
 ∃(a:Option Addr)(len cap:Nat)(c:Nat->E0),x=.slice a len cap/\cells.length=len*e/\len<=cap/\cap<=maxLen /\
  ∀i(h:i<lh cells),∃b o,a=n0 ⟨b,o,o0⟩/\w.cell? ⟨b,o+i,o0⟩=n0 (c i)/\Rep w E.bare d cells[i] (c i)
theorem Az[aw]{rw:S0}{p:PV}{K:Bool->Nat->M0->Prop}{E:Env}{G:Ghost}(c:Qk rw p K)(B:E.R=rw)(C:WOk G E a)(D:Rep a E 0 p x):∃fr q cells,K fr q cells/\zvq a E (E.lo 0 fr) q cells x:=by
 subst B
 cases D with
 | @sl _ _ fr q len cap cells w F H I J L M =>
   refine⟨_,_,_,c,w,len,cap,F,rfl,H,I,J,λi h=>?_⟩
   have⟨b,o,N,W,X,j⟩:=L i h
   exact⟨b,o,N,j,M i h⟩
 | @own _ _ k O x Y u =>
   have⟨y,c⟩:=c
   have d:=C.rows k
   unfold cn at d
   cases g:(E.R k).kind with
   | dead=>simp[g]at c
   | box t cells=>simp[g]at c
   | tab e cells=>simp[g]at c
   | mp f=>simp[g]at c
   | nil =>
     simp only[g]at c d
     have:=u y<|by rw[g];rfl
     subst this
     rw[d.2]
     exact⟨_,_,_,c,o0,0,0,λ_=>undef,rfl,rfl,ab _,aB _,λi h=>absurd h sp⟩
   | sli e q Z cells =>
     simp only[g]at c d
     have:=u y<|by rw[g];rfl
     subst this
     rcases d with⟨P,z,r⟩|⟨b,n,cap,m,A,P,z,r,Q,R,S,U,h8,s⟩
     subst r;rw[z];exact⟨_,_,_,c,o0,0,0,λ_=>undef,rfl,sp,ab _,aB _,λi h=>absurd h sp⟩
     rw[r];refine⟨_,_,_,c,n0 ⟨b,0,o0⟩,n,cap,λi=>lg m i undef,rfl,by rw[s.1,R],S,U,λi h=>⟨b,0,rfl,?_⟩⟩;have l:i<lh m:=by rw[<- s.1];exact h
     have e:lg m i undef=m[i]:=by simp[lg,l]
     show _=n0 (lg m i undef)/\Rep a E.bare _ _ (lg m i undef);rw[e,cm];refine⟨?_,(s.2 i h l).low<|by simp[Env.lo]⟩;rw[eF Q<|by simp;omega];simp[bM l]
 | v x =>
   have⟨V,c⟩:=c
   rw[sf V]
   exact⟨_,_,_,c,o0,0,0,λ_=>undef,rfl,rfl,ab _,aB _,λi h=>absurd h sp⟩
 | eref=>exact c.elim
 | ref=>exact c.elim
 | ag=>exact c.elim
 | tup=>exact c.elim
 | clo=>exact c.elim
 | junk=>exact c.elim
def Kk(rw:S0)(p:PV)(K:Nat->Nat->Prop):Prop :=
 match p with
 | .sl _ a c=>K a (lh c)
 | .own k b=>(rw k).ver=b/\match (rw k).kind with|.nil=>K 1 0|.sli _ a _ c=>K a (lh c)|.tab _ c=>K 1 (lh c)|_=>False
 | .v x=>nu x=k0/\K 1 0
 | _=>False
theorem zdr[aw]{rw:S0}{p:PV}{E:Env}{G:Ghost}(g:Kk rw p d)(q:E.R=rw)(r:WOk G E a)(s:Rep a E 0 p x):∃j n,d j n/\∃(K:Option Addr)(len cap:Nat),x=.slice K len cap/\n=len*j:=by
 by_cases u:∃k i e c,p=.own k i/\(rw k).kind=.tab e c
 obtain⟨k,i,e,c,rfl,w⟩:=u;subst q;obtain⟨l,g⟩:=g;rw[w]at g;cases s with
 | own F y =>
   have h:=r.rows k;unfold cn at h;simp only[w]at h;rcases h with⟨m,z,o⟩|⟨b,n,cap,H,A,m,z,o,I,B,J,L,M,C⟩
   rw[y l<|by rw[w];rfl,z];subst o;exact⟨_,_,g,_,_,_,rfl,rfl⟩
   rw[y l<|by rw[w];rfl,o];exact⟨_,_,g,_,_,_,rfl,by rw[C.1,B,dh]⟩
 have D:Qk rw p λ_ j c=>d j<|lh c:=by
  unfold Kk at g;unfold Qk;grind
 obtain⟨fr,j,cells,g,K,len,cap,O,rfl,m,_⟩:=Az D q r s;exact⟨_,_,g,K,len,cap,rfl,m⟩
def qt(T:gg)(t:A0)(m:Md)(cells:M0)(a:Nat)(K:PV->Prop):Prop :=
 0<(T t).size/\match (T t).k.agg with
  | true=>a+(T t).size<=lh cells/\K (.ag (((cells.drop a).take (T t).size).map m.fix))
  | false=>a<lh cells/\K (m.fix (lg cells a .junk))
theorem TU[aw]{T:gg}(z:T.Ok j){m:Md}{cells:M0}{K:PV->Prop}{E:Env}(w:qt T c m cells g K)(A:At a E m cells x g):∃p v,K p/\(Instr.loadAt c x).run j a=.ok v a/\Rep a E 0 p v:=by
 obtain⟨B,w⟩:=w
 obtain⟨b,o,l,rfl,t⟩:=A
 have u:=z c B
 have k:=TV u.k a
 have q:=fQ u a
 cases d:(T c).k.agg with
 | true =>
   simp only[d]at w
   obtain⟨f,w⟩:=w
   have r:(loadCells ⟨b,o+g,o0⟩ (T c).size).run j a=.ok ((lc (T c).size).map λP=>l<|g+P).toArray a:=by
    have:=run_loadCells_list (P:=j) (w:=a) ⟨b,o+g,o0⟩ ((lc (T c).size).map λP=>l<|g+P)<|λP v n=>by
     simp only[fk,iN]at n;obtain⟨C,n,rfl⟩:=n;obtain⟨s,D⟩:=List.getElem?_eq_some_iff.1 n;have F:P<(T c).size:=ss s;obtain rfl:P=C:=ss D;have:=(t (g+P) om).1;unfold Addr.add;split;rename_i G;subst G;simpa using this;rw[show o+g+P=o+(g+P)by omega];exact this
    simpa using this
   refine⟨_,.agg ((lc (T c).size).map λP=>l<|g+P).toArray,w,?_,?_⟩
   simp[Instr.loadAt,Instr.sureAddr,loadVar,k,d,q,r]
   refine .ag (by simp;omega)<|λi h H=>?_;simp at h H;have:=(t (g+i) om).2;simp only[mc,tO,aM,bG];exact this
 | false =>
   simp only[d]at w
   obtain⟨f,w⟩:=w
   have y:=t g f
   refine⟨_,l g,w,?_,?_⟩
   simp[Instr.loadAt,Instr.sureAddr,loadVar,k,d,run_load,y.1]
   have e:lg cells g .junk=cells[g]:=by simp[lg,f]
   rw[e];exact y.2
def rZ(b:B0->PV)(o:Option B0)(a:Int)(K:Int->Prop):Prop :=
 match o with
 | none=>K a
 | some x=>match b x with|.v (.int _ n)=>K n|_=>False
def re(rw:S0)(p:PV)(K:Bool->Nat->M0->Prop):Prop :=
 match p with
 | .sl fr a c=>K fr a c
 | .own k b=>k<lent/\(rw k).ver=b/\match (rw k).kind with|.sli _ a k0 c=>K k0 a c|_=>False
 | _=>False
def unK(a:UnOp)(p:PV)(K:PV->Prop):Prop :=
 match a,p with
 | .not,.v (.bool b)=>K (.v (.bool !b))
 | .neg,.v (.int k n)=>K (.v (.int k (k.wrap (0-n))))
 | .xor,.v (.int k n)=>K (.v (.int k (zl4 k (if k.signed then -1 else k.max) n)))
 | _,_=>False
def ml(rw:S0)(p:PV)(K:Prop):Prop :=
 match p with
 | .ref k a _=>(rw k).ver=a/\(rw k).kind.nd=k0/\K
 | .eref _ _ _=>K
 | .clo _ _=>K
 | _=>False
def pP(p:PV)(d:Nat):PV :=
 match p with
 | .ref k b a=>.ref k b (a+d)
 | .eref fr c a=>.eref fr c (a+d)
 | p=>p
def oP(T:gg)(t:A0)(f:Nat)(K:Nat->A0->Prop):Prop :=
 0<(T t).size/\match (T t).k with|.struct b=>(match b[f]? with|some (o,a)=>0<(T a).size/\K o a|none=>False)|_=>False
def yN:PV->Bool|.ref _ _ _=>k0|.eref _ _ _=>k0|_=>l0
def iE(T:gg)(rw:S0)(t:A0)(x i:PV)(K:PV->Prop):Prop :=
 match i with
 | .v (.int _ n) =>
   0<(T t).size/\match (T t).k with
   | .sli e =>
     (match x with
     | .sl fr a c=>0<(T e).size/\a=(T e).size/\0<=n/\n.toNat*a<lh c/\K (.eref fr c (n.toNat*a))
     | .own k b=>(rw k).ver=b/\match (rw k).kind with|.sli _ a _ c=>0<(T e).size/\a=(T e).size/\0<=n/\n.toNat*a<lh c/\K (.ref k b (n.toNat*a))|.tab _ c=>(T e).size=1/\0<=n/\n.toNat<lh c/\K (.ref k b n.toNat)|_=>False
     | _=>False)
   | .arr len e=>yN x=k0/\0<(T e).size/\0<=n/\n<len/\ml rw x (K (pP x (n.toNat*(T e).size)))
   | _=>False
 | _=>False
def NP(T:gg)(rw:S0)(t:A0)(x:PV)(K:PV->Prop):Prop :=
 0<(T t).size/\match (T t).k with
 | .str=>(match x with|.v (.string s)=>K (.v (.int .i64 s.size))|_=>False)
 | .sli _=>Kk rw x λa n=>0<a/\K (.v (.int .i64 ((n/a:Nat):Int)))
 | .arr n _=>K (.v (.int .i64 n))
 | _=>False
def gO(T:gg)(rw:S0)(b:B0->PV)(t:A0)(x:PV)(g d f:Option B0)(K:PV->Prop):Prop :=
 0<(T t).size/\match (T t).k with
 | .str=>f=o0/\(match x with
  | .v (.string s)=>rZ b g 0 λl=>rZ b d s.size λh=>0<=l/\l<=h/\h<=s.size/\K (.v (.string (s.extract l.toNat h.toNat)))
  | _=>False)
 | .sli e=>re rw x λfr a c=>0<(T e).size/\a=(T e).size /\
  rZ b g 0 λl=>rZ b d ((lh c/a:Nat):Int) λh=>rZ b f ((lh c/a:Nat):Int) λm=>0<=l/\l<=h/\h<=m/\m<=((lh c/a:Nat):Int)/\(d=o0->f=o0) /\
   K (.sl fr a ((c.take (h.toNat*a)).drop (l.toNat*a)))
 | _=>False
def mI(c:Bool)(x y:PV)(K:PV->Prop):Prop :=
 match x,y with
 | .v (.int k a),.v (.int _ b)=>K (.v (.int k (match c with|true=>if b > a then b else a|false=>if b<a then b else a)))
 | _,_=>False
def rf(T:gg)(rw:S0)(a b:A0)(x:PV)(K:PV->Prop):Prop :=
 0<(T a).size/\0<(T b).size/\match (T a).k,(T b).k with
 | .int _,.int k=>(match x with|.v (.int _ n)=>K (.v (.int k (k.wrap n)))|_=>False)
 | .str,.str=>(match x with|.v (.string s)=>K (.v (.string s))|_=>False)
 | .sli e,.str=>0<(T e).size/\(match (T e).k with
  | .int .u8=>Qk rw x λ_ f c=>f=1/\∃d:N0,c=d.map (λn=>PV.v (.int .u8 n))/\K (.v (.string (d.foldl (λr n=>r.push (UInt8.ofNat n.toNat)) ByteArray.empty)))
  | _=>False)
 | _,_=>False
def zaV(T:gg)(t:A0):Prop:=0<(T t).size/\match (T t).k with|.map k e=>0<(T k).size/\(T k).k=.int .u64/\0<(T e).size/\(T e).k=.int .i64/\(T e).zero=[.int .i64 0]|_=>False
def xE(T:gg)(rw:S0)(t:A0)(m i:PV)(K:PV->Prop):Prop :=
 match m,i with
 | .own k b,.v (.int .u64 a)=>(rw k).ver=b/\(match (rw k).kind with|.mp f=>zaV T t/\K (.v (.int .i64 (f a)))|_=>False)
 | _,_=>False
def qQ(T:gg)(rw:S0)(d:B0->PV)(g:Op)(K:PV->Prop):Prop :=
 match g with
 | .move x=>K (d x)
 | .assign x=>K (d x)
 | .pick c a b=>(match d c with|.v (.bool t)=>(t=k0->K (d a))/\(t=l0->K (d b))|_=>False)
 | .binOp g t x y _=>iu T g t (d x) (d y) K
 | .unOp g _ x=>unK g (d x) K
 | .convert j k x=>rf T rw j k (d x) K
 | .load t x=>Bh rw (d x) λm c l=>qt T t m c l K
 | .fieldAddr t x f=>oP T t f λo _=>yN (d x)=k0/\ml rw (d x) (K (pP (d x) o))
 | .field t x f=>oP T t f λo q=>(match d x with|.ag c=>qt T q .asis c o K|_=>False)
 | .indexAddr t x i=>iE T rw t (d x) (d i) K
 | .index t x i=>0<(T t).size/\(match (T t).k,d x,d i with
  | .str,.v (.string s),.v (.int _ n)=>0<=n/\n.toNat<s.size/\K (.v (.int .u8 ((lg s.data.toList n.toNat 0).toNat:Int)))
  | .arr len e,.ag c,.v (.int _ n)=>0<=n/\n<len/\qt T e .asis c (n.toNat*(T e).size) K
  | _,_,_=>False)
 | .slice t x r u w=>gO T rw d t (d x) r u w K
 | .extract x i=>(match d x with|.tup p=>i<lh p/\K (lg p i .junk)|_=>False)
 | .makeFunc fn first h=>(match fn with|.func f=>first=#[]/\K (.clo f (h.toList.map d))|_=>False)
 | .nilCheck x=>ml rw (d x) (K (d x))
 | .call c=>(match c with
  | ⟨.builtin .len,⟨[x]⟩,⟨[t]⟩⟩=>NP T rw t (d x) K
  | ⟨.builtin .max,⟨[x,y]⟩,_⟩=>mI k0 (d x) (d y) K
  | ⟨.builtin .min,⟨[x,y]⟩,_⟩=>mI l0 (d x) (d y) K
  | _=>False)
 | .lookup t x i ok=>ok=l0/\xE T rw t (d x) (d i) K
 | _=>False
section
variable {P:G0}{T:gg}{rw rw':S0}{t:A0}{m i:PV}{K:PV->Prop}
theorem TW(h:xE T rw t m i K):∃p,K p/\∀a:PV->Prop,a p->xE T rw t m i a:=by unfold xE at h ⊢;grind
theorem NR(b:T.Ok P)(h:zaV T t):∃k e,P.underlying t=n0 (.map k e)/\P.underlying k=n0 (.int .u64)/\∀w,(zeroValue e).run P w=.ok (.int .i64 0) w:=by
 have⟨g,h⟩:=h;have c:=(b t g).k;split at h;rename_i k e j;have⟨l,m,n,o,p⟩:=h;rw[j]at c;have a:=(b k l).k;rw[m]at a;refine⟨k,e,c,a,λw=>?_⟩;rcases(b e n).zv with d|⟨i,z,q,r,f⟩
 rw[o]at d;cases d;simp_all[zeroValue,typeInfo];grind
theorem zdu[aw]{G:Ghost}{E:Env}(p:T.Ok P)(q:WOk G E a)(d:xE T rw t m i K)(s:E.R=rw){n:E0}(u:Rep a E 0 m x)(w:Rep a E 0 i n) :
 ∃r,K r/\∃v,(Instr.lookup t x n l0).run P a=.ok v a/\Rep a E 0 r v:=by
 subst s
 unfold xE at d
 split at d
 rename_i k y l;have⟨g,d⟩:=d;split at d
 rename_i f h;have⟨j,d⟩:=d;have⟨I,e,z,A,B⟩:=NR p j;refine⟨_,d,_,?_,.v _⟩;have o:=w.v_eq;subst o;cases u with
 | own o C =>have c:=q.rows k;unfold cn at c;simp only[h]at c;have⟨b,J,L,M,N,D,F,H⟩:=c;rw[C g<|by rw[h];rfl,D];exact zdv z A (B a) F H l
 exact d.elim
 exact d.elim
end
end Go.Abs

/- DERIVED by an AI agent. -/
import Derived.Test.YtkledeboboplmaaGreatDoorA3
import Derived.Lib.AppendStr
import Derived.Test.YtkledeboboplmaaGreatDoorA1
/- DERIVED by an AI agent. Append of a string's bytes. No program in sight. -/
namespace Go.Abs
set_option linter.unusedSimpArgs false
open Go.Lib (strCells strCells_length strCells_oneCell run_append_room_string run_append_grow_string run_firstCells_string)
def zfg (s:ByteArray):List PV:=s.data.toList.map fun b=>PV.v (.int .u8 b.toNat)
theorem zeF (s:ByteArray):(zfg s).length = s.size:=by rw [zfg,List.length_map,Array.length_toList];rfl
theorem zC2 [zae] (s:ByteArray) (w:World) (E:Env) (lo:Nat):zbl w E lo (zfg s) (strCells s):=by
 refine ⟨by rw [zeF,strCells_length],fun i a b=>?_⟩
 simp only [zfg,strCells,List.getElem_map]
 exact .v _
section
variable {P:Program} {T:Tab}
theorem zrZ [zae] (hT:T.Ok P) {t u e:TypeId} (ty:TypeId) (ht:0 < (T t).size) (hk:(T t).k = .sli e) (hu0:0 < (T u).size) (hku:(T u).k = .str) (he:0 < (T e).size) (he1:(T e).size = 1) (hb:0 < (T e).bytes) {w:World} {m:Option Nat} {v:Value} {vs:List Value}
 (hp:zHT w e (T e).size m v vs) (s:ByteArray) (hlen:(vs.length + s.size) * (T e).bytes ≤ 140737488355328) :
 ∃ v' w' m',(Builtin.append_ #[t,u] ty #[v,.string s]).run P w = .ok v' w'∧Appended w w' e (T e).size m m' v' (vs ++ strCells s):=by
 have hf:=hT t ht
 have hu:P.underlying t = some (.slice e):=by have:=hf.k;rw [hk] at this;exact this
 have hus:P.underlying u = some .string:=by have:=(hT u hu0).k;rw [hku] at this;exact this
 obtain ⟨i,z,hi,hsz,hby,hz,hzl⟩:=(hT e he).info
 have hsz':i.size = (T e).size:=hsz
 have hzs:z.cells.size = (T e).size:=by rw [← Array.length_toList,hzl];exact (hT e he).zlen
 have hsl:=strCells_length s
 have hbig:vs.length + s.size ≤ 140737488355328:=Nat.le_trans (Nat.le_mul_of_pos_right _ hb) hlen
 rcases hp with ⟨rfl,rfl,rfl⟩ | ⟨b,n,cap,rest,rfl,rfl,hh,hvl,hnc,hcm,hcl⟩
 ·by_cases h0:s.size = 0
  ·have hs0:strCells s = []:=List.eq_nil_of_length_eq_zero (by rw [hsl,h0])
   refine ⟨.slice none 0 0,w,none,?_,⟨.inl ⟨rfl,rfl,by rw [hs0];rfl⟩,fun _ _ _=>rfl,Nat.le_refl _,rfl,rfl,⟨rfl,fun _=>by first | exact Nat.le_refl _ | exact Nat.le_succ _⟩,fun b h=>.inl h⟩⟩
   have hf:=run_firstCells_string (P:=P) w i.size s
   rw [h0] at hf
   simp [Builtin.append_,run_underlying hu,run_underlying hus,sizeOf,typeInfo,hi,Builtin.lenOf,h0,hf]
  ·have hr:=run_append_nil_string (P:=P) w t u ty e i z hu hus hi hz s (by omega) (by omega) (by
    rw [hby]
    simp at hlen;omega)
   refine ⟨_,_,some w.heap.size,hr,⟨.inr ⟨w.heap.size,s.size,_,(Builtin.zeroCells z.cells (grownCap w s.size 0 e - s.size)).toList,rfl,rfl,?_,by rw [he1];simpa using hsl,grownCap_ge w s.size 0 e,grownCap_le_maxLen w s.size 0 e (by simp [maxLen];omega),?_⟩,fun b hb _=>?_,by simp,rfl,rfl,⟨rfl,fun _=>by first | exact Nat.le_refl _ | exact Nat.le_succ _⟩,fun b h=>.inr (by simp at h;omega)⟩⟩
   ·have:=heap_alloc_new w.drew (.cells (s.data.map (fun b=>Value.int .u8 b.toNat) ++ Builtin.zeroCells z.cells (grownCap w s.size 0 e - s.size)) e)
    rw [show (([]:List Value) ++ strCells s ++ (Builtin.zeroCells z.cells (grownCap w s.size 0 e - s.size)).toList).toArray = s.data.map (fun b=>Value.int .u8 b.toNat) ++ Builtin.zeroCells z.cells (grownCap w s.size 0 e - s.size) from Array.toList_inj.1 (by simp [strCells])]
    exact this
   ·have hge:=grownCap_ge w s.size 0 e
    simp only [List.nil_append,List.length_append,Array.length_toList,size_zeroCells,hzs,hsl,he1,Nat.mul_one]
    omega
   ·exact (Ext.alloc w.drew _).block b hb
 ·rw [he1,Nat.mul_one] at hvl hcl
  by_cases hroom:n + s.size ≤ cap
  ·have hr:=run_append_room_string (P:=P) w t u ty e i hu hus hi (by rw [hsz',he1]) b n cap (vs ++ rest).toArray hh s hroom (by
    simp at hcl ⊢;omega)
   refine ⟨_,_,some b,hr,⟨.inr ⟨b,n + s.size,cap,rest.drop s.size,rfl,rfl,?_,?_,hroom,hcm,?_⟩,fun k hk hne=>?_,by simp,rfl,rfl,⟨rfl,fun _=>by first | exact Nat.le_refl _ | exact Nat.le_succ _⟩,fun b' h=>.inl h⟩⟩
   ·rw [setRow_heap w b _ _ e _ hh]
    congr 2
    rw [← hvl]
    simp [List.take_left',List.drop_append]
   ·rw [List.length_append,hvl,hsl,he1,Nat.mul_one]
   ·rw [he1,Nat.mul_one]
    simp at hcl ⊢;omega
   ·exact setRow_other w b k _ (fun e=>hne (by rw [e]))
  ·have hold:∀ j u,vs[j]? = some u→w.cell? ((⟨b,0,none⟩:Addr).add j) = some u:=fun j u hj=>by
    obtain ⟨hlt,rfl⟩:=List.getElem?_eq_some_iff.1 hj
    rw [zdo,Nat.zero_add,zaJ hh (by simp;omega)]
    simp [List.getElem_append_left hlt]
   have hr:=run_append_grow_string (P:=P) w t u ty e i z hu hus hi hz ⟨b,0,none⟩ n cap vs (by rw [hvl,hsz',he1,Nat.mul_one]) hold s (by omega) (by omega) (growslice_fits (by omega) (by
    rw [hby,← hvl]
    omega))
   refine ⟨_,_,some w.heap.size,hr,⟨.inr ⟨w.heap.size,n + s.size,_,(Builtin.zeroCells z.cells (grownCap w (n + s.size) cap e - (n + s.size))).toList,rfl,rfl,?_,?_,grownCap_ge w _ _ e,grownCap_le_maxLen w _ _ e (by simp [maxLen];omega),?_⟩,fun b hb _=>?_,by simp,rfl,rfl,⟨rfl,fun _=>by first | exact Nat.le_refl _ | exact Nat.le_succ _⟩,fun b h=>.inr (by simp at h;omega)⟩⟩
   ·have:=heap_alloc_new w.drew (.cells (vs.toArray ++ (strCells s).toArray ++ Builtin.zeroCells z.cells (grownCap w (n + s.size) cap e - (n + s.size))) e)
    rw [show (vs ++ strCells s ++ (Builtin.zeroCells z.cells (grownCap w (n + s.size) cap e - (n + s.size))).toList).toArray = vs.toArray ++ (strCells s).toArray ++ Builtin.zeroCells z.cells (grownCap w (n + s.size) cap e - (n + s.size)) from Array.toList_inj.1 (by simp)]
    exact this
   ·rw [List.length_append,hvl,hsl,he1,Nat.mul_one]
   ·have hge:=grownCap_ge w (n + s.size) cap e
    simp only [List.length_append,Array.length_toList,size_zeroCells,hzs,hvl,hsl,he1,Nat.mul_one]
    omega
   ·exact (Ext.alloc w.drew _).block b hb
end
def zth (T:Tab) (s:St) (d:Nat) (t t2:TypeId) (x:PV) (b:ByteArray) (K:St→Prop):Prop :=
 0 < (T t).size∧0 < (T t2).size∧(T t2).k = .str∧match (T t).k with
 | .sli e=>(T e).size = 1∧0 < (T e).bytes∧(match x with
  | .own k ver=>(s.rw k).ver = ver∧(match (s.rw k).kind with
   | .nil=>b.size * (T e).bytes ≤ 140737488355328∧K (zdm s d k (.sli e (T e).size false (zfg b)))
   | .sli e' sz' false c=>e' = e∧sz' = (T e).size∧(c.length + b.size) * (T e).bytes ≤ 140737488355328∧K (zdm s d k (.sli e (T e).size false (c ++ zfg b)))
   | _=>False)
  | _=>False)
 | _=>False
section
variable {P:Program} {T:Tab} {G:Ghost} {s:St} {E:Env} {a:Act} {w w':World} {o:Oper}
theorem zr0 [zae] (hT:T.Ok P) {d:Nat} {t t2:TypeId} {x y:Operand} {bs:ByteArray} {K:St→Prop} (ho:o.op = .call ⟨.builtin .append,#[x,y],#[t,t2]⟩) (hdst:o.dst = some d) (hd:d < G.n) (hy:s.ev y = .v (.string bs))
 (hk:zth T s d t t2 (s.ev x) bs K):∃ s',K s'∧za5 P G s o s':=by
 obtain ⟨ht,hu0,hku,hk⟩:=hk
 split at hk
 ·rename_i e hte
  obtain ⟨he1,hby,hk⟩:=hk
  have he:0 < (T e).size:=by omega
  split at hk
  ·
   rename_i k ver hev
   obtain ⟨hver,hk⟩:=hk
   have main:∀ (c:List PV),((s.rw k).kind = .nil∧c = [] ∨ (s.rw k).kind = .sli e (T e).size false c)→(c.length + bs.size) * (T e).bytes ≤ 140737488355328→K (zdm s d k (.sli e (T e).size false (c ++ zfg bs))) →
    ∃ s',K s'∧za5 P G s o s':=by
    intro c hkind hlen hk
    refine ⟨_,hk,fun a w hs K' Q hK=>?_⟩
    obtain ⟨E,hs⟩:=hs
    have hR:=hs.rw
    have hx:=zaz hs.slots x
    rw [hev] at hx
    have hye:a.eval y = .string bs:=by
     have:=zaz hs.slots y
     rw [hy] at this
     exact this.v_eq
    have h5:zbl w E.bare E.B (zfg bs) (strCells bs):=zC2 bs w _ _
    have hslice:(E.R k).kind.slice = true:=by rw [hR];rcases hkind with ⟨h,_⟩ | h <;> rw [h] <;> rfl
    have hnd:=RK.nd_of_slice hslice
    obtain ⟨vs,hphys,hrepc⟩:∃ vs,zHT w e (T e).size (E.rm k) (E.rv k) vs∧zbl w E.bare E.B c vs:=by
     have hrow:=hs.wok.rows k
     unfold zav at hrow
     rw [hR] at hrow
     rcases hkind with ⟨h,rfl⟩ | h
     ·simp only [h] at hrow
      exact ⟨[],.inl ⟨hrow.1,hrow.2,rfl⟩,⟨rfl,fun i p=>absurd p (by simp)⟩⟩
     ·simp only [h] at hrow
      rcases hrow with ⟨g1,g2,g3⟩ | ⟨b,n,cap,vs,rest,g1,g2,g3,g4,g5,g6,g7,g8,g9⟩
      ·subst g3;exact ⟨[],.inl ⟨g1,g2,rfl⟩,⟨rfl,fun i p=>absurd p (by simp)⟩⟩
      ·exact ⟨vs,.inr ⟨b,n,cap,rest,g1,g3,g4,g5,g6,g7,g8⟩,g9⟩
    have hxe:a.eval x = E.rv k:=by cases hx with | own hv hx=>exact hx (by rw [hR];exact hver) hslice
    obtain ⟨v',w',m',hrun,hap⟩:=zrZ (P:=P) hT o.type ht hte hu0 hku he he1 hby hphys bs (by rw [← hrepc.1];exact hlen)
    rw [← hxe,← hye] at hrun
    have hver':(E.R k).ver = (s.rw k).ver:=by rw [hR]
    have hlive:(E.R k).kind.live = false→E.rm k = none:=fun hl=>by
     have hrow:=hs.wok.rows k
     unfold zav at hrow
     rw [hR] at hrow hl
     rcases hkind with ⟨h,_⟩ | h
     ·simp only [h] at hrow;exact hrow.1
     ·rw [h] at hl;cases hl
    have hturn:OneTurn E w w' k ⟨(s.rw k).ver + 1,.sli e (T e).size false (c ++ zfg bs)⟩ m' v' :=
     ⟨fun b hb hne=>hap.block b hb fun h=>(by
      have:=hlive (hne h)
      rw [this] at h;cases h),
      fun b hb _=>(by
       rcases hap.fresh b hb with h | h
       ·refine .inr ⟨h,hnd,fun _=>?_⟩
        cases hl:(E.R k).kind.live with
        | true=>rfl
        | false=>rw [hlive hl] at h;cases h
       ·exact .inl h),
      by rw [hver'];exact Nat.le_succ _,fun h=>by rw [hver'] at h;simp at h,fun h=>by rw [hver'] at h;simp at h,fun _=>Nat.succ_pos _,hap.size,hap.os,hap.tape,hap.output⟩
    refine zfX (fz:=[]) (p:=.own k ((s.rw k).ver + 1)) hs (zcH ho hrun) hturn (by simp) (fun hl=>?_) ?_ (by simp [hdst,hd]) (fun a' w' h=>hK a' w' ?_)
    ·refine zja (fz:=false) (c:=c ++ zfg bs) hap hs.wok rfl (fun b hb hn=>(hs.wok.block hb hn).2) (fun _=>hnd) (by simp [Env.turn,zaf]) (by simp [Env.turn,zaf]) (by simp [Env.turn,zaf]) ?_
     exact (hrepc.mono hl.bare (Nat.le_refl _)).append (h5.mono hl.bare (Nat.le_refl _))
    ·exact .own (by simp [Env.turn,zaf]) fun _ _=>by simp [Env.turn,zaf]
    ·rw [St.freeze_nil,hdst] at h;exact h
   split at hk
   ·rename_i hkind
    exact main [] (.inl ⟨hkind,rfl⟩) (by simpa using hk.1) (by simpa using hk.2)
   ·rename_i e' sz' c hkind
    obtain ⟨rfl,rfl,hlen,hk⟩:=hk
    exact main c (.inr hkind) hlen hk
   ·exact hk.elim
  ·exact hk.elim
 ·exact hk.elim
end
end Go.Abs

/- DERIVED by an AI agent. New variables, new slices, calls whose rows are taken over. No program in sight. -/
namespace Go.Abs
set_option linter.unusedSimpArgs false
def zak:RV→List (TypeId × Option Nat × List PV)
 | .im _=>[]
 | .fr e sz c=>[(e,some sz,c)]
 | .tb e e2 rows=>(e,none,List.replicate rows.length .junk) :: rows.map fun r=>(e2,some 1,r)
 | .ag l=>(l.attach.map fun ⟨x,_⟩=>zak x).flatten
 | .tup l=>(l.attach.map fun ⟨x,_⟩=>zak x).flatten
theorem zcG (l:List RV):zak (.ag l) = (l.map zak).flatten:=by rw [zak];simp
theorem zbS (l:List RV):zak (.tup l) = (l.map zak).flatten:=by rw [zak];simp
def zan (d i:Nat):Nat:=d + 1000 * i
def zbF (f:RV→Nat→PV):List RV→Nat→List PV
 | [],_=>[]
 | x :: xs,i=>f x i :: zbF f xs (i + (zak x).length)
def zbV (vr:Nat→Nat) (d:Nat):RV→Nat→PV
 | .im p,_=>zhA true p
 | .fr _ _ _,i=>.own (zan d i) (vr (zan d i) + 1)
 | .tb _ _ _,i=>.own (zan d i) (vr (zan d i) + 1)
 | .ag _,_=>.junk
 | .tup _,_=>.junk
def zcv (vr:Nat→Nat) (d:Nat):RV→Nat→PV
 | .ag l,i=>.ag (zbF (zbV vr d) l i)
 | .tup l,i=>.tup (zbF (zbV vr d) l i)
 | x,i=>zbV vr d x i
def za0 (vr:Nat→Nat) (d:Nat):RV→Nat→PV
 | .ag l,i=>.ag (zbF (zcv vr d) l i)
 | .tup l,i=>.tup (zbF (zcv vr d) l i)
 | x,i=>zbV vr d x i
def zaT (rw:Nat→Row) (d i n:Nat):List PV:=(List.range n).map fun j=>.own (zan d (i + 1 + j)) ((rw (zan d (i + 1 + j))).ver + 1)
def zbW (rw:Nat→Row) (d i:Nat) (e:TypeId) (sz:Option Nat) (c:List PV):RK :=
 match sz with
 | some z=>.sli e z false c
 | none=>.tab e (zaT rw d i c.length)
def zaw (rw:Nat→Row) (d:Nat):List (TypeId × Option Nat × List PV)→Nat→Nat→Row
 | [],_=>rw
 | (e,sz,c) :: ls,i=>zcB (zaw rw d ls (i + 1)) (zan d i) ⟨(rw (zan d i)).ver + 1,zbW rw d i e sz c⟩
def zao (s:St) (d:Nat) (rv:RV):St :=
 (St.mk s.sl (zaw s.rw d (zak rv) 0)).put (some d) (za0 (fun k=>(s.rw k).ver) d rv 0)
inductive LeafAt (w:World) (E:Env):(TypeId × Option Nat × List PV)→Value × Option Nat→Prop
 | nil {e sz:Nat}:LeafAt w E (e,some sz,[]) (.slice none 0 0,none)
 | tbn {e:Nat}:LeafAt w E (e,none,[]) (.slice none 0 0,none)
 | tb {e b n cap:Nat} {cells:List PV} {vs rest:List Value} (hB:E.B ≤ b) (hh:w.heap[b]? = some (.cells (vs ++ rest).toArray e (0,0)))
  (hn:vs.length = n) (hc:n ≤ cap) (hm:cap ≤ maxLen) (hl:(vs ++ rest).length = cap) (hr:cells.length = n) :
  LeafAt w E (e,none,cells) (.slice (some ⟨b,0,none⟩) n cap,some b)
 | fr {e sz b n cap:Nat} {cells:List PV} {vs rest:List Value} (hB:E.B ≤ b) (hh:w.heap[b]? = some (.cells (vs ++ rest).toArray e (0,0)))
  (hn:vs.length = n * sz) (hc:n ≤ cap) (hm:cap ≤ maxLen) (hl:(vs ++ rest).length = cap * sz) (hr:zbl w E.bare E.B cells vs) :
  LeafAt w E (e,some sz,cells) (.slice (some ⟨b,0,none⟩) n cap,some b)
inductive LeafsAt (w:World) (E:Env):List (TypeId × Option Nat × List PV)→List (Value × Option Nat)→Prop
 | nil:LeafsAt w E [] []
 | cons {x:TypeId × Option Nat × List PV} {y:Value × Option Nat} {xs:List (TypeId × Option Nat × List PV)} {ys:List (Value × Option Nat)} (h:LeafAt w E x y) (hs:LeafsAt w E xs ys):LeafsAt w E (x :: xs) (y :: ys)
theorem LeafsAt.append {w:World} {E:Env} {a c:List (TypeId × Option Nat × List PV)} {b d:List (Value × Option Nat)} (h:LeafsAt w E a b) (k:LeafsAt w E c d):LeafsAt w E (a ++ c) (b ++ d):=by
 induction h with
 | nil=>exact k
 | cons h _ ih=>exact .cons h ih
theorem LeafsAt.length {w:World} {E:Env} {a:List (TypeId × Option Nat × List PV)} {b:List (Value × Option Nat)} (h:LeafsAt w E a b):b.length = a.length:=by
 induction h with
 | nil=>rfl
 | cons h _ ih=>simp [ih]
theorem OutR.leafs [zae] {w:World} {E:Env} {rv:RV} {v:Value} {lv:List (Value × Option Nat)} (h:OutR w E rv v lv):LeafsAt w E (zak rv) lv:=by
 have flat:∀ (l:List RV) (bss:List (List (Value × Option Nat))),l.length = bss.length→(∀ i (a:i < l.length) (c:i < bss.length),LeafsAt w E (zak l[i]) bss[i])→LeafsAt w E (l.map zak).flatten bss.flatten:=by
  intro l
  induction l with
  | nil=>intro bss h _;cases bss with | nil=>exact .nil | cons x y=>simp at h
  | cons x xs ih =>
    intro bss h hh
    cases bss with
    | nil=>simp at h
    | cons y ys =>
      simp only [List.map_cons,List.flatten_cons]
      exact (hh 0 (by simp) (by simp)).append (ih ys (by simpa using h) fun i a c=>hh (i + 1) (by simpa using a) (by simpa using c))
 induction h with
 | im h=>rw [zak];exact .nil
 | nil=>rw [zak];exact .cons .nil .nil
 | fr hB hh hn hc hm hl hr=>rw [zak];exact .cons (.fr hB hh hn hc hm hl hr) .nil
 | tbn=>rw [zak];exact .cons .tbn .nil
 | @tb e e2 b n cap rows vs rest lvs hB hh hn hc hm hl h1 h2 hv hin ih =>
   rw [zak]
   refine .cons (.tb hB hh hn hc hm hl (by simpa using h1)) ?_
   have key:∀ (rows:List (List PV)) (vs:List Value) (lvs:List (Value × Option Nat)),rows.length = vs.length→rows.length = lvs.length →
    (∀ i (a:i < rows.length) (b:i < vs.length) (c:i < lvs.length),LeafsAt w E (zak (.fr e2 1 rows[i])) [lvs[i]])→LeafsAt w E (rows.map fun r=>(e2,some 1,r)) lvs:=by
    intro rows
    induction rows with
    | nil=>intro vs lvs _ h _;cases lvs with | nil=>exact .nil | cons x y=>simp at h
    | cons r rs ih =>
      intro vs lvs g1 g2 g3
      cases lvs with
      | nil=>simp at g2
      | cons x xs =>
        cases vs with
        | nil=>simp at g1
        | cons v vs =>
          have h0:=g3 0 (by simp) (by simp) (by simp)
          rw [zak] at h0
          simp only [List.getElem_cons_zero] at h0
          cases h0 with
          | cons h0 _=>exact .cons h0 (ih vs xs (by simpa using g1) (by simpa using g2) fun i a b c=>g3 (i + 1) (by simpa using a) (by simpa using b) (by simpa using c))
   exact key rows vs lvs (by omega) (by omega) ih
 | @ag l vs bss e1 e2 hh ih=>rw [zcG];exact flat l bss e2 fun i a c=>ih i a (by omega) c
 | @tup l vs bss e1 e2 hh ih=>rw [zbS];exact flat l bss e2 fun i a c=>ih i a (by omega) c
def zff (w:World) (ls:List (TypeId × Option Nat × List PV)) (lv:List (Value × Option Nat)):Prop :=
 ∀ (i:Nat) (e:TypeId) (c:List PV) (b n cap:Nat),ls[i]? = some (e,none,c)→lv[i]? = some (.slice (some ⟨b,0,none⟩) n cap,some b) →
  ∀ vs rest:List Value,w.heap[b]? = some (.cells (vs ++ rest).toArray e (0,0))→vs.length = n→∀ j (h:j < vs.length),(lv[i + 1 + j]?).map (·.1) = some vs[j]
theorem zff.append {w:World} {a c:List (TypeId × Option Nat × List PV)} {b d:List (Value × Option Nat)} (hl:a.length = b.length) (h:zff w a b) (k:zff w c d):zff w (a ++ c) (b ++ d):=by
 intro i e cc bb n cap h1 h2 vs rest hh hn j hj
 by_cases hi:i < a.length
 ·rw [List.getElem?_append_left hi] at h1
  rw [List.getElem?_append_left (by omega)] at h2
  have:=h i e cc bb n cap h1 h2 vs rest hh hn j hj
  cases hb:b[i + 1 + j]? with
  | none=>rw [hb] at this;cases this
  | some x =>
    rw [List.getElem?_append_left (List.getElem?_eq_some_iff.1 hb).1]
    exact this
 ·rw [List.getElem?_append_right (by omega)] at h1
  rw [List.getElem?_append_right (by omega)] at h2
  have:=k (i - a.length) e cc bb n cap h1 (by rw [hl];exact h2) vs rest hh hn j hj
  rw [List.getElem?_append_right (by omega)]
  rw [show i - a.length + 1 + j = i + 1 + j - b.length by omega] at this
  exact this
theorem zff.nil (w:World):zff w [] []:=fun i e c b n cap h=>by simp at h
theorem zff.one {w:World} {e:TypeId} {sz:Nat} {c:List PV} {x:Value × Option Nat}:zff w [(e,some sz,c)] [x]:=fun i e c b n cap h=>by
 cases i <;> simp at h
theorem OutR.links [zae] {w:World} {E:Env} {rv:RV} {v:Value} {lv:List (Value × Option Nat)} (h:OutR w E rv v lv):zff w (zak rv) lv:=by
 have flat:∀ (l:List RV) (bss:List (List (Value × Option Nat))),l.length = bss.length→(∀ i (a:i < l.length) (c:i < bss.length),(zak l[i]).length = bss[i].length∧zff w (zak l[i]) bss[i])→zff w (l.map zak).flatten bss.flatten:=by
  intro l
  induction l with
  | nil=>intro bss h _;cases bss with | nil=>exact zff.nil w | cons x y=>simp at h
  | cons x xs ih =>
    intro bss h hh
    cases bss with
    | nil=>simp at h
    | cons y ys =>
      simp only [List.map_cons,List.flatten_cons]
      have h0:=hh 0 (by simp) (by simp)
      exact zff.append h0.1 h0.2 (ih ys (by simpa using h) fun i a c=>hh (i + 1) (by simpa using a) (by simpa using c))
 induction h with
 | im h=>rw [zak];exact zff.nil w
 | nil=>rw [zak];exact zff.one
 | fr=>rw [zak];exact zff.one
 | tbn=>rw [zak];intro i e c b n cap h1 h2;cases i <;> simp at h1 h2
 | @tb e e2 b n cap rows vs rest lvs hB hh hn hc hm hl h1 h2 hv hin ih =>
   rw [zak]
   intro i e' c' b' n' cap' g1 g2 vs' rest' g3 g4 j hj
   cases i with
   | zero =>
     simp only [List.getElem?_cons_zero,Option.some.injEq,Prod.mk.injEq,Value.slice.injEq] at g1 g2
     obtain ⟨rfl,_,_⟩:=g1
     obtain ⟨⟨e1,e2',e3⟩,e4⟩:=g2
     subst e2' e4
     rw [hh] at g3
     simp only [Option.some.injEq,Obj.cells.injEq,and_true] at g3
     have e5:vs ++ rest = vs' ++ rest':=by simpa using congrArg Array.toList g3
     obtain ⟨rfl,_⟩:=List.append_inj e5 (by omega)
     rw [show 0 + 1 + j = j + 1 by omega,List.getElem?_cons_succ,List.getElem?_eq_getElem (by omega)]
     simp [hv j hj (by omega)]
   | succ i =>
     exfalso
     rw [List.getElem?_cons_succ,List.getElem?_map] at g1
     cases hr:rows[i]? with
     | none=>rw [hr] at g1;cases g1
     | some r=>rw [hr] at g1;simp at g1
 | @ag l vs bss e1 e2 hh ih=>rw [zcG];exact flat l bss e2 fun i a c=>⟨(hh i a (by omega) c).leafs.length.symm,ih i a (by omega) c⟩
 | @tup l vs bss e1 e2 hh ih=>rw [zbS];exact flat l bss e2 fun i a c=>⟨(hh i a (by omega) c).leafs.length.symm,ih i a (by omega) c⟩
def Agr (E:Env) (vr:Nat→Nat) (d i:Nat) (lv:List (Value × Option Nat)):Prop:=∀ j (h:j < lv.length),(E.R (zan d (i + j))).ver = vr (zan d (i + j)) + 1∧E.rv (zan d (i + j)) = lv[j].1
theorem Agr.left {E:Env} {vr:Nat→Nat} {d i:Nat} {x y:List (Value × Option Nat)} (h:Agr E vr d i (x ++ y)):Agr E vr d i x:=fun j hj=>by
 have:=h j (by simp;omega)
 rwa [List.getElem_append_left hj] at this
theorem Agr.right {E:Env} {vr:Nat→Nat} {d i:Nat} {x y:List (Value × Option Nat)} (h:Agr E vr d i (x ++ y)):Agr E vr d (i + x.length) y:=fun j hj=>by
 have:=h (x.length + j) (by simp;omega)
 rw [List.getElem_append_right (by omega)] at this
 simpa [Nat.add_assoc] using this
section
variable {w:World} {E E':Env} {vr:Nat→Nat} {d:Nat}
def zwa (w:World) (E E':Env) (vr:Nat→Nat) (d:Nat) (f:RV→Nat→PV):Prop :=
 ∀ (rv:RV) (v:Value) (lv:List (Value × Option Nat)) (i:Nat),OutR w E rv v lv→Agr E' vr d i lv→Rep w E' 0 (f rv i) v
theorem zfW [zae] {f:RV→Nat→PV} (hf:zwa w E E' vr d f):∀ (l:List RV) (vs:List Value) (bss:List (List (Value × Option Nat))) (i:Nat),l.length = vs.length→l.length = bss.length →
 (∀ j (a:j < l.length) (b:j < vs.length) (c:j < bss.length),OutR w E l[j] vs[j] bss[j])→Agr E' vr d i bss.flatten→zbl w E' 0 (zbF f l i) vs:=by
 intro l
 induction l with
 | nil=>intro vs bss i h1 _ _ _;cases vs with | nil=>exact ⟨rfl,fun i a=>absurd a (by simp [zbF])⟩ | cons x y=>simp at h1
 | cons x xs ih =>
   intro vs bss i h1 h2 hh hag
   cases vs with
   | nil=>simp at h1
   | cons v vs =>
     cases bss with
     | nil=>simp at h2
     | cons b bss =>
       have h0:=hh 0 (by simp) (by simp) (by simp)
       simp only [List.getElem_cons_zero] at h0
       rw [List.flatten_cons] at hag
       have hx:=hf x v b i h0 hag.left
       have hlen:b.length = (zak x).length:=h0.leafs.length
       have hrest:=ih vs bss (i + (zak x).length) (by simpa using h1) (by simpa using h2) (fun j a b c=>hh (j + 1) (by simpa using a) (by simpa using b) (by simpa using c)) (by rw [← hlen];exact hag.right)
       refine ⟨by simp [zbF,hrest.1],fun j a b=>?_⟩
       cases j with
       | zero=>exact hx
       | succ j=>exact hrest.2 j (by simpa [zbF] using a) (by simpa using b)
theorem zn1 [zae] (hl:Lasts w w E.bare E'.bare) (hB:E'.B ≤ E.B):zwa w E E' vr d (zbV vr d):=by
 intro rv v lv i h hag
 have own:∀ {v':Value} {m:Option Nat} {lvs:List (Value × Option Nat)},Agr E' vr d i ((v',m) :: lvs)→Rep w E' 0 (.own (zan d i) (vr (zan d i) + 1)) v':=fun hag=>by
  have:=hag 0 (by simp)
  simp at this
  exact .own (by rw [this.1];exact Nat.le_refl _) fun _ _=>this.2.symm
 cases h with
 | im h=>exact zlt (h.mono hl (Nat.le_refl _)) (by simpa [Env.lo] using hB)
 | nil=>exact own hag
 | fr=>exact own hag
 | tbn=>exact own hag
 | tb=>exact own hag
 | ag=>exact .junk _
 | tup=>exact .junk _
theorem zxo [zae] (hl:Lasts w w E.bare E'.bare) (hB:E'.B ≤ E.B):zwa w E E' vr d (zcv vr d):=by
 intro rv v lv i h hag
 have h0:=zn1 (vr:=vr) (d:=d) hl hB
 cases h with
 | @im p _ h=>exact h0 (.im p) _ _ i (.im h) hag
 | @nil e sz=>exact h0 (.fr e sz []) _ _ i .nil hag
 | @fr e sz _ _ _ cells _ _ a b c k f g j=>exact h0 (.fr e sz cells) _ _ i (.fr a b c k f g j) hag
 | @tbn e e2=>exact h0 (.tb e e2 []) _ _ i .tbn hag
 | @tb e e2 _ _ _ rows _ _ _ a b c k f g j l m=>exact h0 (.tb e e2 rows) _ _ i (.tb a b c k f g j l m ‹_›) hag
 | ag e1 e2 hh=>have:=zfW h0 _ _ _ i e1 e2 hh hag;exact .ag this.1 this.2
 | tup e1 e2 hh=>have:=zfW h0 _ _ _ i e1 e2 hh hag;exact .tup this.1 this.2
theorem zn2 [zae] (hl:Lasts w w E.bare E'.bare) (hB:E'.B ≤ E.B):zwa w E E' vr d (za0 vr d):=by
 intro rv v lv i h hag
 have h0:=zn1 (vr:=vr) (d:=d) hl hB
 have h1:=zxo (vr:=vr) (d:=d) hl hB
 cases h with
 | @im p _ h=>exact h0 (.im p) _ _ i (.im h) hag
 | @nil e sz=>exact h0 (.fr e sz []) _ _ i .nil hag
 | @fr e sz _ _ _ cells _ _ a b c k f g j=>exact h0 (.fr e sz cells) _ _ i (.fr a b c k f g j) hag
 | @tbn e e2=>exact h0 (.tb e e2 []) _ _ i .tbn hag
 | @tb e e2 _ _ _ rows _ _ _ a b c k f g j l m=>exact h0 (.tb e e2 rows) _ _ i (.tb a b c k f g j l m ‹_›) hag
 | ag e1 e2 hh=>have:=zfW h1 _ _ _ i e1 e2 hh hag;exact .ag this.1 this.2
 | tup e1 e2 hh=>have:=zfW h1 _ _ _ i e1 e2 hh hag;exact .tup this.1 this.2
end
end Go.Abs

/- DERIVED by an AI agent. A call whose rows are taken over. No program in sight. -/
namespace Go.Abs
set_option linter.unusedSimpArgs false
theorem zxm {d i j:Nat} (h:zan d i = zan d j):i = j:=by unfold zan at h;omega
def zik {α:Type} (f:Nat→α) (d:Nat):List α→Nat→Nat→α
 | [],_=>f
 | x :: xs,i=>zcB (zik f d xs (i + 1)) (zan d i) x
theorem zcO [zae] {α:Type} (f:Nat→α) (d k:Nat):∀ (l:List α) (i:Nat),(∀ j,j < l.length→k ≠ zan d (i + j))→zik f d l i k = f k:=by
 intro l
 induction l with
 | nil=>intro i _;rfl
 | cons x xs ih =>
   intro i h
   have h0:=h 0 (by simp)
   rw [zik,zal _ _ (by simpa using h0)]
   exact ih (i + 1) fun j hj=>by have:=h (j + 1) (by simpa using hj);rwa [show i + (j + 1) = i + 1 + j by omega] at this
theorem zd3 [zae] {α:Type} (f:Nat→α) (d:Nat):∀ (l:List α) (i j:Nat) (h:j < l.length),zik f d l i (zan d (i + j)) = l[j]:=by
 intro l
 induction l with
 | nil=>intro i j h;simp at h
 | cons x xs ih =>
   intro i j h
   cases j with
   | zero=>simp [zik,zcB]
   | succ j =>
     rw [zik,zal _ _ (fun e=>by have:=zxm e;omega)]
     have:=ih (i + 1) j (by simpa using h)
     rw [show i + (j + 1) = i + 1 + j by omega]
     exact this
def zbs (rw:Nat→Row) (d:Nat):List (TypeId × Option Nat × List PV)→Nat→List Row
 | [],_=>[]
 | (e,sz,c) :: ls,i=>⟨(rw (zan d i)).ver + 1,zbW rw d i e sz c⟩ :: zbs rw d ls (i + 1)
theorem zdv (rw:Nat→Row) (d:Nat):∀ (ls:List (TypeId × Option Nat × List PV)) (i:Nat),zaw rw d ls i = zik rw d (zbs rw d ls i) i:=by
 intro ls
 induction ls with
 | nil=>intro i;rfl
 | cons x xs ih=>intro i;obtain ⟨e,sz,c⟩:=x;simp only [zaw,zbs,zik,ih]
theorem zbt (rw:Nat→Row) (d:Nat):∀ (ls:List (TypeId × Option Nat × List PV)) (i:Nat),(zbs rw d ls i).length = ls.length:=by
 intro ls
 induction ls with
 | nil=>intro i;rfl
 | cons x xs ih=>intro i;obtain ⟨e,sz,c⟩:=x;simp [zbs,ih]
theorem zei [zae] (rw:Nat→Row) (d:Nat):∀ (ls:List (TypeId × Option Nat × List PV)) (i j:Nat) (h:j < ls.length) (h':j < (zbs rw d ls i).length),
 (zbs rw d ls i)[j] = ⟨(rw (zan d (i + j))).ver + 1,zbW rw d (i + j) ls[j].1 ls[j].2.1 ls[j].2.2⟩:=by
 intro ls
 induction ls with
 | nil=>intro i j h;simp at h
 | cons x xs ih =>
   intro i j h h'
   obtain ⟨e,sz,c⟩:=x
   cases j with
   | zero=>simp [zbs]
   | succ j =>
     have:=ih (i + 1) j (by simpa using h) (by rw [zbt];simpa using h)
     simp only [zbs,List.getElem_cons_succ]
     rw [this]
     rw [show i + (j + 1) = i + 1 + j by omega]
theorem LeafsAt.get {w:World} {E:Env} {a:List (TypeId × Option Nat × List PV)} {b:List (Value × Option Nat)} (h:LeafsAt w E a b):∀ i (p:i < a.length) (q:i < b.length),LeafAt w E a[i] b[i]:=by
 induction h with
 | nil=>intro i p;simp at p
 | cons h _ ih =>
   intro i p q
   cases i with
   | zero=>exact h
   | succ i=>exact ih i (by simpa using p) (by simpa using q)
theorem LeafAt.blk [zae] {w:World} {E:Env} {x:TypeId × Option Nat × List PV} {y:Value × Option Nat} (h:LeafAt w E x y):∀ b,y.2 = some b→E.B ≤ b∧b < w.heap.size:=by
 cases h with
 | nil=>intro b hb;cases hb
 | tbn=>intro b hb;cases hb
 | tb hB hh=>intro b hb;simp at hb;subst hb;exact ⟨hB,ze2 hh⟩
 | fr hB hh=>intro b hb;simp at hb;subst hb;exact ⟨hB,ze2 hh⟩
theorem zAB {lv:List (Value × Option Nat)} (hn:(blk lv).Nodup) {i j b:Nat} (hi:i < lv.length) (hj:j < lv.length) (h1:lv[i].2 = some b) (h2:lv[j].2 = some b):i = j:=by
 induction lv generalizing i j with
 | nil=>simp at hi
 | cons x xs ih =>
   have mem:∀ k (hk:k < xs.length),xs[k].2 = some b→b ∈ blk xs:=fun k hk he=>by
    simp only [blk,List.mem_filterMap];exact ⟨_,List.getElem_mem hk,he⟩
   have hn':(blk xs).Nodup:=by
    unfold blk at hn ⊢
    cases hx:x.2 with
    | none=>rw [List.filterMap_cons_none hx] at hn;exact hn
    | some y=>rw [List.filterMap_cons_some hx] at hn;exact hn.of_cons
   have out:x.2 = some b→b ∉ blk xs:=fun hx=>by
    unfold blk at hn ⊢
    rw [List.filterMap_cons_some hx] at hn
    exact (List.nodup_cons.1 hn).1
   cases i with
   | zero =>
     cases j with
     | zero=>rfl
     | succ j=>exact absurd (mem j (by simpa using hj) h2) (out h1)
   | succ i =>
     cases j with
     | zero=>exact absurd (mem i (by simpa using hi) h1) (out h2)
     | succ j=>rw [ih hn' (by simpa using hi) (by simpa using hj) h1 h2]
section
variable {P:Program} {T:Tab} {G:Ghost} {s:St} {E:Env} {a:Act} {w w':World} {o:Oper}
def Env.adopt (E:Env) (d:Nat) (ls:List (TypeId × Option Nat × List PV)) (lv:List (Value × Option Nat)):Env :=
 { R:=zik E.R d (zbs E.R d ls 0) 0,rm:=zik E.rm d (lv.map (·.2)) 0,rv:=zik E.rv d (lv.map (·.1)) 0,
   L:=mkL E.X (zik E.R d (zbs E.R d ls 0) 0) (zik E.rm d (lv.map (·.2)) 0),B:=E.B,X:=E.X }
theorem zxn [zae] (hw:WOk G E w) (hx:Ext w w') {d:Nat} {ls:List (TypeId × Option Nat × List PV)} {lv:List (Value × Option Nat)} (hls:LeafsAt w' (Env.out w.heap.size (blk lv)) ls lv) (hlk:zff w' ls lv) (hn:(blk lv).Nodup) :
 Turn G E (E.adopt d ls lv) w w' (fun k=>∃ j,j < ls.length∧k = zan d j) ∧
  (∀ k,(∃ j,j < ls.length∧k = zan d j)→zav w' (E.adopt d ls lv) G.C k)∧Agr (E.adopt d ls lv) (fun k=>(E.R k).ver) d 0 lv:=by
 have hlen:=hls.length
 have atR:∀ j (h:j < ls.length),(E.adopt d ls lv).R (zan d j) = ⟨(E.R (zan d j)).ver + 1,zbW E.R d j ls[j].1 ls[j].2.1 ls[j].2.2⟩:=fun j h=>by
  have h':j < (zbs E.R d ls 0).length:=by rw [zbt];exact h
  have:=zd3 E.R d (zbs E.R d ls 0) 0 j h'
  rw [Nat.zero_add] at this
  show zik E.R d (zbs E.R d ls 0) 0 (zan d j) = _
  rw [this,zei E.R d ls 0 j h h',Nat.zero_add]
 have atM:∀ j (h:j < ls.length) (h':j < lv.length),(E.adopt d ls lv).rm (zan d j) = lv[j].2:=fun j h h'=>by
  have:=zd3 E.rm d (lv.map (·.2)) 0 j (by simpa using h')
  rw [Nat.zero_add] at this
  show zik E.rm d (lv.map (·.2)) 0 (zan d j) = _
  rw [this];simp
 have atV:∀ j (h:j < ls.length) (h':j < lv.length),(E.adopt d ls lv).rv (zan d j) = lv[j].1:=fun j h h'=>by
  have:=zd3 E.rv d (lv.map (·.1)) 0 j (by simpa using h')
  rw [Nat.zero_add] at this
  show zik E.rv d (lv.map (·.1)) 0 (zan d j) = _
  rw [this];simp
 have off:∀ k,¬ (∃ j,j < ls.length∧k = zan d j)→(E.adopt d ls lv).R k = E.R k∧(E.adopt d ls lv).rm k = E.rm k∧(E.adopt d ls lv).rv k = E.rv k:=fun k hk=>by
  refine ⟨zcO _ d k _ 0 fun j hj e=>hk ⟨j,by rwa [zbt] at hj,by simpa using e⟩,zcO _ d k _ 0 fun j hj e=>hk ⟨j,by simp at hj;omega,by simpa using e⟩,zcO _ d k _ 0 fun j hj e=>hk ⟨j,by simp at hj;omega,by simpa using e⟩⟩
 have hturn:Turn G E (E.adopt d ls lv) w w' (fun k=>∃ j,j < ls.length∧k = zan d j):=by
  refine ⟨rfl,rfl,rfl,off,fun b hb _=>hx.block b hb,?_,?_,?_,?_,?_,?_,hx.size,hx.os,hx.tape,hx.output⟩
  ·rintro k b ⟨j,hj,rfl⟩ hb _
   rw [atM j hj (by omega)] at hb
   exact .inl ((hls.get j hj (by omega)).blk b hb).1
  ·rintro k ⟨j,hj,rfl⟩;rw [atR j hj];exact Nat.le_succ _
  ·rintro k ⟨j,hj,rfl⟩ h;rw [atR j hj] at h;simp at h
  ·rintro k ⟨j,hj,rfl⟩ h;rw [atR j hj] at h;simp at h
  ·rintro k ⟨j,hj,rfl⟩ _;rw [atR j hj];exact Nat.succ_pos _
  ·rintro k k' b ⟨j,hj,rfl⟩ ⟨j',hj',rfl⟩ _ _ h1 h2
   rw [atM j hj (by omega)] at h1
   rw [atM j' hj' (by omega)] at h2
   rw [zAB hn (by omega) (by omega) h1 h2]
 have hl:=hturn.lasts hw
 refine ⟨hturn,?_,fun j hj=>?_⟩
 ·rintro k ⟨j,hj,rfl⟩
  have hleaf:=hls.get j hj (by omega)
  unfold zav
  rw [atR j hj,atM j hj (by omega),atV j hj (by omega)]
  have hbare:Lasts w' w' (Env.out w.heap.size (blk lv)).bare (E.adopt d ls lv).bare:=by
   refine ⟨fun b hb hL=>⟨rfl,fun hL'=>?_⟩,fun _=>Nat.le_refl _,fun _ _ h=>absurd h (by simp [Env.bare,RK.slice]),fun _ _ h=>absurd h (by simp [Env.bare,RK.nd]),Nat.le_refl _⟩
   rcases hL' with ⟨k,hk,hlv⟩ | hX
   rotate_left
   ·exact hL (.inl (by have:=hw.fx.low b (by rw [← hw.xs];exact hX);have:=hw.kept.size;omega))
   have hnot:¬ (b < w.heap.size ∨ b ∈ blk lv):=hL
   by_cases hD:∃ j,j < ls.length∧k = zan d j
   ·obtain ⟨j',hj',rfl⟩:=hD
    have hk':(E.adopt d ls lv).rm (zan d j') = some b:=hk
    rw [atM j' hj' (by omega)] at hk'
    refine hnot (.inr ?_)
    simp only [blk,List.mem_filterMap]
    exact ⟨_,List.getElem_mem (by omega),hk'⟩
   ·obtain ⟨e1,e2,_⟩:=off k hD
    have hk':(E.adopt d ls lv).rm k = some b:=hk
    have hlv':((E.adopt d ls lv).R k).kind.live = true:=hlv
    rw [e2] at hk';rw [e1] at hlv'
    exact hnot (.inl (hw.block hk' (RK.nd_of_live hlv')).1)
  generalize hx1:ls[j] = lx at hleaf
  generalize hy1:lv[j] = ly at hleaf
  cases hleaf with
  | nil=>exact .inl ⟨rfl,rfl,rfl⟩
  | tbn=>exact .inl ⟨rfl,rfl,by simp [zaT]⟩
  | @tb e b n cap cells vs rest hB hh hnn hc hm hll hr =>
    have hlink:=hlk j e cells b n cap (by rw [List.getElem?_eq_getElem hj,hx1]) (by rw [List.getElem?_eq_getElem (by omega),hy1]) vs rest hh hnn
    refine .inr ⟨b,n,cap,vs,rest,rfl,.inl (Nat.le_trans hw.kept.size hB),rfl,hh,hnn,hc,hm,hll,by simp [zaT,hr,hnn],fun i a b'=>?_⟩
    have hi:i < cells.length:=by simpa [zaT] using a
    have h0:=hlink i b'
    have hlt:j + 1 + i < lv.length:=by
     cases hq:lv[j + 1 + i]? with
     | none=>rw [hq] at h0;cases h0
     | some x=>exact (List.getElem?_eq_some_iff.1 hq).1
    rw [List.getElem?_eq_getElem hlt] at h0
    have h0:lv[j + 1 + i].1 = vs[i]:=by simpa using h0
    show Rep w' (E.adopt d ls lv) 0 (zaT E.R d j cells.length)[i] vs[i]
    simp only [zaT,List.getElem_map,List.getElem_range]
    refine .own ?_ fun _ _=>?_
    ·rw [atR (j + 1 + i) (by omega)];exact Nat.le_refl _
    ·rw [atV (j + 1 + i) (by omega) hlt,h0]
  | @fr e sz b n cap cells vs rest hB hh hnn hc hm hll hr =>
    refine .inr ⟨b,n,cap,vs,rest,rfl,.inl ?_,rfl,hh,hnn,hc,hm,hll,hr.mono hbare ?_⟩
    ·exact Nat.le_trans hw.kept.size hB
    ·show E.B ≤ w.heap.size
     rw [hw.base];exact hw.kept.size
 ·rw [Nat.zero_add]
  have hj':j < ls.length:=by omega
  rw [atR j hj',atV j hj' hj]
  exact ⟨rfl,rfl⟩
theorem zn0 [zae] {c:Call} {f:Operand} {d:Nat} {K:St→Prop} (ho:o.op = .call c) (hc:c.callee = .value f) (hdst:o.dst = some d) (hd:d < G.n)
 (hk:zeB P s.rw s.ev f c.args fun rv=>K (zao s d rv)):∃ s',K s'∧za5 P G s o s':=by
 obtain ⟨rv,hk,h⟩:=zAD (G:=G) ho hc hk
 refine ⟨_,hk,fun a w hs K' Q hK=>?_⟩
 obtain ⟨E,hs⟩:=hs
 refine h E a w hs.rw hs.wok (fun x _=>zaz hs.slots x) K' Q fun v w' lv hx hout hn=>?_
 obtain ⟨hturn,hrows,hag⟩:=zxn (d:=d) hs.wok hx hout.leafs hout.links hn
 have hsim:=hturn.sim hs hrows
 have hE:(E.adopt d (zak rv) lv).R = zaw s.rw d (zak rv) 0:=by
  rw [zdv,← hs.rw];rfl
 rw [hdst]
 refine hK _ _ ⟨E.adopt d (zak rv) lv,?_⟩
 have hbare:Lasts w' w' (Env.out w.heap.size (blk lv)).bare (E.adopt d (zak rv) lv).bare:=by
  refine ⟨fun b hb hL=>⟨rfl,fun hL'=>?_⟩,fun _=>Nat.le_refl _,fun _ _ h=>absurd h (by simp [Env.bare,RK.slice]),fun _ _ h=>absurd h (by simp [Env.bare,RK.nd]),Nat.le_refl _⟩
  rcases hL' with ⟨k,hk,hlv⟩ | hX
  rotate_left
  ·exact hL (.inl (by have:=hs.wok.fx.low b (by rw [← hs.wok.xs];exact hX);have:=hs.wok.kept.size;omega))
  have hnot:¬ (b < w.heap.size ∨ b ∈ blk lv):=hL
  have hwok':=hturn.wok hs.wok hrows
  by_cases hD:∃ j,j < (zak rv).length∧k = zan d j
  ·obtain ⟨j',hj',rfl⟩:=hD
   have hk':(E.adopt d (zak rv) lv).rm (zan d j') = some b:=hk
   have hjl:j' < lv.length:=by rw [hout.leafs.length];exact hj'
   have:=zd3 E.rm d (lv.map (·.2)) 0 j' (by simpa using hjl)
   rw [Nat.zero_add] at this
   have e:(E.adopt d (zak rv) lv).rm (zan d j') = lv[j'].2:=by
    show zik E.rm d (lv.map (·.2)) 0 (zan d j') = _
    rw [this];simp
   rw [e] at hk'
   refine hnot (.inr ?_)
   simp only [blk,List.mem_filterMap]
   exact ⟨_,List.getElem_mem hjl,hk'⟩
  ·obtain ⟨e1,e2,_⟩:=hturn.keep k hD
   have hk':(E.adopt d (zak rv) lv).rm k = some b:=hk
   have hlv':((E.adopt d (zak rv) lv).R k).kind.live = true:=hlv
   rw [e2] at hk';rw [e1] at hlv'
   exact hnot (.inl (hs.wok.block hk' (RK.nd_of_live hlv')).1)
 have hrep:Rep w' (E.adopt d (zak rv) lv) 0 (za0 (fun k=>(s.rw k).ver) d rv 0) v:=by
  rw [hs.rw] at hag
  exact zn2 hbare (by show E.B ≤ w.heap.size;rw [hs.wok.base];exact hs.wok.kept.size) rv v lv 0 hout hag
 have:=hsim.put (d:=some d) (by simp [hd]) hrep
 rw [hE] at this
 exact this
end
end Go.Abs

/- DERIVED by an AI agent. New variables, slices made and written out; all operations together. No program in sight. -/
namespace Go.Abs
set_option linter.unusedSimpArgs false
section
variable {P:Program} {T:Tab} {G:Ghost} {s:St} {E:Env} {a:Act} {w w':World} {o:Oper}
theorem zAz [zae] {d:Nat} {t:TypeId} {x:Operand} {K:St→Prop} (ho:o.op = .box t x) (hdst:o.dst = some d) (hd:d < G.n)
 (hk:za1 s.rw (s.ev x) fun c=>K (zcI s d (.box t c) fun v=>.ref d v 0)):∃ s',K s'∧za5 P G s o s':=by
 have hdet:∃ new,za1 s.rw (s.ev x) (· = new)∧K (zcI s d (.box t new) fun v=>.ref d v 0):=by
  unfold za1 at hk ⊢
  split at hk <;> first
   | exact ⟨_,rfl,hk⟩
   | exact ⟨_,⟨hk.1,rfl⟩,hk.2⟩
   | exact ⟨_,⟨hk.1,hk.2.1,rfl⟩,hk.2.2⟩
   | exact hk.elim
 obtain ⟨new,hc,hk⟩:=hdet
 refine ⟨_,hk,fun a w hs K' Q hK=>?_⟩
 obtain ⟨E,hs⟩:=hs
 obtain ⟨c',rfl,hrep,_⟩:=zdR hc hs.rw hs.wok (zaz hs.slots x)
 refine zAC hs hdst hd hrep ?_ hK
 simp [execOp,ho,Instr.box,newVar,newRow]
theorem zs8 [zae] (hT:T.Ok P) {d:Nat} {t:TypeId} {K:St→Prop} (ho:o.op = .alloc t) (hdst:o.dst = some d) (hd:d < G.n)
 (hk:0 < (T t).size∧K (zcI s d (.box t ((T t).zero.map PV.v)) fun v=>.ref d v 0)):∃ s',K s'∧za5 P G s o s':=by
 obtain ⟨hs,hk⟩:=hk
 obtain ⟨i,z,h1,h2,h3,h4,h5⟩:=(hT t hs).info
 refine ⟨_,hk,fun a w hs K' Q hK=>?_⟩
 obtain ⟨E,hs⟩:=hs
 refine zAC (vs:=(T t).zero) hs hdst hd ⟨by simp,fun i p q=>by simp;exact .v _⟩ ?_ hK
 have e:(T t).zero.toArray = z.cells:=by rw [← h5]
 simp [execOp,ho,Instr.alloc,zeroValue,typeInfo,h1,h4,newVar,newRow,e]
theorem zAA [zae] {d:Nat} {c:Value} {kd:RK} (hkd:kd = .nil ∨ ∃ e sz,kd = .sli e sz false []) {K:St→Prop} (ho:o.op = .assign (.const c)) (hdst:o.dst = some d) (hd:d < G.n) (hn:zd5 c = true)
 (hk:K (zcI s d kd fun v=>.own d v)):∃ s',K s'∧za5 P G s o s':=by
 refine ⟨_,hk,fun a w hs K' Q hK=>?_⟩
 obtain ⟨E,hs⟩:=hs
 refine zGl hkd hs hdst hd (Ext.refl w) ?_ hK
 simp [execOp,ho,Act.eval,zeD hn]
theorem zxl [zae] (hT:T.Ok P) {d:Nat} {t e:TypeId} {l c:Operand} {kl kc:IntKind} {nl nc:Int} {z:Value} {K:St→Prop} (ho:o.op = .makeSlice t l c) (hdst:o.dst = some d) (hd:d < G.n)
 (ht:0 < (T t).size) (hte:(T t).k = .sli e) (hl:s.ev l = .v (.int kl nl)) (hc:s.ev c = .v (.int kc nc)) (he:(T e).size = 1) (hz:(T e).zero = [z]) (h0:0 ≤ nl) (h1:nl ≤ nc) (hb:((T e).bytes:Int) * nc ≤ 281474976710656)
 (h63:nc ≤ 9223372036854775807) (hk:K (zcI s d (.sli e 1 false (List.replicate nl.toNat (.v z))) fun v=>.own d v)):∃ s',K s'∧za5 P G s o s':=by
 have hu:P.underlying t = some (.slice e):=by have:=(hT t ht).k;rw [hte] at this;exact this
 obtain ⟨i,zz,hi,hsz,hby,hz',hzl⟩:=(hT e (by omega)).info
 refine ⟨_,hk,fun a w hs K' Q hK=>?_⟩
 obtain ⟨E,hs⟩:=hs
 have el:=zaz hs.slots l
 have ec:=zaz hs.slots c
 rw [hl] at el;rw [hc] at ec
 have hrun:=run_make (P:=P) w t e i zz hu hi hz' kl kc nl nc h0 h1 (by rw [hby];exact hb) h63
 have hzc:zz.cells = #[z]:=by apply Array.toList_inj.1;rw [hzl,hz]
 have hmade:madeCells zz.cells (nc.toNat * i.size) = (List.replicate nl.toNat z ++ List.replicate (nc.toNat - nl.toNat) z).toArray:=by
  rw [List.replicate_append_replicate,hsz,he,Nat.mul_one,show nl.toNat + (nc.toNat - nl.toNat) = nc.toNat by omega]
  unfold madeCells
  apply Array.ext (by simp)
  intro j h1 h2
  simp [hzc,Nat.mod_one]
 rw [hmade] at hrun
 refine zGk (vs:=List.replicate nl.toNat z) (rest:=List.replicate (nc.toNat - nl.toNat) z) (n:=nl.toNat) (cap:=nc.toNat) (sz:=1) (e:=e) hs hdst hd ⟨by simp,fun j p q=>by simp;exact .v _⟩ (by simp) (by omega) (by simp [maxLen];omega) (by simp;omega) (Ext.alloc _ _) (heap_alloc_new w _) ?_ hK
 simp [execOp,ho,el.v_eq,ec.v_eq,hrun]
theorem zrN:∀ (l:List Value) (n off:Nat) (arr:Array Value),off + n + l.length ≤ arr.size →
 ((l.zipIdx n).foldl (fun cs (x:Value × Nat)=>cs.setIfInBounds (off + x.2) x.1) arr).toList = arr.toList.take (off + n) ++ l ++ arr.toList.drop (off + n + l.length):=by
 intro l
 induction l with
 | nil=>intro n off arr h;simp
 | cons x xs ih =>
   intro n off arr h
   simp only [List.zipIdx_cons,List.foldl_cons]
   rw [ih (n + 1) off _ (by simp at h ⊢;omega)]
   have e:=list_seg_step arr.toList (off + n) x xs (by simp at h ⊢;omega)
   simpa [Array.toList_setIfInBounds,Nat.add_assoc] using e
def zoY:Nat→List (Nat × Operand)→Bool
 | _,[]=>true
 | k,(i,_) :: r=>(i == k) && zoY (k + 1) r
theorem zGj [zae] (sz:Nat):∀ (vs:List Value) (ps:List (Nat × Value)) (k:Nat) (cells:Array Value),ps.map (·.2) = vs→(∀ j (h:j < ps.length),ps[j].1 = k + j)→(∀ v ∈ vs,v.cells.size = sz)→(k + vs.length) * sz ≤ cells.size →
 ∃ out,Instr.fill (fun i=>some (i * sz,sz)) cells ps = some out∧out.toList = cells.toList.take (k * sz) ++ (vs.map (·.cells.toList)).flatten ++ cells.toList.drop ((k + vs.length) * sz):=by
 intro vs
 induction vs with
 | nil =>
   intro ps k cells h1 _ _ _
   have:ps = []:=by simpa using h1
   subst this
   exact ⟨cells,rfl,by simp⟩
 | cons v vs ih =>
   intro ps k cells h1 h2 h3 h4
   cases ps with
   | nil=>simp at h1
   | cons p ps =>
     obtain ⟨i,u⟩:=p
     simp only [List.map_cons,List.cons.injEq] at h1
     obtain ⟨rfl,h1⟩:=h1
     have hi:i = k:=(h2 0 (by simp):i = k + 0)
     subst hi
     have hv:=h3 u (by simp)
     have hle:(i + (vs.length + 1)) * sz ≤ cells.size:=h4
     have hmul:(i + (vs.length + 1)) * sz = i * sz + sz + vs.length * sz:=by rw [Nat.add_mul,Nat.add_mul];omega
     have hset:=zrN u.cells.toList 0 (i * sz) cells (by simp [hv];omega)
     have hfold:(u.cells.zipIdx.foldl (fun cs (x:Value × Nat)=>cs.setIfInBounds (i * sz + x.2) x.1) cells) = (u.cells.toList.zipIdx.foldl (fun cs (x:Value × Nat)=>cs.setIfInBounds (i * sz + x.2) x.1) cells):=by
      rw [← Array.foldl_toList,Array.toList_zipIdx]
     obtain ⟨out,hf,ho⟩:=ih ps (i + 1) (u.cells.toList.zipIdx.foldl (fun cs (x:Value × Nat)=>cs.setIfInBounds (i * sz + x.2) x.1) cells) h1
      (fun j h=>by have h3:ps[j].1 = i + (j + 1):=h2 (j + 1) (by simpa using h);omega) (fun v hv=>h3 v (by simp [hv])) (by
       rw [← Array.length_toList,hset]
       simp [hv,Nat.add_mul] at hle ⊢;omega)
     refine ⟨out,?_,?_⟩
     ·simp only [Instr.fill]
      rw [if_neg (by simp [hv];omega)]
      rw [hfold]
      exact hf
     ·rw [ho,hset]
      have hul:u.cells.toList.length = sz:=by simpa using hv
      have e1:(i + 1) * sz = i * sz + sz:=by rw [Nat.add_mul,Nat.one_mul]
      have e2:(i + 1 + vs.length) * sz = i * sz + sz + vs.length * sz:=by rw [Nat.add_mul,Nat.add_mul,Nat.one_mul]
      have hl1:(cells.toList.take (i * sz)).length = i * sz:=by simp;omega
      rw [e1,e2,List.length_cons,hmul,Nat.add_zero,hul]
      have t1:(cells.toList.take (i * sz) ++ u.cells.toList ++ cells.toList.drop (i * sz + sz)).take (i * sz + sz) = cells.toList.take (i * sz) ++ u.cells.toList:=by
       rw [List.take_append_of_le_length (by simp [hul,hl1]),List.take_of_length_le (by simp [hul];omega)]
      have t2:(cells.toList.take (i * sz) ++ u.cells.toList ++ cells.toList.drop (i * sz + sz)).drop (i * sz + sz + vs.length * sz) = cells.toList.drop (i * sz + sz + vs.length * sz):=by
       rw [List.drop_append,List.drop_of_length_le (by simp [hul];omega),List.nil_append,List.drop_drop]
       congr 1
       simp [hul];omega
      rw [t1,t2]
      simp [List.append_assoc]
end
end Go.Abs

/- DERIVED by an AI agent. A map that is made, a map that is written into, soundly. No program in sight. -/
namespace Go.Abs
set_option linter.unusedSimpArgs false
set_option linter.unusedVariables false
def zHU (T:Tab) (s:St) (t:TypeId) (m x y:PV) (K:St→Prop):Prop :=
 match m,x,y with
 | .own k ver,.v (.int .u64 a),.v (.int .i64 v)=>(s.rw k).ver = ver∧(match (s.rw k).kind with | .mp f=>zFj T t∧K (s.row k ⟨ver,.mp (zrX f a v)⟩) | _=>False)
 | _,_,_=>False
section
variable {P:Program} {T:Tab} {G:Ghost} {s:St} {o:Oper}
theorem zo3 [zae] {d:Nat} {t:TypeId} {K:St→Prop} (ho:o.op = .makeMap t none) (hdst:o.dst = some d) (hd:d < G.n) (hk:K (zcI s d (.mp fun _=>0) fun v=>.own d v)):∃ s',K s'∧za5 P G s o s':=by
 refine ⟨_,hk,fun a w hs K' Q hK=>?_⟩
 obtain ⟨E,hs⟩:=hs
 have hx:Ext w (w.alloc (.map #[] 0)):=Ext.alloc _ _
 have ht:=zfZ (G:=G) (E:=E) (k:=d) (kd:=.mp fun _=>0) (m:=some w.heap.size) (v:=.map (some w.heap.size)) hx (by simp)
 refine zej (E':=E.row d _ _ _) (p:=.own d ((s.rw d).ver + 1)) (v:=.map (some w.heap.size)) (w':=w.alloc (.map #[] 0)) hs ?_ ht (fun k hk=>?_) ?_ (by simp [hdst,hd]) (fun a' w' h=>hK a' w' ?_)
 ·have hm:(Instr.makeMap t none).run P w = .ok (.map (some w.heap.size)) (w.alloc (.map #[] 0)):=rfl
  simp [execOp,ho,hm]
 ·subst hk
  unfold zav
  simp only [Env.row,zaf]
  exact ⟨w.heap.size,#[],0,rfl,.inl hs.wok.kept.size,rfl,heap_alloc_new w _,fun e he=>by simp at he,fun a=>rfl⟩
 ·refine .own (by simp [Env.row,zaf,hs.rw]) fun _ _=>by simp [Env.row,zaf]
 ·have e':(E.row d ⟨(E.R d).ver + 1,.mp fun _=>0⟩ (some w.heap.size) (.map (some w.heap.size))).R = (s.row d ⟨(s.rw d).ver + 1,.mp fun _=>0⟩).rw:=by
   simp only [Env.row,hs.rw];rfl
  rw [e',hdst] at h
  exact h
theorem zAP [zae] (hT:T.Ok P) {t:TypeId} {m x y:Operand} {K:St→Prop} (ho:o.op = .mapUpdate t m x y) (hdst:o.dst = none) (hk:zHU T s t (s.ev m) (s.ev x) (s.ev y) K):∃ s',K s'∧za5 P G s o s':=by
 unfold zHU at hk
 split at hk
 ·rename_i k ver a v hm hx hy
  obtain ⟨hver,hk⟩:=hk
  split at hk
  ·rename_i f hkd
   obtain ⟨hmt,hk⟩:=hk
   obtain ⟨kt,e,u1,u2,_⟩:=zn8 hT hmt
   refine ⟨_,hk,fun ac w hs K' Q hK=>?_⟩
   obtain ⟨E,hs⟩:=hs
   have hR:=hs.rw
   have hrw:=hs.wok
   have e1:=zaz hs.slots m
   have e2:=zaz hs.slots x
   have e3:=zaz hs.slots y
   rw [hm] at e1;rw [hx] at e2;rw [hy] at e3
   have hkd':(E.R k).kind = .mp f:=by rw [hR];exact hkd
   have hver':(E.R k).ver = ver:=by rw [hR];exact hver
   have hrow:=hrw.rows k
   unfold zav at hrow
   simp only [hkd'] at hrow
   obtain ⟨b,es,ck,h1,h2,h3,h4,h5⟩:=hrow
   obtain ⟨es',ck',hrun,hok⟩:=zo2 (P:=P) (w:=w) u1 u2 h4 h5 a v
   have hvm:ac.eval m = .map (some b):=by
    generalize ac.eval m = vm at e1
    cases e1 with
    | own hv hx=>rw [hx hver' (by rw [hkd'];rfl),h3]
   have hb:=ze2 h4
   have hturn:OneTurn E w (ChangeMaps.setBlock w b (.map es' ck')) k ⟨ver,.mp (zrX f a v)⟩ (E.rm k) (E.rv k) :=
    ⟨fun b' hb' hne=>ChangeMaps.heap_setBlock_other h4 _ (fun e=>by
     subst e
     have:=hne h1
     rw [hkd'] at this;cases this),
     fun b' hb' _=>.inr ⟨hb',by rw [hkd'];rfl,fun _=>by rw [hkd'];rfl⟩,by rw [hver'];exact Nat.le_refl _,
     fun _ _=>⟨by rw [hkd'];rfl,rfl⟩,fun _ _=>⟨by rw [hkd'];rfl,rfl⟩,fun _=>by show 0 < ver;rw [← hver'];exact hrw.pos k (by rw [hkd'];rfl),by simp [ChangeMaps.setBlock],rfl,rfl,⟨rfl,fun _=>Nat.le_refl _⟩⟩
   refine zdn (fz:=[]) hs ?_ hturn (by simp) (fun hl=>?_) hdst (fun a' w' h=>hK a' w' ?_)
   ·simp [execOp,ho,hvm,e2.v_eq,e3.v_eq,hrun]
   ·unfold zav
    simp only [Env.turn,zaf]
    exact ⟨b,es',ck',h1,h2,h3,ChangeMaps.heap_setBlock_same h4 _,hok⟩
   ·rw [St.freeze_nil] at h;exact h
  ·exact hk.elim
 ·exact hk.elim
end
end Go.Abs

/- DERIVED by an AI agent. A slice written out; a slice cut off a row; all operations together. No program in sight. -/
namespace Go.Abs
set_option linter.unusedSimpArgs false
def zmy (rw:Nat→Row) (es:Nat):List PV→(List PV→List Nat→Prop)→Prop
 | [],K=>K [] []
 | p :: ps,K=>zc8 rw p fun c f=>c.length = es∧zmy rw es ps fun cs fs=>K (c ++ cs) (f ++ fs)
theorem zAv {rw:Nat→Row} {p:PV} {K:List PV→List Nat→Prop} (hk:zc8 rw p K):∃ c f,K c f∧zc8 rw p (fun a b=>a = c∧b = f):=by
 unfold zc8 at hk ⊢
 split at hk
 ·exact ⟨_,_,hk.2,hk.1,rfl,rfl⟩
 ·exact ⟨_,_,hk.2,hk.1,rfl,rfl⟩
 ·obtain ⟨q1,q2,hk⟩:=hk
  split at hk
  ·exact ⟨_,_,hk,q1,q2,rfl,rfl⟩
  ·exact ⟨_,_,hk,q1,q2,rfl,rfl⟩
  ·exact hk.elim
 ·exact ⟨_,_,hk.2,hk.1,rfl,rfl⟩
 ·exact hk.elim
inductive PureR (rw:Nat→Row) (es:Nat):List PV→List PV→List Nat→Prop
 | nil:PureR rw es [] [] []
 | cons {p:PV} {ps c cs:List PV} {f fs:List Nat} (h:zc8 rw p (fun a b=>a = c∧b = f)) (hl:c.length = es) (hs:PureR rw es ps cs fs):PureR rw es (p :: ps) (c ++ cs) (f ++ fs)
theorem zAw [zae] {rw:Nat→Row} {es:Nat}:∀ {ps:List PV} {K:List PV→List Nat→Prop},zmy rw es ps K→∃ c f,K c f∧PureR rw es ps c f:=by
 intro ps
 induction ps with
 | nil=>intro K h;exact ⟨_,_,h,.nil⟩
 | cons p ps ih =>
   intro K h
   obtain ⟨c,f,⟨hl,h⟩,hp⟩:=zAv h
   obtain ⟨cs,fs,h,hs⟩:=ih h
   exact ⟨_,_,h,.cons hp hl hs⟩
theorem PureR.sound [zae] {G:Ghost} {w:World} {E:Env} (hw:WOk G E w) {es:Nat} {ps c:List PV} {f:List Nat} (h:PureR E.R es ps c f):∀ {us:List Value},zbl w E 0 ps us →
 c.length = ps.length * es∧(∀ u ∈ us,u.cells.size = es)∧(∀ j ∈ f,j < lent∧∃ e sz fz cc,(E.R j).kind = .sli e sz fz cc) ∧
  ∀ (w':World) (E':Env),Lasts w w' E E'→E'.B = E.B→(∀ j ∈ f,∀ b,E.rm j = some b→w'.heap[b]? = w.heap[b]?∧¬ E'.L b)→zbl w' E'.bare E'.B c (us.map (·.cells.toList)).flatten:=by
 induction h with
 | nil =>
   intro us hr
   have:us = []:=List.eq_nil_of_length_eq_zero hr.1.symm
   subst this
   exact ⟨by simp,by simp,by simp,fun _ _ _ _ _=>⟨rfl,fun i a=>absurd a (by simp)⟩⟩
 | cons hp hl hs ih =>
   intro us hr
   cases us with
   | nil=>simp [zbl] at hr
   | cons u us =>
     have h0:Rep w E 0 _ u:=hr.2 0 (by simp) (by simp)
     obtain ⟨c',f',⟨rfl,rfl⟩,hlen,h1,hfz,hrep⟩:=zlm hp rfl hw h0
     obtain ⟨g1,g2,g3,g4⟩:=ih (us:=us) ⟨by simpa using hr.1,fun i a b=>hr.2 (i + 1) (by simpa using a) (by simpa using b)⟩
     refine ⟨by simp [g1,hl,Nat.add_mul];omega,fun v hv=>?_,fun j hj=>?_,fun w' E' hla hB hf=>?_⟩
     ·rcases List.mem_cons.1 hv with rfl | hv
      ·omega
      ·exact g2 v hv
     ·rcases List.mem_append.1 hj with hj | hj
      ·exact hfz j hj
      ·exact g3 j hj
     ·simp only [List.map_cons,List.flatten_cons]
      exact (hrep w' E' hla hB fun j hj=>hf j (List.mem_append.2 (.inl hj))).append (g4 w' E' hla hB fun j hj=>hf j (List.mem_append.2 (.inr hj)))
def zAx (T:Tab) (s:St) (d:Nat) (t:TypeId) (n:Nat) (parts:Array (Nat × Operand)) (K:St→Prop):Prop :=
 0 < (T t).size∧match (T t).k with
 | .sli e=>0 < (T e).size∧n = parts.size∧zoY 0 parts.toList = true∧n * (T e).size ≤ 16777216 ∧
  zmy s.rw (T e).size (parts.toList.map fun x=>s.ev x.2) fun c f=>d ∉ f∧K (((s.freeze f).row d ⟨(s.rw d).ver + 1,.sli e (T e).size false c⟩).put (some d) (.own d ((s.rw d).ver + 1)))
 | _=>False
theorem zAy:∀ (l:List (Nat × Operand)) (k:Nat),zoY k l = true→∀ j (h:j < l.length),l[j].1 = k + j:=by
 intro l
 induction l with
 | nil=>intro k _ j h;simp at h
 | cons x xs ih =>
   intro k hk j h
   obtain ⟨i,y⟩:=x
   simp only [zoY,Bool.and_eq_true,beq_iff_eq] at hk
   cases j with
   | zero=>exact hk.1
   | succ j =>
     have hj:j < xs.length:=by simpa using h
     have:=ih (k + 1) hk.2 j hj
     show xs[j].1 = k + (j + 1)
     omega
section
variable {P:Program} {T:Tab} {G:Ghost} {s:St} {E:Env} {a:Act} {w w':World} {o:Oper}
theorem zs7 [zae] (hT:T.Ok P) {d:Nat} {t:TypeId} {n:Nat} {parts:Array (Nat × Operand)} {K:St→Prop} (ho:o.op = .buildSlice t n parts) (hdst:o.dst = some d) (hd:d < G.n)
 (hk:zAx T s d t n parts K):∃ s',K s'∧za5 P G s o s':=by
 obtain ⟨ht,hk⟩:=hk
 split at hk
 ·rename_i e hte
  obtain ⟨he,rfl,hidx,hbig,hk⟩:=hk
  have hu:P.underlying t = some (.slice e):=by have:=(hT t ht).k;rw [hte] at this;exact this
  obtain ⟨i,zz,hi,hsz,hby,hz',hzl⟩:=(hT e he).info
  have hzs:zz.cells.size = (T e).size:=by rw [← Array.length_toList,hzl];exact (hT e he).zlen
  obtain ⟨c,f,⟨hdf,hk⟩,hpure⟩:=zAw hk
  refine ⟨_,hk,fun a w hs K' Q hK=>?_⟩
  obtain ⟨E,hs⟩:=hs
  rw [← hs.rw] at hpure
  have hreps:zbl w E 0 (parts.toList.map fun x=>s.ev x.2) (parts.toList.map fun x=>a.eval x.2):=zbl.map fun x _=>zaz hs.slots x.2
  obtain ⟨hcl,hus,hfz,hrep⟩:=hpure.sound hs.wok hreps
  let us:List Value:=parts.toList.map fun x=>a.eval x.2
  have hrun:(execOp a.eval o).run P w = .ok (.value (.slice (some ⟨w.heap.size,0,none⟩) parts.size parts.size)) (w.alloc (.cells ((us.map fun u:Value=>u.cells.toList).flatten ++ []).toArray e)):=by
   rw [List.append_nil]
   have hnb:¬ (16777216 < parts.size * i.size):=by rw [hsz];omega
   have hparts:(parts.map fun x=>(x.1,a.eval x.2)).toList = parts.toList.map fun x=>(x.1,a.eval x.2):=by simp
   have hfillz:∀ zc:Array Value,Instr.fill (fun j=>some (j * i.size,i.size)) ((Array.range (parts.size * i.size)).map (zc[· % zc.size]!)) (parts.toList.map fun x=>(x.1,a.eval x.2)) = some ((us.map fun u:Value=>u.cells.toList).flatten.toArray):=by
    intro zc
    obtain ⟨out,hfill,hout⟩:=zGj (T e).size us (parts.toList.map fun x=>(x.1,a.eval x.2)) 0 ((Array.range (parts.size * i.size)).map (zc[· % zc.size]!))
     (by simp [us]) (fun j h=>by
      have hj:j < parts.toList.length:=by simpa using h
      have:=zAy parts.toList 0 hidx j hj
      simpa using this) (fun v hv=>hus v hv) (by simp [us,hsz])
    have hflat:out.toList = (us.map fun u:Value=>u.cells.toList).flatten:=by
     rw [hout];simp [us,hsz]
    simp only [hsz] at hfill ⊢
    rw [hfill,← hflat]
   by_cases h0:parts.size * i.size = 0
   ·have:=hfillz #[]
    simp [execOp,ho,Instr.buildSlice,run_underlying hu,sizeOf,typeInfo,hi,hnb,h0,hparts,newRow] at this ⊢
    simp [this]
   ·have:=hfillz zz.cells
    simp [execOp,ho,Instr.buildSlice,run_underlying hu,sizeOf,typeInfo,zeroValue,hi,hz',hnb,h0,hparts,newRow,this]
  have hnew:∀ (o':Obj),(w.alloc o').heap[w.heap.size]? = some o':=fun o'=>heap_alloc_new w o'
  have hlen:(us.map fun u:Value=>u.cells.toList).flatten.length = parts.size * (T e).size:=by
   have h1:∀ (l:List Value),(∀ u ∈ l,u.cells.size = (T e).size)→(l.map fun u:Value=>u.cells.toList).flatten.length = l.length * (T e).size:=by
    intro l
    induction l with
    | nil=>intro _;simp
    | cons x xs ih =>
      intro h
      have:=ih fun u hu=>h u (by simp [hu])
      simp only [List.map_cons,List.flatten_cons,List.length_append,this,List.length_cons,Nat.add_mul,Nat.one_mul,Array.length_toList,h x (by simp)]
      omega
   rw [h1 us hus];simp [us]
  have hturn:OneTurn E w (w.alloc (.cells ((us.map fun u:Value=>u.cells.toList).flatten ++ []).toArray e)) d ⟨(s.rw d).ver + 1,.sli e (T e).size false c⟩ (some w.heap.size) (.slice (some ⟨w.heap.size,0,none⟩) parts.size parts.size) :=
   ⟨fun b hb _=>(Ext.alloc w _).block b hb,fun b hb _=>.inl (by simp at hb;omega),by rw [hs.rw];exact Nat.le_succ _,fun h=>by rw [hs.rw] at h;simp at h,fun h=>by rw [hs.rw] at h;simp at h,fun _=>Nat.succ_pos _,by simp,rfl,rfl,⟨rfl,fun _=>by first | exact Nat.le_refl _ | exact Nat.le_succ _⟩⟩
  have hne:∀ j ∈ f,j ≠ d:=fun j hj e=>hdf (e ▸ hj)
  have hmax:parts.size ≤ maxLen:=by
   have:parts.size ≤ parts.size * (T e).size:=Nat.le_mul_of_pos_right _ he
   simp [maxLen];omega
  refine zfX (fz:=f) (p:=.own d ((s.rw d).ver + 1)) hs hrun hturn hne (fun hl=>?_) ?_ (by simp [hdst,hd]) (fun a' w' h=>hK a' w' (by rw [hdst] at h;exact h))
  ·unfold zav
   simp only [Env.turn,zaf]
   refine .inr ⟨w.heap.size,parts.size,parts.size,_,[],rfl,.inl hs.wok.kept.size,rfl,hnew _,hlen,Nat.le_refl _,hmax,by rw [List.append_nil];exact hlen,?_⟩
   refine hrep _ _ hl rfl fun j hj b hb=>?_
   obtain ⟨q1,e',sz',fz',cc,q2⟩:=hfz j hj
   have hbs:=(hs.wok.block hb (by rw [q2];rfl)).1
   refine ⟨(Ext.alloc w _).block b hbs,fun hL=>?_⟩
   rcases hL with ⟨j',r1,r2⟩ | hX
   rotate_left
   ·exact hs.wok.apart j b (by rw [q2];rfl) hb (hs.wok.xs ▸ hX)
   by_cases hj':j' = d
   ·subst hj'
    simp only [zaf] at r1
    simp at r1;omega
   ·simp only [zal _ _ hj'] at r1 r2
    have r3:(E.R j').kind.live = true:=by
     unfold zhy at r2;split at r2
     ·exact zj0 _ r2
     ·exact r2
    have:=hs.wok.inj j j' b (by rw [q2];rfl) (RK.nd_of_live r3) hb r1
    subst this
    unfold zhy at r2
    rw [if_pos hj] at r2
    simp [frz,q2,RK.live] at r2
  ·exact .own (by simp [Env.turn,zaf]) fun _ _=>by simp [Env.turn,zaf]
 ·exact hk.elim
end
end Go.Abs

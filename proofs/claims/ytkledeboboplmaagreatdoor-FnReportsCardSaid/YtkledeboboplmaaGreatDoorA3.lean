/- DERIVED by an AI agent. -/
import Derived.Test.YtkledeboboplmaaGreatDoorA2
import Derived.Lib.AppendStr
namespace Go.Abs
set_option linter.unusedSimpArgs false
def za9 [zae] (P:Program) (G:Ghost) (s:St) (o:Oper) (s':St):Prop :=
 ∀ (a:Act) (w:World),Sim G s a w->∀ (K:Act->World->Prop) (Q:Exit->Act->World->Prop),(∀ a' w',Sim G s' a' w'->K a' w')->o.wp P a w K Q
section
variable {P:Program} {T:Tab} {G:Ghost} {s:St} {E:Env} {a:Act} {w w':World} {o:Oper}
theorem zeO [zae] {E':Env} {D:Nat->Prop} {v:Value} {p:PV} (hs:SimE G E s a w) (hrun:(execOp a.eval o).run P w = .ok (.value v) w') (ht:Turn G E E' w w' D)
 (hrows:∀ k,D k->zav w' E' G.C k) (hp:Rep w' E' 0 p v) (hd:∀ x,o.dst = some x->x < G.n) {K:Act->World->Prop} {Q:Exit->Act->World->Prop}
 (hK:∀ a' w',Sim G (St.put { s with rw:=E'.R } o.dst p) a' w'->K a' w'):o.wp P a w K Q :=
 zdX hrun (hK _ _ ⟨E',(ht.sim hs hrows).put hd hp⟩)
def za5 (rw:Nat->Row) (p:PV) (K:List PV->Prop):Prop :=
 match p with
 | .ag c=>K c
 | .v x=>x.oneCell' = true/\K [p]
 | .sl _ _ _=>K [p]
 | .eref _ _ _=>K [p]
 | .clo _ _=>K [p]
 | .own k ver=>(rw k).ver = ver/\(rw k).kind.slice = true/\K [p]
 | .ref k ver _=>(rw k).ver = ver/\(rw k).kind.nd = true/\K [p]
 | _=>False
theorem zmp [zae] (hw:WOk G E w) {k:Nat} (hk:(E.R k).kind.slice = true):(E.rv k).oneCell' = true:=by
 have hr:=hw.rows k
 unfold zav at hr
 cases hkd:(E.R k).kind with
 | dead=>rw [hkd] at hk;cases hk
 | box t c=>rw [hkd] at hk;cases hk
 | nil=>simp only [hkd] at hr;rw [hr.2];rfl
 | sli e sz fz c =>
   simp only [hkd] at hr
   rcases hr with ⟨_,h,_⟩ | ⟨b,n,cap,vs,rest,h1,h2,h3,_⟩
   ·rw [h];rfl
   ·rw [h3];rfl
 | tab e c =>
   simp only [hkd] at hr
   rcases hr with ⟨_,h,_⟩ | ⟨b,n,cap,vs,rest,h1,h2,h3,_⟩
   ·rw [h];rfl
   ·rw [h3];rfl
 | mp f =>
   simp only [hkd] at hr
   obtain ⟨b,es,ck,_,_,h3,_⟩:=hr
   rw [h3];rfl
theorem zcO {x:Value} (h:x.oneCell' = true):x.cells = #[x]:=by
 cases x <;> simp [Value.oneCell',Value.cells] at h ⊢
theorem zeh [zae] {rw:Nat->Row} {p:PV} {x:Value} {K:List PV->Prop} (hk:za5 rw p K) (hR:E.R = rw) (hw:WOk G E w) (hp:Rep w E 0 p x) :
 ∃ c,K c/\zbu w E 0 c x.cells.toList/\(∀ y ∈ x.cells.toList,p = .ag c \/ y.oneCell' = true):=by
 subst hR
 have one:∀ (h1:x.oneCell' = true),zbu w E 0 [p] x.cells.toList:=fun h1=>by
  rw [zcO h1]
  exact ⟨rfl,fun i a b=>by simp at a;subst a;simpa using hp⟩
 have one':∀ (h1:x.oneCell' = true) (c:List PV),(∀ y ∈ x.cells.toList,p = .ag c \/ y.oneCell' = true):=fun h1 c y hy=>by
  rw [zcO h1] at hy
  simp at hy;subst hy;exact .inr h1
 cases hp with
 | v=>exact ⟨_,hk.2,one hk.1,one' hk.1 _⟩
 | sl=>exact ⟨_,hk,one rfl,one' rfl _⟩
 | @own _ _ k ver _ hv hx =>
   obtain ⟨h1,h2,hk⟩:=hk
   have he:=zmp hw h2
   have hxe:=hx h1 h2
   rw [<- hxe] at he
   exact ⟨_,hk,one he,one' he _⟩
 | @ref _ _ k ver off _ hv hx =>
   obtain ⟨h1,h2,hk⟩:=hk
   obtain ⟨b,_,hxe⟩:=hx h1 h2
   exact ⟨_,hk,one (by rw [hxe];rfl),one' (by rw [hxe];rfl) _⟩
 | eref=>exact ⟨_,hk,one rfl,one' rfl _⟩
 | @ag _ _ c vs hl hh=>exact ⟨_,hk,⟨hl,hh⟩,fun y hy=>.inl rfl⟩
 | tup=>exact hk.elim
 | clo=>exact ⟨_,hk,one rfl,one' rfl _⟩
 | junk=>exact hk.elim
def zcX (s:St) (d:Nat) (kd:RK) (p:Nat->PV):St:=(s.row d ⟨(s.rw d).ver + 1,kd⟩).put (some d) (p ((s.rw d).ver + 1))
theorem zCR [zae] {d:Nat} {t:TypeId} {c:List PV} {vs:List Value} (hs:SimE G E s a w) (hdst:o.dst = some d) (hd:d < G.n) (hc:zbu w E 0 c vs)
 (hrun:(execOp a.eval o).run P w = .ok (.value (.pointer (some ⟨w.heap.size,0,none⟩))) (w.alloc (.cells vs.toArray t)))
 {K:Act->World->Prop} {Q:Exit->Act->World->Prop} (hK:∀ a' w',Sim G (zcX s d (.box t c) (fun v=>.ref d v 0)) a' w'->K a' w'):o.wp P a w K Q:=by
 have hx:Ext w (w.alloc (.cells vs.toArray t)):=Ext.alloc _ _
 have ht:=zgG (G:=G) (E:=E) (k:=d) (kd:=.box t c) (m:=some w.heap.size) (v:=default) hx sp
 refine zeO (E':=E.row d _ _ _) (p:=.ref d ((s.rw d).ver + 1) 0) hs hrun ht (fun k hk=>?_) ?_ (by simp [hdst,hd]) (fun a' w' h=>hK a' w' ?_)
 ·subst hk
  unfold zav
  simp only [Env.row,zaf]
  exact ⟨w.heap.size,vs,rfl,.inl hs.wok.kept.size,heap_alloc_new w _,hc.mono (ht.lasts hs.wok) (Nat.le_refl _)⟩
 ·refine .ref (by simp [Env.row,zaf,hs.rw]) fun _ _=>⟨w.heap.size,by simp [Env.row,zaf],rfl⟩
 ·have e:(E.row d ⟨(E.R d).ver + 1,.box t c⟩ (some w.heap.size) default).R = (s.row d ⟨(s.rw d).ver + 1,.box t c⟩).rw:=by
   simp only [Env.row,hs.rw];rfl
  rw [e,hdst] at h
  exact h
theorem zIN [zae] {d n cap:Nat} {e:TypeId} {sz:Nat} {c:List PV} {vs rest:List Value} (hs:SimE G E s a w) (hdst:o.dst = some d) (hd:d < G.n)
 (hc:zbu w E.bare E.B c vs) (h1:vs.length = n * sz) (h2:n <= cap) (h3:cap <= maxLen) (h4:(vs ++ rest).length = cap * sz)
 (hx:Ext w w') (hnew:w'.heap[w.heap.size]? = some (.cells (vs ++ rest).toArray e (0,0)))
 (hrun:(execOp a.eval o).run P w = .ok (.value (.slice (some ⟨w.heap.size,0,none⟩) n cap)) w')
 {K:Act->World->Prop} {Q:Exit->Act->World->Prop} (hK:∀ a' w',Sim G (zcX s d (.sli e sz false c) (fun v=>.own d v)) a' w'->K a' w'):o.wp P a w K Q:=by
 have ht:=zgG (G:=G) (E:=E) (k:=d) (kd:=.sli e sz false c) (m:=some w.heap.size) (v:=.slice (some ⟨w.heap.size,0,none⟩) n cap) hx sp
 refine zeO (E':=E.row d _ _ _) (p:=.own d ((s.rw d).ver + 1)) hs hrun ht (fun k hk=>?_) ?_ (by simp [hdst,hd]) (fun a' w' h=>hK a' w' ?_)
 ·subst hk
  unfold zav
  simp only [Env.row,zaf]
  refine .inr ⟨w.heap.size,n,cap,vs,rest,rfl,.inl hs.wok.kept.size,rfl,hnew,h1,h2,h3,h4,?_⟩
  exact hc.mono (ht.lasts hs.wok).bare (Nat.le_refl _)
 ·refine .own (by simp [Env.row,zaf,hs.rw]) fun _ _=>by simp [Env.row,zaf]
 ·have e':(E.row d ⟨(E.R d).ver + 1,.sli e sz false c⟩ (some w.heap.size) (.slice (some ⟨w.heap.size,0,none⟩) n cap)).R = (s.row d ⟨(s.rw d).ver + 1,.sli e sz false c⟩).rw:=by
   simp only [Env.row,hs.rw];rfl
  rw [e',hdst] at h
  exact h
theorem zIO [zae] {d:Nat} {kd:RK} (hkd:kd = .nil \/ ∃ e sz,kd = .sli e sz false []) (hs:SimE G E s a w) (hdst:o.dst = some d) (hd:d < G.n) (hx:Ext w w')
 (hrun:(execOp a.eval o).run P w = .ok (.value (.slice none 0 0)) w')
 {K:Act->World->Prop} {Q:Exit->Act->World->Prop} (hK:∀ a' w',Sim G (zcX s d kd (fun v=>.own d v)) a' w'->K a' w'):o.wp P a w K Q:=by
 have ht:=zgG (G:=G) (E:=E) (k:=d) (kd:=kd) (m:=none) (v:=.slice none 0 0) hx sp
 refine zeO (E':=E.row d _ _ _) (p:=.own d ((s.rw d).ver + 1)) hs hrun ht (fun k hk=>?_) ?_ (by simp [hdst,hd]) (fun a' w' h=>hK a' w' ?_)
 ·subst hk
  unfold zav
  simp only [Env.row,zaf]
  rcases hkd with rfl | ⟨e,sz,rfl⟩
  ·simp
  ·simp
 ·refine .own (by simp [Env.row,zaf,hs.rw]) fun _ _=>by simp [Env.row,zaf]
 ·have e':(E.row d ⟨(E.R d).ver + 1,kd⟩ none (.slice none 0 0)).R = (s.row d ⟨(s.rw d).ver + 1,kd⟩).rw:=by
   simp only [Env.row,hs.rw];rfl
  rw [e',hdst] at h
  exact h
end
def zKp (w:World) (e sz:Nat) (m:Option Nat) (v:Value) (vs:List Value):Prop :=
 (m = none/\v = .slice none 0 0/\vs = []) \/
 ∃ b n cap rest,m = some b/\v = .slice (some ⟨b,0,none⟩) n cap/\w.heap[b]? = some (.cells (vs ++ rest).toArray e (0,0))/\vs.length = n * sz/\n <= cap/\cap <= maxLen/\(vs ++ rest).length = cap * sz
structure Appended [zae] (w w':World) (e sz:Nat) (m m':Option Nat) (v':Value) (vs:List Value):Prop where
 phys:zKp w' e sz m' v' vs
 block:∀ b,b < w.heap.size->m ≠ some b->w'.heap[b]? = w.heap[b]?
 size:w.heap.size <= w'.heap.size
 os:w'.os = w.os
 tape:w'.tape = w.tape
 output:OutLe w w'
 fresh:∀ b,m' = some b->m = some b \/ w.heap.size <= b
section
variable {P:Program} {T:Tab}
theorem zht [zae] (hT:T.Ok P) {t e:TypeId} (ty:TypeId) (ht:0 < (T t).size) (hk:(T t).k = .sli e) (he:0 < (T e).size) (hb:0 < (T e).bytes) {w:World} {m:Option Nat} {v:Value} {vs news:List Value}
 (hp:zKp w e (T e).size m v vs) {ax:Option Addr} {mx cx:Nat} (hl:news.length = mx * (T e).size)
 (hnews:∀ i u,news[i]? = some u->∃ b o,ax = some ⟨b,o,none⟩/\w.cell? ⟨b,o + i,none⟩ = some u) (h1:∀ u ∈ news,u.oneCell' = true)
 (hlen:(vs.length + news.length) * (T e).bytes <= 140737488355328) :
 ∃ v' w' m',(Builtin.append_ #[t,t] ty #[v,.slice ax mx cx]).run P w = .ok v' w'/\Appended w w' e (T e).size m m' v' (vs ++ news):=by
 have hf:=hT t ht
 have hu:P.underlying t = some (.slice e):=by have:=hf.k;rw [hk] at this;exact this
 obtain ⟨i,z,hi,hsz,hby,hz,hzl⟩:=(hT e he).info
 have hsz':i.size = (T e).size:=hsz
 have hzs:z.cells.size = (T e).size:=by rw [<- Array.length_toList,hzl];exact (hT e he).zlen
 by_cases hm:mx = 0
 ·subst hm
  have hn0:news = []:=List.eq_nil_of_length_eq_zero (by simpa using hl)
  subst hn0
  refine ⟨v,w,m,?_,⟨by simpa using hp,fun _ _ _=>rfl,Nat.le_refl _,rfl,rfl,⟨rfl,fun _=>by first | exact Nat.le_refl _ | exact Nat.le_succ _⟩,fun b h=>.inl h⟩⟩
  rcases hp with ⟨_,rfl,_⟩ | ⟨b,n,cap,rest,_,rfl,_,_,hnc,_⟩
  ·cases ax <;> simp [Builtin.append_,run_underlying hu,sizeOf,typeInfo,hi,Builtin.lenOf,Builtin.firstCells,loadCells,loadCellsFrom]
  ·cases ax <;> simp [Builtin.append_,run_underlying hu,sizeOf,typeInfo,hi,Builtin.lenOf,Builtin.firstCells,loadCells,loadCellsFrom,hnc,storeCells]
 ·have hpos:0 < news.length:=by rw [hl];exact Nat.mul_pos om he
  obtain ⟨b0,o0,rfl,_⟩:=hnews 0 news[0] (by simp [hpos])
  have hnews':∀ j u,news[j]? = some u->w.cell? ((⟨b0,o0,none⟩:Addr).add j) = some u:=fun j u hj=>by
   obtain ⟨b',o',ha,hc⟩:=hnews j u hj
   injection ha with ha
   injection ha with h1 h2
   subst h1;subst h2
   rw [zdI];exact hc
  have hmle:mx <= news.length:=by rw [hl];exact Nat.le_mul_of_pos_right _ he
  have hbig:vs.length + news.length <= 140737488355328:=Nat.le_trans (Nat.le_mul_of_pos_right _ hb) hlen
  rcases hp with ⟨rfl,rfl,rfl⟩ | ⟨b,n,cap,rest,rfl,rfl,hh,hvl,hnc,hcm,hcl⟩
  ·have hr:=run_append_nil (P:=P) w t ty e i z hu hi hz ⟨b0,o0,none⟩ mx cx news (by rw [hl,hsz']) hnews' om om (by
    rw [hby]
    have:mx * (T e).bytes <= news.length * (T e).bytes:=Nat.mul_le_mul_right _ hmle
    simp at hlen;omega)
   refine ⟨_,_,some w.heap.size,hr,⟨.inr ⟨w.heap.size,mx,_,(Builtin.zeroCells z.cells (grownCap w mx 0 e - mx)).toList,rfl,rfl,?_,by simpa using hl,grownCap_ge w mx 0 e,grownCap_le_maxLen w mx 0 e (by simp [maxLen];omega),?_⟩,fun b hb _=>?_,sp,rfl,rfl,⟨rfl,fun _=>by first | exact Nat.le_refl _ | exact Nat.le_succ _⟩,fun b h=>.inr (by simp at h;omega)⟩⟩
   ·have:=heap_alloc_new w.drew (.cells (news.toArray ++ Builtin.zeroCells z.cells (grownCap w mx 0 e - mx)) e)
    rw [show (([]:List Value) ++ news ++ (Builtin.zeroCells z.cells (grownCap w mx 0 e - mx)).toList).toArray = news.toArray ++ Builtin.zeroCells z.cells (grownCap w mx 0 e - mx) from Array.toList_inj.1 sp]
    exact this
   ·have hge:=grownCap_ge w mx 0 e
    simp only [List.nil_append,List.length_append,Array.length_toList,size_zeroCells,hzs,hl,<- Nat.add_mul]
    congr 1;omega
   ·exact (Ext.alloc w.drew _).block b hb
  ·have hn1:n <= vs.length:=by rw [hvl];exact Nat.le_mul_of_pos_right _ he
   by_cases hroom:n + mx <= cap
   ·have hr:=run_append_room (P:=P) w t ty e i hu hi b n cap (vs ++ rest).toArray hh ⟨b0,o0,none⟩ mx cx news (by rw [hl,hsz']) hnews' h1 hroom (by
     rw [hsz',<- hvl];simp
     have:(n + mx) * (T e).size <= cap * (T e).size:=Nat.mul_le_mul_right _ hroom
     rw [Nat.add_mul,<- hvl,<- hl,<- hcl] at this
     simpa using this)
    refine ⟨_,_,some b,hr,⟨.inr ⟨b,n + mx,cap,rest.drop news.length,rfl,rfl,?_,?_,hroom,hcm,?_⟩,fun k hk hne=>?_,sp,rfl,rfl,⟨rfl,fun _=>by first | exact Nat.le_refl _ | exact Nat.le_succ _⟩,fun b' h=>.inl h⟩⟩
    ·rw [setRow_heap w b _ _ e _ hh]
     congr 2
     rw [hsz',<- hvl]
     simp [List.take_left',List.drop_append]
    ·rw [List.length_append,hvl,hl,<- Nat.add_mul]
    ·have:(n + mx) * (T e).size <= cap * (T e).size:=Nat.mul_le_mul_right _ hroom
     rw [Nat.add_mul,<- hvl,<- hl] at this
     simp at hcl ⊢;omega
    ·exact setRow_other w b k _ (fun e=>hne (by rw [e]))
   ·have hold:∀ j u,vs[j]? = some u->w.cell? ((⟨b,0,none⟩:Addr).add j) = some u:=fun j u hj=>by
     obtain ⟨hlt,rfl⟩:=List.getElem?_eq_some_iff.1 hj
     rw [zdI,Nat.zero_add,zaL hh (by simp;omega)]
     simp [List.getElem_append_left hlt]
    have hr:=run_append_grow (P:=P) w t ty e i z hu hi hz ⟨b,0,none⟩ n cap vs (by rw [hvl,hsz']) hold ⟨b0,o0,none⟩ mx cx news (by rw [hl,hsz']) hnews' om om (growslice_fits om (by
     rw [hby]
     have:(n + mx) * (T e).bytes <= (vs.length + news.length) * (T e).bytes:=Nat.mul_le_mul_right _ om
     omega))
    refine ⟨_,_,some w.heap.size,hr,⟨.inr ⟨w.heap.size,n + mx,_,(Builtin.zeroCells z.cells (grownCap w (n + mx) cap e - (n + mx))).toList,rfl,rfl,?_,?_,grownCap_ge w _ _ e,grownCap_le_maxLen w _ _ e (by simp [maxLen];omega),?_⟩,fun b hb _=>?_,sp,rfl,rfl,⟨rfl,fun _=>by first | exact Nat.le_refl _ | exact Nat.le_succ _⟩,fun b h=>.inr (by simp at h;omega)⟩⟩
    ·have:=heap_alloc_new w.drew (.cells (vs.toArray ++ news.toArray ++ Builtin.zeroCells z.cells (grownCap w (n + mx) cap e - (n + mx))) e)
     rw [show (vs ++ news ++ (Builtin.zeroCells z.cells (grownCap w (n + mx) cap e - (n + mx))).toList).toArray = vs.toArray ++ news.toArray ++ Builtin.zeroCells z.cells (grownCap w (n + mx) cap e - (n + mx)) from Array.toList_inj.1 sp]
     exact this
    ·rw [List.length_append,hvl,hl,<- Nat.add_mul]
    ·have hge:=grownCap_ge w (n + mx) cap e
     simp only [List.length_append,Array.length_toList,size_zeroCells,hzs,hvl,hl,<- Nat.add_mul]
     congr 1;omega
    ·exact (Ext.alloc w.drew _).block b hb
end
def frz (r:Row):Row:=match r.kind with | .sli e sz _ c=>⟨r.ver,.sli e sz true c⟩ | _=>r
def zis (R:Nat->Row) (ks:List Nat):Nat->Row:=fun k=>if k ∈ ks then frz (R k) else R k
def St.freeze (s:St) (ks:List Nat):St:={ s with rw:=zis s.rw ks }
theorem zqs (r:Row):(frz r).ver = r.ver:=by unfold frz;split <;> rfl
theorem zgd (r:Row):(frz r).kind.nd = r.kind.nd:=by unfold frz;split <;> simp_all [RK.nd]
theorem ztp (r:Row):(frz r).kind.slice = r.kind.slice:=by unfold frz;split <;> simp_all [RK.slice]
theorem zkT (r:Row) (h:(frz r).kind.live = true):r.kind.live = true:=by
 unfold frz at h;split at h <;> simp_all [RK.live]
theorem zgF (R:Nat->Row):zis R [] = R:=by funext k;simp [zis]
theorem St.freeze_nil [zae] (s:St):s.freeze [] = s:=by simp [St.freeze,zgF]
def Env.turn (E:Env) (fz:List Nat) (k:Nat) (r:Row) (m:Option Nat) (v:Value):Env :=
 { R:=zcR (zis E.R fz) k r,rm:=zcR E.rm k m,rv:=zcR E.rv k v,L:=mkL E.X (zcR (zis E.R fz) k r) (zcR E.rm k m),B:=E.B,X:=E.X }
structure OneTurn [zae] (E:Env) (w w':World) (k:Nat) (r:Row) (m:Option Nat) (v:Value):Prop where
 blocks:∀ b,b < w.heap.size->(E.rm k = some b->(E.R k).kind.live = false)->w'.heap[b]? = w.heap[b]?
 fresh:∀ b,m = some b->r.kind.nd = true->w.heap.size <= b \/ (E.rm k = some b/\(E.R k).kind.nd = true/\(r.kind.live = true->(E.R k).kind.live = true))
 ver:(E.R k).ver <= r.ver
 same1:r.ver = (E.R k).ver->r.kind.slice = true->(E.R k).kind.slice = true/\v = E.rv k
 same2:r.ver = (E.R k).ver->r.kind.nd = true->(E.R k).kind.nd = true/\m = E.rm k
 pos:r.kind.nd = true->0 < r.ver
 size:w.heap.size <= w'.heap.size
 os:w'.os = w.os
 tape:w'.tape = w.tape
 output:OutLe w w'
section
variable {G:Ghost} {E:Env} {w w':World} {k:Nat} {r:Row} {m:Option Nat} {v:Value} {fz:List Nat}
theorem zhd [zae] (j:Nat) (h:j ≠ k):(E.turn fz k r m v).R j = if j ∈ fz then frz (E.R j) else E.R j:=by simp [Env.turn,zam _ _ h,zis]
theorem OneTurn.turn [zae] (hw:WOk G E w) (h:OneTurn E w w' k r m v):Turn G E (E.turn fz k r m v) w w' (fun j=>j = k \/ j ∈ fz) where
 L:=rfl
 B:=rfl
 X:=rfl
 keep j hj:=by
  have h1:j ≠ k:=fun e=>hj (.inl e)
  have h2:j ∉ fz:=fun e=>hj (.inr e)
  refine ⟨by rw [zhd j h1,if_neg h2],by simp [Env.turn,zam _ _ h1],by simp [Env.turn,zam _ _ h1]⟩
 blocks b hb hD:=h.blocks b hb fun hk=>hD k (.inl rfl) hk
 fresh j b hD hb hn:=by
  by_cases hj:j = k
  ·subst hj
   simp only [Env.turn,zaf] at hb hn ⊢
   exact h.fresh b hb hn
  ·rw [zhd j hj] at hn ⊢
   simp only [Env.turn,zam _ _ hj] at hb
   have hf:j ∈ fz:=hD.resolve_left hj
   rw [if_pos hf,zgd] at hn
   rw [if_pos hf]
   exact .inr ⟨hb,hn,zkT _⟩
 ver j hD:=by
  by_cases hj:j = k
  ·subst hj;simp only [Env.turn,zaf];exact h.ver
  ·rw [zhd j hj];split <;> simp [zqs]
 same1 j hD he hs:=by
  by_cases hj:j = k
  ·subst hj
   simp only [Env.turn,zaf] at he hs ⊢
   exact h.same1 he hs
  ·rw [zhd j hj] at hs
   simp only [Env.turn,zam _ _ hj]
   split at hs
   ·rw [ztp] at hs;exact ⟨hs,trivial⟩
   ·exact ⟨hs,trivial⟩
 same2 j hD he hs:=by
  by_cases hj:j = k
  ·subst hj
   simp only [Env.turn,zaf] at he hs ⊢
   exact h.same2 he hs
  ·rw [zhd j hj] at hs
   simp only [Env.turn,zam _ _ hj]
   split at hs
   ·rw [zgd] at hs;exact ⟨hs,trivial⟩
   ·exact ⟨hs,trivial⟩
 pos j hD hn:=by
  by_cases hj:j = k
  ·subst hj;simp only [Env.turn,zaf] at hn ⊢;exact h.pos hn
  ·rw [zhd j hj] at hn ⊢
   split at hn
   ·rename_i hf;rw [zgd] at hn;rw [if_pos hf,zqs];exact hw.pos j hn
   ·rename_i hf;rw [if_neg hf];exact hw.pos j hn
 inj j j' b hD hD' hn hn' hb hb':=by
  by_cases hj:j = k
  ·by_cases hj':j' = k
   ·rw [hj,hj']
   ·subst hj
    rw [zhd j' hj'] at hn'
    simp only [Env.turn,zaf] at hb hn
    simp only [Env.turn,zam _ _ hj'] at hb'
    rw [if_pos (hD'.resolve_left hj'),zgd] at hn'
    rcases h.fresh b hb hn with hf | ⟨h1,h2,_⟩
    ·have:=(hw.block hb' hn').1;omega
    ·exact hw.inj _ _ b h2 hn' h1 hb'
  ·rw [zhd j hj,if_pos (hD.resolve_left hj),zgd] at hn
   simp only [Env.turn,zam _ _ hj] at hb
   by_cases hj':j' = k
   ·subst hj'
    simp only [Env.turn,zaf] at hb' hn'
    rcases h.fresh b hb' hn' with hf | ⟨h1,h2,_⟩
    ·have:=(hw.block hb hn).1;omega
    ·exact hw.inj _ _ b hn h2 hb h1
   ·rw [zhd j' hj',if_pos (hD'.resolve_left hj'),zgd] at hn'
    simp only [Env.turn,zam _ _ hj'] at hb'
    exact hw.inj _ _ b hn hn' hb hb'
 size:=h.size
 os:=h.os
 tape:=h.tape
 output:=h.output
theorem OneTurn.rows [zae] (hw:WOk G E w) (h:OneTurn E w w' k r m v) (hlent:∀ j ∈ fz,j ≠ k) (hrow:Lasts w w' E (E.turn fz k r m v)->zav w' (E.turn fz k r m v) G.C k) :
 ∀ j,(j = k \/ j ∈ fz)->zav w' (E.turn fz k r m v) G.C j:=by
 have hl:=(h.turn (fz:=fz) hw).lasts hw
 intro j hD
 by_cases hj:j = k
 ·subst hj;exact hrow hl
 ·have hf:j ∈ fz:=hD.resolve_left hj
  have hr:=hw.rows j
  have hblk:∀ b,E.rm j = some b->(E.R j).kind.nd = true->w'.heap[b]? = w.heap[b]?:=fun b hb hn=>by
   refine h.blocks b (hw.block hb hn).1 fun hkb=>?_
   cases hlv:(E.R k).kind.live with
   | false=>rfl
   | true=>exact absurd (hw.inj j k b hn (RK.nd_of_live hlv) hb hkb) hj
  unfold zav at hr ⊢
  rw [zhd j hj,if_pos hf]
  have e1:(E.turn fz k r m v).rm j = E.rm j:=by simp [Env.turn,zam _ _ hj]
  have e2:(E.turn fz k r m v).rv j = E.rv j:=by simp [Env.turn,zam _ _ hj]
  rw [e1,e2]
  cases hk:(E.R j).kind with
  | dead=>simp [frz,hk]
  | nil=>simp only [hk,frz] at hr ⊢;exact hr
  | box t cells =>
    simp only [hk,frz] at hr ⊢
    obtain ⟨b,vs,h1,h2,h3,h4⟩:=hr
    exact ⟨b,vs,h1,h2,(hblk b h1 (by rw [hk];rfl)).trans h3,h4.mono hl (Nat.le_refl _)⟩
  | sli e sz fz' cells =>
    simp only [hk,frz] at hr ⊢
    rcases hr with hr | ⟨b,n,cap,vs,rest,h1,h2,h3,h4,h5,h6,h7,h8,h9⟩
    ·exact .inl hr
    ·exact .inr ⟨b,n,cap,vs,rest,h1,h2,h3,(hblk b h1 (by rw [hk];rfl)).trans h4,h5,h6,h7,h8,h9.mono hl.bare (Nat.le_refl _)⟩
  | tab e cells =>
    simp only [hk,frz] at hr ⊢
    rcases hr with hr | ⟨b,n,cap,vs,rest,h1,h2,h3,h4,h5,h6,h7,h8,h9⟩
    ·exact .inl hr
    ·exact .inr ⟨b,n,cap,vs,rest,h1,h2,h3,(hblk b h1 (by rw [hk];rfl)).trans h4,h5,h6,h7,h8,h9.mono hl (Nat.le_refl _)⟩
  | mp f =>
    simp only [hk,frz] at hr ⊢
    obtain ⟨b,es,ck,h1,h2,h3,h4,h5⟩:=hr
    exact ⟨b,es,ck,h1,h2,h3,(hblk b h1 (by rw [hk];rfl)).trans h4,h5⟩
end
def isV:PV->Bool | .v x=>x.oneCell' | _=>false
def zds (rw:Nat->Row) (p:PV) (K:List PV->List Nat->Prop):Prop :=
 match p with
 | .v x=>x.oneCell' = true/\K [.v x] []
 | .sl fr sz c=>fr = true/\K [.sl false sz c] []
 | .own k ver=>(rw k).ver = ver/\k < lent/\(match (rw k).kind with | .nil=>K [.sl false 1 []] [] | .sli _ sz _ c=>K [.sl false sz c] [k] | _=>False)
 | .ag c=>(∀ x ∈ c,isV x = true)/\K c []
 | _=>False
theorem zmn [zae] {w w':World} {E E':Env} {lo lo':Nat} {p:PV} {x:Value} (h:isV p = true) (hp:Rep w E lo p x):Rep w' E' lo' p x/\x.oneCell' = true:=by
 cases p <;> simp [isV] at h
 have:=hp.v_eq;subst this
 exact ⟨.v _,h⟩
theorem zmo [zae] {G:Ghost} {rw:Nat->Row} {p:PV} {x:Value} {w:World} {E:Env} {K:List PV->List Nat->Prop} (hk:zds rw p K) (hR:E.R = rw) (hw:WOk G E w) (hp:Rep w E 0 p x) :
 ∃ c f,K c f/\c.length = x.cells.size/\(∀ y ∈ x.cells.toList,y.oneCell' = true)/\(∀ j ∈ f,j < lent/\∃ e sz fz cc,(E.R j).kind = .sli e sz fz cc) /\
  ∀ (w':World) (E':Env),Lasts w w' E E'->E'.B = E.B->(∀ j ∈ f,∀ b,E.rm j = some b->w'.heap[b]? = w.heap[b]?/\¬ E'.L b)->zbu w' E'.bare E'.B c x.cells.toList:=by
 subst hR
 cases hp with
 | v =>
   refine ⟨_,_,hk.2,by rw [zcO hk.1];rfl,fun y hy=>?_,sp,fun w' E' _ _ _=>?_⟩
   ·rw [zcO hk.1] at hy;simp at hy;subst hy;exact hk.1
   ·rw [zcO hk.1];exact ⟨rfl,fun i a b=>by simp at a;subst a;exact .v _⟩
 | @sl _ _ fr sz len cap cells a cs hl hc hm hr hh =>
   obtain ⟨rfl,hk⟩:=hk
   refine ⟨_,_,hk,rfl,fun y hy=>by simp [Value.cells] at hy;subst hy;rfl,sp,fun w' E' hla hB _=>⟨rfl,fun i a b=>?_⟩⟩
   simp at a;subst a
   have e1:E.lo 0 true = E.B:=by simp [Env.lo]
   have e2:E'.bare.lo E'.B false = E'.B:=by simp [Env.lo,Env.bare]
   refine Rep.sl cs hl hc hm (fun i hi=>?_) (fun i hi=>?_)
   ·obtain ⟨b',o,ha,hb',hL,hcell⟩:=hr i hi
    obtain ⟨h1,h2⟩:=hla.cells b' (zjk hcell) hL
    exact ⟨b',o,ha,by rw [e2,hB,<- e1];exact hb',h2,(zfb h1).trans hcell⟩
   ·rw [e2]
    exact (hh i hi).mono hla.bare (by rw [e1,hB];exact Nat.le_refl _)
 | @own _ _ k ver _ hv hx =>
   obtain ⟨h1,h2,hk⟩:=hk
   have hrow:=hw.rows k
   unfold zav at hrow
   cases hkd:(E.R k).kind with
   | dead=>simp only [hkd] at hk
   | box t c=>simp only [hkd] at hk
   | tab e c=>simp only [hkd] at hk
   | mp f=>simp only [hkd] at hk
   | nil =>
     simp only [hkd] at hk hrow
     rw [hx h1 (by rw [hkd];rfl),hrow.2]
     exact ⟨_,_,hk,rfl,fun y hy=>by simp [Value.cells] at hy;subst hy;rfl,sp,fun w' E' _ _ _=>⟨rfl,fun i a b=>by simp at a;subst a;exact zex _ _ _ _ _⟩⟩
   | sli e sz fz c =>
     simp only [hkd] at hk hrow
     have hxe:=hx h1 (by rw [hkd];rfl)
     rcases hrow with ⟨g1,g2,g3⟩ | ⟨b,n,cap,vs,rest,g1,g2,g3,g4,g5,g6,g7,g8,g9⟩
     ·rw [hxe,g2]
      subst g3
      exact ⟨_,_,hk,rfl,fun y hy=>by simp [Value.cells] at hy;subst hy;rfl,fun j hj=>by simp at hj;subst hj;exact ⟨h2,_,_,_,_,hkd⟩,
       fun w' E' _ _ _=>⟨rfl,fun i a b=>by simp at a;subst a;exact zex _ _ _ _ _⟩⟩
     ·rw [hxe,g3]
      refine ⟨_,_,hk,rfl,fun y hy=>by simp [Value.cells] at hy;subst hy;rfl,fun j hj=>by simp at hj;subst hj;exact ⟨h2,_,_,_,_,hkd⟩,fun w' E' hla hB hf=>⟨rfl,fun i a b'=>?_⟩⟩
      simp at a;subst a
      obtain ⟨q1,q2⟩:=hf k sp b g1
      have hB':E.B <= b:=by
       rw [hw.base]
       rcases g2 with g2 | g2
       ·exact g2
       ·exact absurd g2.1 om
      have e2:E'.bare.lo E'.B false = E'.B:=by simp [Env.lo,Env.bare]
      refine Rep.sl (fun i=>vs.getD i undef) (g9.1.trans g5) g6 g7 (fun i hi=>⟨b,0,rfl,by rw [e2,hB];exact hB',q2,?_⟩) (fun i hi=>?_)
      ·have hi':i < vs.length:=by rw [<- g9.1];exact hi
       rw [Nat.zero_add,zaL (q1.trans g4) (by simp;omega)]
       simp [List.getElem_append_left hi',List.getD,hi']
      ·have hi':i < vs.length:=by rw [<- g9.1];exact hi
       have e:vs.getD i undef = vs[i]:=by simp [List.getD,hi']
       rw [e,e2]
       exact (g9.2 i hi hi').mono hla.bare (by rw [hB];exact Nat.le_refl _)
 | @ag _ _ c vs hl hh =>
   refine ⟨_,_,hk.2,by simpa [Value.cells] using hl,fun y hy=>?_,sp,fun w' E' _ _ _=>⟨hl,fun i a b=>?_⟩⟩
   ·obtain ⟨i,hi,rfl⟩:=List.getElem_of_mem hy
    have hi':i < c.length:=by rw [hl];exact hi
    exact (zmn (w':=w) (E':=E) (lo':=0) (hk.1 _ (List.getElem_mem hi')) (hh i hi' hi)).2
   ·exact (zmn (hk.1 _ (List.getElem_mem a)) (hh i a b)).1
 | ref=>exact hk.elim
 | eref=>exact hk.elim
 | tup=>exact hk.elim
 | clo=>exact hk.elim
 | junk=>exact hk.elim
def spl (c:List PV) (off:Nat) (new:List PV):List PV :=
 match new with
 | [p]=>c.set off p
 | _=>c.take off ++ new ++ c.drop (off + new.length)
theorem zHI (c:List PV) (off:Nat) (new:List PV) (h:off + new.length <= c.length):spl c off new = c.take off ++ new ++ c.drop (off + new.length):=by
 unfold spl
 split
 ·rename_i p
  have:off < c.length:=by simp at h;omega
  rw [List.set_eq_take_append_cons_drop,if_pos this];simp
 ·rfl
def zj1 (rw:Nat->Row) (p:PV):Prop :=
 match p with
 | .v x=>x.oneCell' = true
 | .sl _ _ _=>True
 | .eref _ _ _=>True
 | .clo _ _=>True
 | .own k ver=>(rw k).ver = ver/\(rw k).kind.slice = true
 | .ref k ver _=>(rw k).ver = ver/\(rw k).kind.nd = true
 | _=>False
theorem zjg [zae] {G:Ghost} {w:World} {E:Env} {lo:Nat} {p:PV} {x:Value} (h:zj1 E.R p) (hw:WOk G E w) (hp:Rep w E lo p x):x.oneCell' = true:=by
 cases hp with
 | v=>exact h
 | sl=>rfl
 | eref=>rfl
 | clo=>rfl
 | own hv hx=>rw [hx h.1 h.2];exact zmp hw h.2
 | ref hv hx=>obtain ⟨b,_,he⟩:=hx h.1 h.2;rw [he];rfl
 | ag=>exact h.elim
 | tup=>exact h.elim
 | junk=>exact h.elim
def zto (T:Tab) (s:St) (t:TypeId) (ad val:PV) (K:St->Prop):Prop :=
 0 < (T t).size/\match ad with
 | .ref k ver off=>(s.rw k).ver = ver/\match (s.rw k).kind with
   | .box bt c=>za5 s.rw val fun new=>new.length = (T t).size/\off + new.length <= c.length/\(∀ p ∈ new,zj1 s.rw p)/\K (s.row k ⟨ver,.box bt (spl c off new)⟩)
   | .sli e sz false c=>zds s.rw val fun new fz=>new.length = (T t).size/\off + new.length <= c.length/\k ∉ fz/\K ((s.freeze fz).row k ⟨ver,.sli e sz false (spl c off new)⟩)
   | .tab e c=>za5 s.rw val fun new=>new.length = (T t).size/\off + new.length <= c.length/\(∀ p ∈ new,zj1 s.rw p)/\K (s.row k ⟨ver,.tab e (spl c off new)⟩)
   | _=>False
 | _=>False
def zud:PV->Bool | .v x=>x.oneCell' | .sl _ _ _=>true | .eref _ _ _=>true | .clo _ _=>true | _=>false
def zdG (s:St) (d k:Nat) (kd:RK):St:=(s.row k ⟨(s.rw k).ver + 1,kd⟩).put (some d) (.own k ((s.rw k).ver + 1))
def zmm (T:Tab) (s:St) (d:Nat) (t t2:TypeId) (x y:PV) (K:St->Prop):Prop :=
 t = t2/\0 < (T t).size/\match (T t).k with
 | .sli e=>0 < (T e).size/\0 < (T e).bytes/\slK s.rw y fun fr sz news=>sz = (T e).size/\((∀ p ∈ news,isV p = true) \/ (fr = true/\∀ p ∈ news,zud p = true)) /\
  (match x with
  | .v u=>zey u = true/\news.length * (T e).bytes <= 140737488355328/\K (zcX s d (.sli e (T e).size false news) (fun v=>.own d v))
  | .own k ver=>(s.rw k).ver = ver/\(match (s.rw k).kind with
   | .nil=>news.length * (T e).bytes <= 140737488355328/\K (zdG s d k (.sli e (T e).size false news))
   | .sli e' sz' false c=>e' = e/\sz' = (T e).size/\(c.length + news.length) * (T e).bytes <= 140737488355328/\K (zdG s d k (.sli e (T e).size false (c ++ news)))
   | _=>False)
  | _=>False)
 | _=>False
section
variable {P:Program} {T:Tab} {G:Ghost} {s:St} {E:Env} {a:Act} {w w':World} {o:Oper}
theorem zy8 {K:Act->World->Prop} {Q:Exit->Act->World->Prop} (h:(execOp a.eval o).run P w = .ok .skip w') (hk:K (a.put o.dst undef) w'):o.wp P a w K Q:=by
 unfold Oper.wp;rw [h];exact hk
theorem zgE [zae] {fz:List Nat} {k:Nat} {r:Row} {m:Option Nat} {v x:Value} {p:PV} (hs:SimE G E s a w) (hrun:(execOp a.eval o).run P w = .ok (.value x) w') (ht:OneTurn E w w' k r m v)
 (hf:∀ j ∈ fz,j ≠ k) (hrow:Lasts w w' E (E.turn fz k r m v)->zav w' (E.turn fz k r m v) G.C k) (hp:Rep w' (E.turn fz k r m v) 0 p x) (hd:∀ x,o.dst = some x->x < G.n)
 {K:Act->World->Prop} {Q:Exit->Act->World->Prop} (hK:∀ a' w',Sim G (((s.freeze fz).row k r).put o.dst p) a' w'->K a' w'):o.wp P a w K Q:=by
 refine zeO hs hrun (ht.turn hs.wok) (ht.rows hs.wok hf hrow) hp hd (fun a' w' h=>hK a' w' ?_)
 have e:(E.turn fz k r m v).R = ((s.freeze fz).row k r).rw:=by
  simp only [Env.turn,hs.rw];rfl
 rw [e] at h
 exact h
theorem zdH [zae] {fz:List Nat} {k:Nat} {r:Row} {m:Option Nat} {v:Value} (hs:SimE G E s a w) (hrun:(execOp a.eval o).run P w = .ok .skip w') (ht:OneTurn E w w' k r m v)
 (hf:∀ j ∈ fz,j ≠ k) (hrow:Lasts w w' E (E.turn fz k r m v)->zav w' (E.turn fz k r m v) G.C k) (hd:o.dst = none)
 {K:Act->World->Prop} {Q:Exit->Act->World->Prop} (hK:∀ a' w',Sim G ((s.freeze fz).row k r) a' w'->K a' w'):o.wp P a w K Q:=by
 refine zy8 hrun (hK _ _ ?_)
 have e:(E.turn fz k r m v).R = ((s.freeze fz).row k r).rw:=by
  simp only [Env.turn,hs.rw];rfl
 have:=(ht.turn (fz:=fz) hs.wok).sim hs (ht.rows hs.wok hf hrow)
 rw [e] at this
 rw [hd]
 exact ⟨_,this⟩
theorem zgc [zae] (hT:T.Ok P) {t bt:TypeId} (ht:0 < (T t).size) {b off:Nat} {cur:Array Value} {x:Value} (hh:w.heap[b]? = some (.cells cur bt (0,0))) (hsz:x.cells.size = (T t).size)
 (hfit:off + x.cells.size <= cur.size) (h1:∀ y ∈ x.cells.toList,y.oneCell' = true) :
 (Instr.storeAt t (.pointer (some ⟨b,off,none⟩)) x).run P w = .ok () (w.setRow b (cur.toList.take off ++ x.cells.toList ++ cur.toList.drop (off + x.cells.size)).toArray):=by
 have hs:=za0 (hT t ht) w
 have hst:=run_storeCells_at P b off bt x.cells.toList 0 cur w hh (by simpa using hfit) h1
 simp [Instr.storeAt,Instr.sureAddr,storeVar,hs,hsz]
 simpa [hsz] using hst
theorem zqr [zae] {E':Env} {lo:Nat} {c new:List PV} {vs xs:List Value} {off:Nat} (h1:zbu w E' lo c vs) (h2:zbu w E' lo new xs) (hfit:off + new.length <= c.length) :
 zbu w E' lo (spl c off new) (vs.take off ++ xs ++ vs.drop (off + xs.length)):=by
 rw [zHI _ _ _ hfit]
 refine zbu.append (zbu.append ⟨by simp [h1.1],fun i p q=>?_⟩ h2) ⟨by simp [h1.1,h2.1],fun i p q=>?_⟩
 ·simp only [List.getElem_take];exact h1.2 i _ _
 ·simp only [List.getElem_drop]
  have:=h1.2 (off + new.length + i) (by simp at p;omega) (by simp at q;have:=h2.1;omega)
  simpa [h2.1] using this
theorem zuO [zae] (hT:T.Ok P) {t:TypeId} {ad val:Operand} {K:St->Prop} (ho:o.op = .store t ad val) (hdst:o.dst = none) (hk:zto T s t (s.ev ad) (s.ev val) K) :
 ∃ s',K s'/\za9 P G s o s':=by
 obtain ⟨ht,hk⟩:=hk
 split at hk
 ·rename_i k ver off hev
  obtain ⟨hver,hk⟩:=hk
  split at hk
  ·rename_i bt c hkind
   have hdet:∃ new,za5 s.rw (s.ev val) (· = new)/\(new.length = (T t).size/\off + new.length <= c.length/\(∀ p ∈ new,zj1 s.rw p)/\K (s.row k ⟨ver,.box bt (spl c off new)⟩)):=by
    unfold za5 at hk ⊢
    split at hk <;> first
     | exact ⟨_,rfl,hk⟩
     | exact ⟨_,⟨hk.1,rfl⟩,hk.2⟩
     | exact ⟨_,⟨hk.1,hk.2.1,rfl⟩,hk.2.2⟩
     | exact hk.elim
   obtain ⟨new,hc,hn,hfit,hone,hk⟩:=hdet
   refine ⟨_,hk,fun a w hs K' Q hK=>?_⟩
   obtain ⟨E,hs⟩:=hs
   have hR:=hs.rw
   have hrw:=hs.wok
   have hpa:=zaB hs.slots ad
   have hpv:=zaB hs.slots val
   rw [hev] at hpa
   have hkind':(E.R k).kind = .box bt c:=by rw [hR];exact hkind
   have hver':(E.R k).ver = ver:=by rw [hR];exact hver
   obtain ⟨c',rfl,hrep,_⟩:=zeh hc hR hrw hpv
   generalize hva:a.eval ad = va at hpa
   cases hpa with
   | ref hv hx =>
     obtain ⟨b,hb,rfl⟩:=hx hver' (by rw [hkind'];rfl)
     have hrow:=hrw.rows k
     unfold zav at hrow
     simp only [hkind'] at hrow
     obtain ⟨b',vs,g1,g2,g3,g4⟩:=hrow
     rw [hb] at g1;cases g1
     have hxs:(a.eval val).cells.size = (T t).size:=by rw [<- hn,hrep.1];simp
     have h1:∀ y ∈ (a.eval val).cells.toList,y.oneCell' = true:=fun y hy=>by
      obtain ⟨i,hi,rfl⟩:=List.getElem_of_mem hy
      have hi':i < c'.length:=by rw [hrep.1];exact hi
      exact zjg (by rw [hR];exact hone _ (List.getElem_mem hi')) hrw (hrep.2 i hi' hi)
     have hrun:=zgc (P:=P) hT ht g3 hxs (by rw [hxs,<- hn];simp;rw [<- g4.1];exact hfit) h1
     have hturn:OneTurn E w (w.setRow b (vs.toArray.toList.take off ++ (a.eval val).cells.toList ++ vs.toArray.toList.drop (off + (a.eval val).cells.size)).toArray) k ⟨ver,.box bt (spl c off c')⟩ (E.rm k) (E.rv k) :=
      ⟨fun b' hb' hne=>setRow_other w b b' _ (fun e=>by
       subst e
       have:=hne hb
       rw [hkind'] at this;cases this),
       fun b' hb' _=>.inr ⟨hb',by rw [hkind'];rfl,fun _=>by rw [hkind'];rfl⟩,by rw [hver'];exact Nat.le_refl _,
       fun _ h=>(by cases h),fun _ _=>⟨by rw [hkind'];rfl,rfl⟩,fun _=>by show 0 < ver;rw [<- hver'];exact hrw.pos k (by rw [hkind'];rfl),sp,rfl,rfl,⟨rfl,fun _=>by first | exact Nat.le_refl _ | exact Nat.le_succ _⟩⟩
     refine zdH (fz:=[]) hs ?_ hturn sp (fun hl=>?_) hdst (fun a' w' h=>hK a' w' ?_)
     ·simp [execOp,ho,hva,hrun]
     ·unfold zav
      simp only [Env.turn,zaf]
      refine ⟨b,_,hb,g2,setRow_heap w b _ _ bt _ g3,?_⟩
      have hsp:=zqr (g4.mono hl (Nat.le_refl _)) (hrep.mono hl (Nat.le_refl _)) hfit
      simpa [Env.turn] using hsp
     ·rw [St.freeze_nil] at h;exact h
  ·rename_i e sz c hkind
   have hdet:∃ new fz,zds s.rw (s.ev val) (fun a b=>a = new/\b = fz)/\(new.length = (T t).size/\off + new.length <= c.length/\k ∉ fz/\K ((s.freeze fz).row k ⟨ver,.sli e sz false (spl c off new)⟩)):=by
    unfold zds at hk ⊢
    split at hk
    ·exact ⟨_,_,⟨hk.1,rfl,rfl⟩,hk.2⟩
    ·exact ⟨_,_,⟨hk.1,rfl,rfl⟩,hk.2⟩
    ·obtain ⟨q1,q2,hk⟩:=hk
     split at hk
     ·exact ⟨_,_,⟨q1,q2,rfl,rfl⟩,hk⟩
     ·exact ⟨_,_,⟨q1,q2,rfl,rfl⟩,hk⟩
     ·exact hk.elim
    ·exact ⟨_,_,⟨hk.1,rfl,rfl⟩,hk.2⟩
    ·exact hk.elim
   obtain ⟨new,fz,hc,hn,hfit,hkf,hk⟩:=hdet
   refine ⟨_,hk,fun a w hs K' Q hK=>?_⟩
   obtain ⟨E,hs⟩:=hs
   have hR:=hs.rw
   have hrw:=hs.wok
   have hpa:=zaB hs.slots ad
   have hpv:=zaB hs.slots val
   rw [hev] at hpa
   have hkind':(E.R k).kind = .sli e sz false c:=by rw [hR];exact hkind
   have hver':(E.R k).ver = ver:=by rw [hR];exact hver
   obtain ⟨c',f',⟨rfl,rfl⟩,hlen,h1,hfz,hrep⟩:=zmo hc hR hrw hpv
   generalize hva:a.eval ad = va at hpa
   cases hpa with
   | ref hv hx =>
     obtain ⟨b,hb,rfl⟩:=hx hver' (by rw [hkind'];rfl)
     have hrow:=hrw.rows k
     unfold zav at hrow
     simp only [hkind'] at hrow
     rcases hrow with ⟨g1,_,_⟩ | ⟨b',n,cap,vs,rest,g1,g2,g3,g4,g5,g6,g7,g8,g9⟩
     ·rw [hb] at g1;cases g1
     ·rw [hb] at g1;cases g1
      have hxs:(a.eval val).cells.size = (T t).size:=by rw [<- hn,hlen]
      have hfit':off + (a.eval val).cells.size <= vs.length:=by rw [<- hlen,<- g9.1];exact hfit
      have hrun:=zgc (P:=P) (off:=off) hT ht g4 hxs (by simp;omega) h1
      have hturn:OneTurn E w (w.setRow b ((vs ++ rest).toArray.toList.take off ++ (a.eval val).cells.toList ++ (vs ++ rest).toArray.toList.drop (off + (a.eval val).cells.size)).toArray) k ⟨ver,.sli e sz false (spl c off c')⟩ (E.rm k) (E.rv k) :=
       ⟨fun b' hb' hne=>setRow_other w b b' _ (fun e=>by
        subst e
        have:=hne hb
        rw [hkind'] at this;cases this),
        fun b' hb' _=>.inr ⟨hb',by rw [hkind'];rfl,fun _=>by rw [hkind'];rfl⟩,by rw [hver'];exact Nat.le_refl _,
        fun _ _=>⟨by rw [hkind'];rfl,rfl⟩,fun _ _=>⟨by rw [hkind'];rfl,rfl⟩,fun _=>by show 0 < ver;rw [<- hver'];exact hrw.pos k (by rw [hkind'];rfl),sp,rfl,rfl,⟨rfl,fun _=>by first | exact Nat.le_refl _ | exact Nat.le_succ _⟩⟩
      have hne:∀ j ∈ f',j ≠ k:=fun j hj e=>hkf (e ▸ hj)
      refine zdH (fz:=f') hs ?_ hturn hne (fun hl=>?_) hdst (fun a' w' h=>hK a' w' h)
      ·simp [execOp,ho,hva,hrun]
      ·unfold zav
       simp only [Env.turn,zaf]
       have hnew:=hrep _ _ hl rfl (fun j hj b' hb'=>by
        obtain ⟨q1,e',sz',fz',cc,q2⟩:=hfz j hj
        have hbb:b' ≠ b:=fun e=>hne j hj (hrw.inj j k b (by rw [q2];rfl) (by rw [hkind'];rfl) (by rw [<- e];exact hb') hb)
        refine ⟨setRow_other w b b' _ hbb,fun hL=>?_⟩
        rcases hL with ⟨j',r1,r2⟩ | hX
        rotate_left
        ·exact hs.wok.apart j b' (by rw [q2];rfl) hb' (hs.wok.xs ▸ hX)
        by_cases hj':j' = k
        ·subst hj'
         simp only [zaf] at r1
         rw [hb] at r1;cases r1;exact hbb rfl
        ·simp only [zam _ _ hj'] at r1 r2
         have r3:(E.R j').kind.live = true:=by
          unfold zis at r2;split at r2
          ·exact zkT _ r2
          ·exact r2
         have:=hrw.inj j j' b' (by rw [q2];rfl) (RK.nd_of_live r3) hb' r1
         subst this
         unfold zis at r2
         rw [if_pos hj] at r2
         simp [frz,q2,RK.live] at r2)
       refine .inr ⟨b,n,cap,vs.take off ++ (a.eval val).cells.toList ++ vs.drop (off + (a.eval val).cells.toList.length),rest,hb,g2,g3,?_,?_,g6,g7,?_,?_⟩
       ·rw [setRow_heap w b _ _ e _ g4]
        congr 3
        simp [List.take_append_of_le_length (by omega:off <= vs.length),List.drop_append_of_le_length hfit']
       ·simp at hfit' ⊢;omega
       ·simp at g8 hfit' ⊢;omega
       ·exact zqr (g9.mono hl.bare (Nat.le_refl _)) hnew hfit
  ·rename_i e c hkind
   have hdet:∃ new,za5 s.rw (s.ev val) (· = new)/\(new.length = (T t).size/\off + new.length <= c.length/\(∀ p ∈ new,zj1 s.rw p)/\K (s.row k ⟨ver,.tab e (spl c off new)⟩)):=by
    unfold za5 at hk ⊢
    split at hk <;> first
     | exact ⟨_,rfl,hk⟩
     | exact ⟨_,⟨hk.1,rfl⟩,hk.2⟩
     | exact ⟨_,⟨hk.1,hk.2.1,rfl⟩,hk.2.2⟩
     | exact hk.elim
   obtain ⟨new,hc,hn,hfit,hone,hk⟩:=hdet
   refine ⟨_,hk,fun a w hs K' Q hK=>?_⟩
   obtain ⟨E,hs⟩:=hs
   have hR:=hs.rw
   have hrw:=hs.wok
   have hpa:=zaB hs.slots ad
   have hpv:=zaB hs.slots val
   rw [hev] at hpa
   have hkind':(E.R k).kind = .tab e c:=by rw [hR];exact hkind
   have hver':(E.R k).ver = ver:=by rw [hR];exact hver
   obtain ⟨c',rfl,hrep,_⟩:=zeh hc hR hrw hpv
   generalize hva:a.eval ad = va at hpa
   cases hpa with
   | ref hv hx =>
     obtain ⟨b,hb,rfl⟩:=hx hver' (by rw [hkind'];rfl)
     have hrow:=hrw.rows k
     unfold zav at hrow
     simp only [hkind'] at hrow
     rcases hrow with ⟨g1,_,_⟩ | ⟨b',n',cap,vs,rest,g1,g2,g3,g4,g5,g6,g7,g8,g9⟩
     ·rw [hb] at g1;cases g1
     rw [hb] at g1;cases g1
     have hxs:(a.eval val).cells.size = (T t).size:=by rw [<- hn,hrep.1];simp
     have h1:∀ y ∈ (a.eval val).cells.toList,y.oneCell' = true:=fun y hy=>by
      obtain ⟨i,hi,rfl⟩:=List.getElem_of_mem hy
      have hi':i < c'.length:=by rw [hrep.1];exact hi
      exact zjg (by rw [hR];exact hone _ (List.getElem_mem hi')) hrw (hrep.2 i hi' hi)
     have hfit':off + (a.eval val).cells.size <= vs.length:=by rw [hxs,<- hn,<- g9.1];exact hfit
     have hrun:=zgc (P:=P) (off:=off) hT ht g4 hxs (by simp;omega) h1
     have hturn:OneTurn E w (w.setRow b ((vs ++ rest).toArray.toList.take off ++ (a.eval val).cells.toList ++ (vs ++ rest).toArray.toList.drop (off + (a.eval val).cells.size)).toArray) k ⟨ver,.tab e (spl c off c')⟩ (E.rm k) (E.rv k) :=
      ⟨fun b' hb' hne=>setRow_other w b b' _ (fun e=>by
       subst e
       have:=hne hb
       rw [hkind'] at this;cases this),
       fun b' hb' _=>.inr ⟨hb',by rw [hkind'];rfl,fun _=>by rw [hkind'];rfl⟩,by rw [hver'];exact Nat.le_refl _,
       fun _ _=>⟨by rw [hkind'];rfl,rfl⟩,fun _ _=>⟨by rw [hkind'];rfl,rfl⟩,fun _=>by show 0 < ver;rw [<- hver'];exact hrw.pos k (by rw [hkind'];rfl),sp,rfl,rfl,⟨rfl,fun _=>by first | exact Nat.le_refl _ | exact Nat.le_succ _⟩⟩
     refine zdH (fz:=[]) hs ?_ hturn sp (fun hl=>?_) hdst (fun a' w' h=>hK a' w' ?_)
     ·simp [execOp,ho,hva,hrun]
     ·unfold zav
      simp only [Env.turn,zaf]
      refine .inr ⟨b,n',cap,vs.take off ++ (a.eval val).cells.toList ++ vs.drop (off + (a.eval val).cells.toList.length),rest,hb,g2,g3,?_,?_,g6,g7,?_,?_⟩
      ·rw [setRow_heap w b _ _ e _ g4]
       congr 3
       simp [List.take_append_of_le_length (by omega:off <= vs.length),List.drop_append_of_le_length hfit']
      ·simp at hfit' ⊢;omega
      ·simp at g8 hfit' ⊢;omega
      ·have hsp:=zqr (g9.mono hl (Nat.le_refl _)) (hrep.mono hl (Nat.le_refl _)) hfit
       simpa [Env.turn] using hsp
     ·rw [St.freeze_nil] at h;exact h
  ·exact hk.elim
 ·exact hk.elim
end
section
variable {P:Program} {T:Tab} {G:Ghost} {s:St} {E:Env} {a:Act} {w w':World} {o:Oper}
theorem zcW {t t2:TypeId} {x y:Operand} (ho:o.op = .call ⟨.builtin .append,#[x,y],#[t,t2]⟩) {v:Value} (h:(Builtin.append_ #[t,t2] o.type #[a.eval x,a.eval y]).run P w = .ok v w') :
 (execOp a.eval o).run P w = .ok (.value v) w':=by
 simp [execOp,ho,resolve,invoke,builtin,h]
theorem zj0 [zae] {k:Nat} {e sz:Nat} {c:List PV} {m m':Option Nat} {v':Value} {vs:List Value} {fz:Bool} (hap:Appended w w' e sz m m' v' vs) (hw:WOk G E w) (hm:m = E.rm k) (hC:∀ b,E.rm k = some b->(E.R k).kind.nd = true->G.C k b)
 (hnd:m ≠ none->(E.R k).kind.nd = true)
 {E':Env} (h1:E'.rm k = m') (h2:E'.rv k = v') (h3:(E'.R k).kind = .sli e sz fz c) (hrep:zbu w' E'.bare E'.B c vs):zav w' E' G.C k:=by
 unfold zav
 simp only [h3]
 rcases hap.phys with ⟨q1,q2,q3⟩ | ⟨b,n,cap,rest,q1,q2,q3,q4,q5,q6,q7⟩
 ·refine .inl ⟨h1.trans q1,h2.trans q2,?_⟩
  subst q3
  exact List.eq_nil_of_length_eq_zero hrep.1
 ·refine .inr ⟨b,n,cap,vs,rest,h1.trans q1,?_,h2.trans q2,q3,q4,q5,q6,q7,hrep⟩
  rcases hap.fresh b q1 with hf | hf
  ·exact hC b (hm ▸ hf) (hnd (by rw [hf];simp))
  ·exact .inl (Nat.le_trans hw.kept.size hf)
theorem zy7 {E0:Env} {lo sz:Nat} {c:List PV} {x:Value} (h:zPh w E0 lo sz c x):∃ ax n cap vs,x = .slice ax n cap/\vs.length = n * sz/\zbu w E0.bare lo c vs /\
 (∀ i u,vs[i]? = some u->∃ b o,ax = some ⟨b,o,none⟩/\w.cell? ⟨b,o + i,none⟩ = some u):=by
 obtain ⟨ax,n,cap,cs,rfl,hl,_,_,hc⟩:=h
 refine ⟨ax,n,cap,(List.range c.length).map cs,rfl,by simpa using hl,⟨sp,fun i p q=>?_⟩,fun i u hu=>?_⟩
 ·obtain ⟨_,_,_,_,hr⟩:=hc i p
  simpa using hr
 ·simp only [List.getElem?_map,Option.map_eq_some_iff] at hu
  obtain ⟨j,hj,rfl⟩:=hu
  obtain ⟨hlt,he⟩:=List.getElem?_eq_some_iff.1 hj
  have hi:i < c.length:=by simpa using hlt
  obtain rfl:i = j:=by simpa using he
  obtain ⟨b,o,ha,hcell,_⟩:=hc i hi
  exact ⟨b,o,ha,hcell⟩
theorem zFm [zae] {lo:Nat} {p:PV} {x:Value} (h:zud p = true) (hp:Rep w E lo p x):x.oneCell' = true:=by
 cases p <;> simp [zud] at h
 ·rw [hp.v_eq];exact h
 all_goals (cases hp;rfl)
theorem ztm [zae] {y:PV} {fr:Bool} {sz:Nat} {news:List PV} {x:Value} (hs:slK s.rw y (fun a b c=>a = fr/\b = sz/\c = news)) (hR:E.R = s.rw) (hw:WOk G E w) (hp:Rep w E 0 y x)
 (hone:(∀ p ∈ news,isV p = true) \/ (fr = true/\∀ p ∈ news,zud p = true)) :
 ∃ ax n cap vs,x = .slice ax n cap/\vs.length = n * sz/\(∀ u ∈ vs,u.oneCell' = true)/\(∀ i u,vs[i]? = some u->∃ b o,ax = some ⟨b,o,none⟩/\w.cell? ⟨b,o + i,none⟩ = some u) /\
  zbu w E.bare E.B news vs:=by
 obtain ⟨fr',sz',news',⟨e1,e2,e3⟩,hat⟩:=ziu hs hR hw hp
 rw [e1,e2,e3] at hat
 obtain ⟨ax,n,cap,vs,h1,h2,h3,h4⟩:=zy7 hat
 have hq:∀ p ∈ news,zud p = true:=by
  rcases hone with h | h
  ·intro p hp
   have:=h p hp
   cases p <;> simp [isV,zud] at this ⊢
   exact this
  ·exact h.2
 refine ⟨ax,n,cap,vs,h1,h2,fun u hu=>?_,h4,?_⟩
 ·obtain ⟨i,hi,rfl⟩:=List.getElem_of_mem hu
  have hi':i < news.length:=by rw [h3.1];exact hi
  exact zFm (hq _ (List.getElem_mem hi')) (h3.2 i hi' hi)
 ·rcases hone with h | ⟨rfl,_⟩
  ·exact ⟨h3.1,fun i p q=>(zmn (h _ (List.getElem_mem p)) (h3.2 i p q)).1⟩
  ·exact ⟨h3.1,fun i p q=>(h3.2 i p q).low (by simp [Env.lo])⟩
theorem ztn [zae] (hT:T.Ok P) {d:Nat} {t t2:TypeId} {x y:Operand} {K:St->Prop} (ho:o.op = .call ⟨.builtin .append,#[x,y],#[t,t2]⟩) (hdst:o.dst = some d) (hd:d < G.n)
 (hk:zmm T s d t t2 (s.ev x) (s.ev y) K):∃ s',K s'/\za9 P G s o s':=by
 obtain ⟨rfl,ht,hk⟩:=hk
 split at hk
 ·rename_i e hte
  obtain ⟨he,hby,hk⟩:=hk
  obtain ⟨fr,sz,news,⟨rfl,hfr,hk⟩,hdet⟩:=zuP hk
  have hsrc:=hdet (fun a b c=>a = fr/\b = (T e).size/\c = news) ⟨rfl,rfl,rfl⟩
  split at hk
  ·
   rename_i u hev
   obtain ⟨hnil,hlen,hk⟩:=hk
   refine ⟨_,hk,fun a w hs K' Q hK=>?_⟩
   obtain ⟨E,hs⟩:=hs
   have hx:=zaB hs.slots x
   rw [hev] at hx
   have hxe:=hx.v_eq
   rw [zfa hnil] at hxe
   obtain ⟨ax,n,cap,vs,h1,h2,h3,h4,h5⟩:=ztm hsrc hs.rw hs.wok (zaB hs.slots y) hfr
   obtain ⟨v',w',m',hrun,hap⟩:=zht (P:=P) hT (vs:=[]) (m:=none) (v:=.slice none 0 0) o.type ht hte he hby (.inl ⟨rfl,rfl,rfl⟩) h2 h4 h3 (by rw [<- h5.1];simpa using hlen)
   rw [<- hxe,<- h1] at hrun
   have hx':Ext w w':=⟨hap.os,hap.tape,hap.output,hap.size,fun b hb=>hap.block b hb sp⟩
   have hm':∀ b,m' = some b->w.heap.size <= b:=fun b hb=>(hap.fresh b hb).resolve_left sp
   have htn:=zgG (G:=G) (E:=E) (k:=d) (kd:=.sli e (T e).size false news) (m:=m') (v:=v') hx' hm'
   refine zeO (E':=E.row d _ _ _) (p:=.own d ((s.rw d).ver + 1)) hs (zcW ho hrun) htn (fun k hk'=>?_) ?_ (by simp [hdst,hd]) (fun a' w' h=>hK a' w' ?_)
   ·subst hk'
    unfold zav
    simp only [Env.row,zaf]
    have hrep:=h5.mono (htn.lasts hs.wok).bare (Nat.le_refl _)
    rcases hap.phys with ⟨q1,q2,q3⟩ | ⟨b,n,cap,rest,q1,q2,q3,q4,q5,q6,q7⟩
    ·refine .inl ⟨q1,q2,?_⟩
     simp at q3
     subst q3
     exact List.eq_nil_of_length_eq_zero h5.1
    ·exact .inr ⟨b,n,cap,vs,rest,q1,.inl (Nat.le_trans hs.wok.kept.size (hm' b q1)),q2,by simpa using q3,by simpa using q4,q5,q6,by simpa using q7,hrep⟩
   ·exact .own (by simp [Env.row,zaf,hs.rw]) fun _ _=>by simp [Env.row,zaf]
   ·have e':(E.row d ⟨(E.R d).ver + 1,.sli e (T e).size false news⟩ m' v').R = (s.row d ⟨(s.rw d).ver + 1,.sli e (T e).size false news⟩).rw:=by
     simp only [Env.row,hs.rw];rfl
    rw [e',hdst] at h
    exact h
  ·
   rename_i k ver hev
   obtain ⟨hver,hk⟩:=hk
   have main:∀ (c:List PV),((s.rw k).kind = .nil/\c = [] \/ (s.rw k).kind = .sli e (T e).size false c)->(c.length + news.length) * (T e).bytes <= 140737488355328->K (zdG s d k (.sli e (T e).size false (c ++ news))) ->
    ∃ s',K s'/\za9 P G s o s':=by
    intro c hkind hlen hk
    refine ⟨_,hk,fun a w hs K' Q hK=>?_⟩
    obtain ⟨E,hs⟩:=hs
    have hR:=hs.rw
    have hx:=zaB hs.slots x
    rw [hev] at hx
    obtain ⟨ax,n,cap,ws,h1,h2,h3,h4,h5⟩:=ztm hsrc hs.rw hs.wok (zaB hs.slots y) hfr
    have hslice:(E.R k).kind.slice = true:=by rw [hR];rcases hkind with ⟨h,_⟩ | h <;> rw [h] <;> rfl
    have hnd:=RK.nd_of_slice hslice
    obtain ⟨vs,hphys,hrepc⟩:∃ vs,zKp w e (T e).size (E.rm k) (E.rv k) vs/\zbu w E.bare E.B c vs:=by
     have hrow:=hs.wok.rows k
     unfold zav at hrow
     rw [hR] at hrow
     rcases hkind with ⟨h,rfl⟩ | h
     ·simp only [h] at hrow
      exact ⟨[],.inl ⟨hrow.1,hrow.2,rfl⟩,⟨rfl,fun i p=>absurd p sp⟩⟩
     ·simp only [h] at hrow
      rcases hrow with ⟨g1,g2,g3⟩ | ⟨b,n,cap,vs,rest,g1,g2,g3,g4,g5,g6,g7,g8,g9⟩
      ·subst g3;exact ⟨[],.inl ⟨g1,g2,rfl⟩,⟨rfl,fun i p=>absurd p sp⟩⟩
      ·exact ⟨vs,.inr ⟨b,n,cap,rest,g1,g3,g4,g5,g6,g7,g8⟩,g9⟩
    have hxe:a.eval x = E.rv k:=by cases hx with | own hv hx=>exact hx (by rw [hR];exact hver) hslice
    obtain ⟨v',w',m',hrun,hap⟩:=zht (P:=P) hT o.type ht hte he hby hphys h2 h4 h3 (by rw [<- hrepc.1,<- h5.1];exact hlen)
    rw [<- hxe,<- h1] at hrun
    have hver':(E.R k).ver = (s.rw k).ver:=by rw [hR]
    have hlive:(E.R k).kind.live = false->E.rm k = none:=fun hl=>by
     have hrow:=hs.wok.rows k
     unfold zav at hrow
     rw [hR] at hrow hl
     rcases hkind with ⟨h,_⟩ | h
     ·simp only [h] at hrow;exact hrow.1
     ·rw [h] at hl;cases hl
    have hturn:OneTurn E w w' k ⟨(s.rw k).ver + 1,.sli e (T e).size false (c ++ news)⟩ m' v' :=
     ⟨fun b hb hne=>hap.block b hb fun h=>(by
      have:=hlive (hne h)
      rw [this] at h;cases h),
      fun b hb _=>(by
       rcases hap.fresh b hb with h | h
       ·refine .inr ⟨h,hnd,fun _=>?_⟩
        cases hl:(E.R k).kind.live with
        | true=>rfl
        | false=>rw [hlive hl] at h;cases h
       ·exact .inl h),
      by rw [hver'];exact Nat.le_succ _,fun h=>by rw [hver'] at h;simp at h,fun h=>by rw [hver'] at h;simp at h,fun _=>Nat.succ_pos _,hap.size,hap.os,hap.tape,hap.output⟩
    refine zgE (fz:=[]) (p:=.own k ((s.rw k).ver + 1)) hs (zcW ho hrun) hturn sp (fun hl=>?_) ?_ (by simp [hdst,hd]) (fun a' w' h=>hK a' w' ?_)
    ·refine zj0 (fz:=false) (c:=c ++ news) hap hs.wok rfl (fun b hb hn=>(hs.wok.block hb hn).2) (fun _=>hnd) (by simp [Env.turn,zaf]) (by simp [Env.turn,zaf]) (by simp [Env.turn,zaf]) ?_
     exact (hrepc.mono hl.bare (Nat.le_refl _)).append (h5.mono hl.bare (Nat.le_refl _))
    ·exact .own (by simp [Env.turn,zaf]) fun _ _=>by simp [Env.turn,zaf]
    ·rw [St.freeze_nil,hdst] at h;exact h
   split at hk
   ·rename_i hkind
    exact main [] (.inl ⟨hkind,rfl⟩) (by simpa using hk.1) (by simpa using hk.2)
   ·rename_i e' sz' c hkind
    obtain ⟨rfl,rfl,hlen,hk⟩:=hk
    exact main c (.inr hkind) hlen hk
   ·exact hk.elim
  ·exact hk.elim
 ·exact hk.elim
end
end Go.Abs
namespace Go.Abs
set_option linter.unusedSimpArgs false
open Go.Lib (strCells strCells_length strCells_oneCell run_append_room_string run_append_grow_string run_firstCells_string)
def zfO (s:ByteArray):List PV:=s.data.toList.map fun b=>PV.v (.int .u8 b.toNat)
theorem zfc (s:ByteArray):(zfO s).length = s.size:=by rw [zfO,List.length_map,Array.length_toList];rfl
theorem zFq [zae] (s:ByteArray) (w:World) (E:Env) (lo:Nat):zbu w E lo (zfO s) (strCells s):=by
 refine ⟨by rw [zfc,strCells_length],fun i a b=>?_⟩
 simp only [zfO,strCells,List.getElem_map]
 exact .v _
section
variable {P:Program} {T:Tab}
theorem ztx [zae] (hT:T.Ok P) {t u e:TypeId} (ty:TypeId) (ht:0 < (T t).size) (hk:(T t).k = .sli e) (hu0:0 < (T u).size) (hku:(T u).k = .str) (he:0 < (T e).size) (he1:(T e).size = 1) (hb:0 < (T e).bytes) {w:World} {m:Option Nat} {v:Value} {vs:List Value}
 (hp:zKp w e (T e).size m v vs) (s:ByteArray) (hlen:(vs.length + s.size) * (T e).bytes <= 140737488355328) :
 ∃ v' w' m',(Builtin.append_ #[t,u] ty #[v,.string s]).run P w = .ok v' w'/\Appended w w' e (T e).size m m' v' (vs ++ strCells s):=by
 have hf:=hT t ht
 have hu:P.underlying t = some (.slice e):=by have:=hf.k;rw [hk] at this;exact this
 have hus:P.underlying u = some .string:=by have:=(hT u hu0).k;rw [hku] at this;exact this
 obtain ⟨i,z,hi,hsz,hby,hz,hzl⟩:=(hT e he).info
 have hsz':i.size = (T e).size:=hsz
 have hzs:z.cells.size = (T e).size:=by rw [<- Array.length_toList,hzl];exact (hT e he).zlen
 have hsl:=strCells_length s
 have hbig:vs.length + s.size <= 140737488355328:=Nat.le_trans (Nat.le_mul_of_pos_right _ hb) hlen
 rcases hp with ⟨rfl,rfl,rfl⟩ | ⟨b,n,cap,rest,rfl,rfl,hh,hvl,hnc,hcm,hcl⟩
 ·by_cases h0:s.size = 0
  ·have hs0:strCells s = []:=List.eq_nil_of_length_eq_zero (by rw [hsl,h0])
   refine ⟨.slice none 0 0,w,none,?_,⟨.inl ⟨rfl,rfl,by rw [hs0];rfl⟩,fun _ _ _=>rfl,Nat.le_refl _,rfl,rfl,⟨rfl,fun _=>by first | exact Nat.le_refl _ | exact Nat.le_succ _⟩,fun b h=>.inl h⟩⟩
   have hf:=run_firstCells_string (P:=P) w i.size s
   rw [h0] at hf
   simp [Builtin.append_,run_underlying hu,run_underlying hus,sizeOf,typeInfo,hi,Builtin.lenOf,h0,hf]
  ·have hr:=run_append_nil_string (P:=P) w t u ty e i z hu hus hi hz s om om (by
    rw [hby]
    simp at hlen;omega)
   refine ⟨_,_,some w.heap.size,hr,⟨.inr ⟨w.heap.size,s.size,_,(Builtin.zeroCells z.cells (grownCap w s.size 0 e - s.size)).toList,rfl,rfl,?_,by rw [he1];simpa using hsl,grownCap_ge w s.size 0 e,grownCap_le_maxLen w s.size 0 e (by simp [maxLen];omega),?_⟩,fun b hb _=>?_,sp,rfl,rfl,⟨rfl,fun _=>by first | exact Nat.le_refl _ | exact Nat.le_succ _⟩,fun b h=>.inr (by simp at h;omega)⟩⟩
   ·have:=heap_alloc_new w.drew (.cells (s.data.map (fun b=>Value.int .u8 b.toNat) ++ Builtin.zeroCells z.cells (grownCap w s.size 0 e - s.size)) e)
    rw [show (([]:List Value) ++ strCells s ++ (Builtin.zeroCells z.cells (grownCap w s.size 0 e - s.size)).toList).toArray = s.data.map (fun b=>Value.int .u8 b.toNat) ++ Builtin.zeroCells z.cells (grownCap w s.size 0 e - s.size) from Array.toList_inj.1 (by simp [strCells])]
    exact this
   ·have hge:=grownCap_ge w s.size 0 e
    simp only [List.nil_append,List.length_append,Array.length_toList,size_zeroCells,hzs,hsl,he1,Nat.mul_one]
    omega
   ·exact (Ext.alloc w.drew _).block b hb
 ·rw [he1,Nat.mul_one] at hvl hcl
  by_cases hroom:n + s.size <= cap
  ·have hr:=run_append_room_string (P:=P) w t u ty e i hu hus hi (by rw [hsz',he1]) b n cap (vs ++ rest).toArray hh s hroom (by
    simp at hcl ⊢;omega)
   refine ⟨_,_,some b,hr,⟨.inr ⟨b,n + s.size,cap,rest.drop s.size,rfl,rfl,?_,?_,hroom,hcm,?_⟩,fun k hk hne=>?_,sp,rfl,rfl,⟨rfl,fun _=>by first | exact Nat.le_refl _ | exact Nat.le_succ _⟩,fun b' h=>.inl h⟩⟩
   ·rw [setRow_heap w b _ _ e _ hh]
    congr 2
    rw [<- hvl]
    simp [List.take_left',List.drop_append]
   ·rw [List.length_append,hvl,hsl,he1,Nat.mul_one]
   ·rw [he1,Nat.mul_one]
    simp at hcl ⊢;omega
   ·exact setRow_other w b k _ (fun e=>hne (by rw [e]))
  ·have hold:∀ j u,vs[j]? = some u->w.cell? ((⟨b,0,none⟩:Addr).add j) = some u:=fun j u hj=>by
    obtain ⟨hlt,rfl⟩:=List.getElem?_eq_some_iff.1 hj
    rw [zdI,Nat.zero_add,zaL hh (by simp;omega)]
    simp [List.getElem_append_left hlt]
   have hr:=run_append_grow_string (P:=P) w t u ty e i z hu hus hi hz ⟨b,0,none⟩ n cap vs (by rw [hvl,hsz',he1,Nat.mul_one]) hold s om om (growslice_fits om (by
    rw [hby,<- hvl]
    omega))
   refine ⟨_,_,some w.heap.size,hr,⟨.inr ⟨w.heap.size,n + s.size,_,(Builtin.zeroCells z.cells (grownCap w (n + s.size) cap e - (n + s.size))).toList,rfl,rfl,?_,?_,grownCap_ge w _ _ e,grownCap_le_maxLen w _ _ e (by simp [maxLen];omega),?_⟩,fun b hb _=>?_,sp,rfl,rfl,⟨rfl,fun _=>by first | exact Nat.le_refl _ | exact Nat.le_succ _⟩,fun b h=>.inr (by simp at h;omega)⟩⟩
   ·have:=heap_alloc_new w.drew (.cells (vs.toArray ++ (strCells s).toArray ++ Builtin.zeroCells z.cells (grownCap w (n + s.size) cap e - (n + s.size))) e)
    rw [show (vs ++ strCells s ++ (Builtin.zeroCells z.cells (grownCap w (n + s.size) cap e - (n + s.size))).toList).toArray = vs.toArray ++ (strCells s).toArray ++ Builtin.zeroCells z.cells (grownCap w (n + s.size) cap e - (n + s.size)) from Array.toList_inj.1 sp]
    exact this
   ·rw [List.length_append,hvl,hsl,he1,Nat.mul_one]
   ·have hge:=grownCap_ge w (n + s.size) cap e
    simp only [List.length_append,Array.length_toList,size_zeroCells,hzs,hvl,hsl,he1,Nat.mul_one]
    omega
   ·exact (Ext.alloc w.drew _).block b hb
end
def zuV (T:Tab) (s:St) (d:Nat) (t t2:TypeId) (x:PV) (b:ByteArray) (K:St->Prop):Prop :=
 0 < (T t).size/\0 < (T t2).size/\(T t2).k = .str/\match (T t).k with
 | .sli e=>(T e).size = 1/\0 < (T e).bytes/\(match x with
  | .own k ver=>(s.rw k).ver = ver/\(match (s.rw k).kind with
   | .nil=>b.size * (T e).bytes <= 140737488355328/\K (zdG s d k (.sli e (T e).size false (zfO b)))
   | .sli e' sz' false c=>e' = e/\sz' = (T e).size/\(c.length + b.size) * (T e).bytes <= 140737488355328/\K (zdG s d k (.sli e (T e).size false (c ++ zfO b)))
   | _=>False)
  | _=>False)
 | _=>False
section
variable {P:Program} {T:Tab} {G:Ghost} {s:St} {E:Env} {a:Act} {w w':World} {o:Oper}
theorem zty [zae] (hT:T.Ok P) {d:Nat} {t t2:TypeId} {x y:Operand} {bs:ByteArray} {K:St->Prop} (ho:o.op = .call ⟨.builtin .append,#[x,y],#[t,t2]⟩) (hdst:o.dst = some d) (hd:d < G.n) (hy:s.ev y = .v (.string bs))
 (hk:zuV T s d t t2 (s.ev x) bs K):∃ s',K s'/\za9 P G s o s':=by
 obtain ⟨ht,hu0,hku,hk⟩:=hk
 split at hk
 ·rename_i e hte
  obtain ⟨he1,hby,hk⟩:=hk
  have he:0 < (T e).size:=om
  split at hk
  ·
   rename_i k ver hev
   obtain ⟨hver,hk⟩:=hk
   have main:∀ (c:List PV),((s.rw k).kind = .nil/\c = [] \/ (s.rw k).kind = .sli e (T e).size false c)->(c.length + bs.size) * (T e).bytes <= 140737488355328->K (zdG s d k (.sli e (T e).size false (c ++ zfO bs))) ->
    ∃ s',K s'/\za9 P G s o s':=by
    intro c hkind hlen hk
    refine ⟨_,hk,fun a w hs K' Q hK=>?_⟩
    obtain ⟨E,hs⟩:=hs
    have hR:=hs.rw
    have hx:=zaB hs.slots x
    rw [hev] at hx
    have hye:a.eval y = .string bs:=by
     have:=zaB hs.slots y
     rw [hy] at this
     exact this.v_eq
    have h5:zbu w E.bare E.B (zfO bs) (strCells bs):=zFq bs w _ _
    have hslice:(E.R k).kind.slice = true:=by rw [hR];rcases hkind with ⟨h,_⟩ | h <;> rw [h] <;> rfl
    have hnd:=RK.nd_of_slice hslice
    obtain ⟨vs,hphys,hrepc⟩:∃ vs,zKp w e (T e).size (E.rm k) (E.rv k) vs/\zbu w E.bare E.B c vs:=by
     have hrow:=hs.wok.rows k
     unfold zav at hrow
     rw [hR] at hrow
     rcases hkind with ⟨h,rfl⟩ | h
     ·simp only [h] at hrow
      exact ⟨[],.inl ⟨hrow.1,hrow.2,rfl⟩,⟨rfl,fun i p=>absurd p sp⟩⟩
     ·simp only [h] at hrow
      rcases hrow with ⟨g1,g2,g3⟩ | ⟨b,n,cap,vs,rest,g1,g2,g3,g4,g5,g6,g7,g8,g9⟩
      ·subst g3;exact ⟨[],.inl ⟨g1,g2,rfl⟩,⟨rfl,fun i p=>absurd p sp⟩⟩
      ·exact ⟨vs,.inr ⟨b,n,cap,rest,g1,g3,g4,g5,g6,g7,g8⟩,g9⟩
    have hxe:a.eval x = E.rv k:=by cases hx with | own hv hx=>exact hx (by rw [hR];exact hver) hslice
    obtain ⟨v',w',m',hrun,hap⟩:=ztx (P:=P) hT o.type ht hte hu0 hku he he1 hby hphys bs (by rw [<- hrepc.1];exact hlen)
    rw [<- hxe,<- hye] at hrun
    have hver':(E.R k).ver = (s.rw k).ver:=by rw [hR]
    have hlive:(E.R k).kind.live = false->E.rm k = none:=fun hl=>by
     have hrow:=hs.wok.rows k
     unfold zav at hrow
     rw [hR] at hrow hl
     rcases hkind with ⟨h,_⟩ | h
     ·simp only [h] at hrow;exact hrow.1
     ·rw [h] at hl;cases hl
    have hturn:OneTurn E w w' k ⟨(s.rw k).ver + 1,.sli e (T e).size false (c ++ zfO bs)⟩ m' v' :=
     ⟨fun b hb hne=>hap.block b hb fun h=>(by
      have:=hlive (hne h)
      rw [this] at h;cases h),
      fun b hb _=>(by
       rcases hap.fresh b hb with h | h
       ·refine .inr ⟨h,hnd,fun _=>?_⟩
        cases hl:(E.R k).kind.live with
        | true=>rfl
        | false=>rw [hlive hl] at h;cases h
       ·exact .inl h),
      by rw [hver'];exact Nat.le_succ _,fun h=>by rw [hver'] at h;simp at h,fun h=>by rw [hver'] at h;simp at h,fun _=>Nat.succ_pos _,hap.size,hap.os,hap.tape,hap.output⟩
    refine zgE (fz:=[]) (p:=.own k ((s.rw k).ver + 1)) hs (zcW ho hrun) hturn sp (fun hl=>?_) ?_ (by simp [hdst,hd]) (fun a' w' h=>hK a' w' ?_)
    ·refine zj0 (fz:=false) (c:=c ++ zfO bs) hap hs.wok rfl (fun b hb hn=>(hs.wok.block hb hn).2) (fun _=>hnd) (by simp [Env.turn,zaf]) (by simp [Env.turn,zaf]) (by simp [Env.turn,zaf]) ?_
     exact (hrepc.mono hl.bare (Nat.le_refl _)).append (h5.mono hl.bare (Nat.le_refl _))
    ·exact .own (by simp [Env.turn,zaf]) fun _ _=>by simp [Env.turn,zaf]
    ·rw [St.freeze_nil,hdst] at h;exact h
   split at hk
   ·rename_i hkind
    exact main [] (.inl ⟨hkind,rfl⟩) (by simpa using hk.1) (by simpa using hk.2)
   ·rename_i e' sz' c hkind
    obtain ⟨rfl,rfl,hlen,hk⟩:=hk
    exact main c (.inr hkind) hlen hk
   ·exact hk.elim
  ·exact hk.elim
 ·exact hk.elim
end
end Go.Abs

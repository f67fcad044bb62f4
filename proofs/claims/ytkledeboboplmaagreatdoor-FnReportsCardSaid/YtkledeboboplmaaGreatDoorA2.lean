/- DERIVED by an AI agent. -/
import Derived.Test.YtkledeboboplmaaGreatDoorA1
namespace Go.Abs
set_option linter.unusedSimpArgs false
section
variable {P:Program} {T:Tab} {w:World} {E:Env} {G:Ghost} {rw:Nat->Row} {K:PV->Prop}
theorem zCV [zae] (hT:T.Ok P) {op:BinOp} {t:TypeId} {x y:Operand} {p q:PV} {a b:Value} (hk:zdw T op t p q K) (hp:Rep w E 0 p a) (hq:Rep w E 0 q b) :
 ∃ r,K r/\∃ v,(do eqGuard op t x y a b;binOp op t a b:Sem Value).run P w = .ok v w/\Rep w E 0 r v:=by
 unfold zdw at hk
 split at hk
 ·obtain ⟨hc,hk⟩:=hk
  have:=hp.v_eq;subst this
  have:=hq.v_eq;subst this
  refine ⟨_,hk,_,?_,.v _⟩
  rw [Sem.run_bind,zmw]
  simp only [Result.andThen_ok]
  exact zzc w _ _ _ _ _ _ hc
 ·obtain ⟨hc,hk⟩:=hk
  have:=hp.v_eq;subst this
  have:=hq.v_eq;subst this
  split at hk
  ·rename_i r hr
   refine ⟨_,hk,_,?_,.v _⟩
   rw [Sem.run_bind,ziv]
   simp only [Result.andThen_ok]
   exact zzd w _ _ _ _ _ hc hr
  ·exact hk.elim
 ·obtain ⟨hb,hs,hk⟩:=hk
  have:=hp.v_eq;subst this
  have:=hq.v_eq;subst this
  have hf:=(hT t hs).k
  rw [hb] at hf
  split at hk
  ·refine ⟨_,hk,_,?_,.v _⟩
   rw [Sem.run_bind,zfA]
   simp [binOp,run_equal_bool w t _ _ hf]
  ·refine ⟨_,hk,_,?_,.v _⟩
   rw [Sem.run_bind,zfA]
   simp [binOp,run_equal_bool w t _ _ hf]
  ·exact hk.elim
 ·exact hk.elim
theorem zFo [zae] {op:UnOp} {p:PV} {a:Value} (hk:unK op p K) (hp:Rep w E 0 p a):∃ r,K r/\∃ v,(Op.unary op a).run P w = .ok v w/\Rep w E 0 r v:=by
 unfold unK at hk
 split at hk
 ·have:=hp.v_eq;subst this;exact ⟨_,hk,_,by simp [Op.unary],.v _⟩
 ·have:=hp.v_eq;subst this;exact ⟨_,hk,_,by simp [Op.unary,Op.intArith],.v _⟩
 ·have:=hp.v_eq;subst this
  exact ⟨_,hk,_,by simp [Op.unary,Op.intBits,zIP],.v _⟩
 ·exact hk.elim
theorem zji {p:PV} {Kp:Prop} {x:Value} (hk:zdW rw p Kp) (hR:E.R = rw) (hp:Rep w E 0 p x) :
 Kp/\((∃ f cs vs,p = .clo f cs/\x = .func (.func f) #[] vs) \/ ∃ b o,x = .pointer (some ⟨b,o,none⟩)/\zmu p = true/\∀ d,Rep w E 0 (zeP p d) (.pointer (some ⟨b,o + d,none⟩))):=by
 subst hR
 cases hp with
 | @ref _ _ k ver off x hv hx =>
   obtain ⟨h1,h2,hk⟩:=hk
   obtain ⟨b,hb,hx⟩:=hx h1 h2
   refine ⟨hk,.inr ⟨b,off,hx,rfl,fun d=>.ref hv fun _ _=>⟨b,hb,rfl⟩⟩⟩
 | @eref _ _ fr cells off b o cs hr hh =>
   refine ⟨hk,.inr ⟨b,o + off,rfl,rfl,fun d=>?_⟩⟩
   have:=Rep.eref (w:=w) (E:=E) (lo:=0) (fr:=fr) (off:=off + d) (b:=b) (o:=o) cs hr hh
   rwa [<- Nat.add_assoc] at this
 | clo hl hh=>exact ⟨hk,.inl ⟨_,_,_,rfl,rfl⟩⟩
 | v x=>exact hk.elim
 | sl=>exact hk.elim
 | own=>exact hk.elim
 | ag=>exact hk.elim
 | tup=>exact hk.elim
 | junk=>exact hk.elim
theorem zdI (b o d:Nat):(⟨b,o,none⟩:Addr).add d = ⟨b,o + d,none⟩:=by
 unfold Addr.add;split
 ·rename_i h;simp [h]
 ·rfl
theorem zmr [zae] (hT:T.Ok P) {t:TypeId} {f:Nat} {p:PV} {x:Value} (hk:zei T t f fun o _=>zmu p = true/\zdW rw p (K (zeP p o))) (hR:E.R = rw) (hp:Rep w E 0 p x) :
 ∃ r,K r/\∃ v,(Instr.fieldAt t x f).run P w = .ok v w/\Rep w E 0 r v:=by
 obtain ⟨hs,hk⟩:=hk
 have hf:=(hT t hs).k
 split at hk
 ·rename_i fs hfs
  rw [hfs] at hf
  obtain ⟨flds,hu,hfl⟩:=hf
  split at hk
  ·rename_i o ft hget
   obtain ⟨hft,hptr,hk⟩:=hk
   obtain ⟨hk,hx⟩:=zji hk hR hp
   rcases hx with ⟨f',cs,vs,rfl,_⟩ | ⟨b,off,rfl,_,hsh⟩
   ·cases hptr
   ·have hg:∃ fd,flds[f]? = some fd/\fd.offset = o/\fd.type = ft:=by
     rw [<- hfl] at hget
     simp only [List.getElem?_map,Option.map_eq_some_iff] at hget
     obtain ⟨fd,h1,h2⟩:=hget
     injection h2 with h2 h3
     exact ⟨fd,by simpa using h1,h2,h3⟩
    obtain ⟨fd,h1,h2,h3⟩:=hg
    have hsz:=za0 (hT ft hft) w
    refine ⟨_,hk,_,?_,hsh o⟩
    have hne:(T ft).size ≠ 0:=om
    simp [Instr.fieldAt,run_underlying hu,h1,Instr.sureAddr,fieldPlace,h3,hsz,hne,h2,zdI]
  ·exact hk.elim
 ·exact hk.elim
theorem zCW [zae] (hT:T.Ok P) {t:TypeId} {cells:List PV} {vs:List Value} {o:Nat} (hk:ldK T t .asis cells o K) (hl:cells.length = vs.length)
 (hh:∀ i (h:i < cells.length) (h':i < vs.length),Rep w E 0 cells[i] vs[i]):∃ r,K r/\∃ v,(part t vs.toArray o).run P w = .ok v w/\Rep w E 0 r v:=by
 obtain ⟨hs,hk⟩:=hk
 have hf:=hT t hs
 have hag:=ztt hf.k w
 have hsz:=za0 hf w
 cases hagg:(T t).k.agg with
 | true =>
   simp only [hagg] at hk
   obtain ⟨hlen,hk⟩:=hk
   refine ⟨_,hk,.agg ((vs.drop o).take (T t).size).toArray,?_,?_⟩
   ·simp [part,hag,hagg,hsz,List.extract_toArray,List.extract_eq_take_drop]
   ·refine .ag (by simp [hl]) (fun i h h'=>?_)
    simp at h h'
    simp only [List.getElem_take,List.getElem_drop,List.getElem_map]
    exact hh _ om om
 | false =>
   simp only [hagg] at hk
   obtain ⟨hlen,hk⟩:=hk
   have hlen':o < vs.length:=om
   refine ⟨_,hk,vs[o],?_,?_⟩
   ·simp [part,hag,hagg,hlen']
   ·have e:cells.getD o .junk = cells[o]:=by simp [List.getD,hlen]
    rw [e]
    exact hh o hlen hlen'
theorem zuS [zae] (hT:T.Ok P) {t:TypeId} {f:Nat} {p:PV} {x:Value} (hk:zei T t f fun o ft=>(match p with | .ag c=>ldK T ft .asis c o K | _=>False)) (hp:Rep w E 0 p x) :
 ∃ r,K r/\∃ v,(Instr.field t x f).run P w = .ok v w/\Rep w E 0 r v:=by
 obtain ⟨hs,hk⟩:=hk
 have hf:=(hT t hs).k
 split at hk
 ·rename_i fs hfs
  rw [hfs] at hf
  obtain ⟨flds,hu,hfl⟩:=hf
  split at hk
  ·rename_i o ft hget
   obtain ⟨hft,hk⟩:=hk
   cases hp with
   | @ag _ _ cells vs hl hh =>
     have hg:∃ fd,flds[f]? = some fd/\fd.offset = o/\fd.type = ft:=by
      rw [<- hfl] at hget
      simp only [List.getElem?_map,Option.map_eq_some_iff] at hget
      obtain ⟨fd,h1,h2⟩:=hget
      injection h2 with h2 h3
      exact ⟨fd,by simpa using h1,h2,h3⟩
     obtain ⟨fd,h1,h2,h3⟩:=hg
     obtain ⟨r,hr,v,hv,hrep⟩:=zCW (w:=w) hT hk hl hh
     refine ⟨r,hr,v,?_,hrep⟩
     simp [Instr.field,run_underlying hu,h1,asAgg,h2,h3,hv]
   | v x=>exact hk.elim
   | sl=>exact hk.elim
   | own=>exact hk.elim
   | ref=>exact hk.elim
   | eref=>exact hk.elim
   | tup=>exact hk.elim
   | clo=>exact hk.elim
   | junk=>exact hk.elim
  ·exact hk.elim
 ·exact hk.elim
theorem zCX [zae] {k ver:Nat} {x:Value} (hw:WOk G E w) (hp:Rep w E 0 (.own k ver) x) (hv:(E.R k).ver = ver) {e:TypeId} {sz:Nat} {fz:Bool} {c:List PV} (hk:(E.R k).kind = .sli e sz fz c) (hc:0 < c.length) :
 ∃ b n cap vs rest,E.rm k = some b/\x = .slice (some ⟨b,0,none⟩) n cap/\w.heap[b]? = some (.cells (vs ++ rest).toArray e (0,0)) /\
  vs.length = n * sz/\n <= cap/\cap <= maxLen/\(vs ++ rest).length = cap * sz/\zbu w E.bare E.B c vs:=by
 cases hp with
 | own _ hx =>
   have hx:=hx hv (by rw [hk];rfl)
   have hrow:=hw.rows k
   unfold zav at hrow
   simp only [hk] at hrow
   rcases hrow with ⟨h1,h2,h3⟩ | ⟨b,n,cap,vs,rest,h1,h2,h3,h4,h5,h6,h7,h8,h9⟩
   ·subst h3;simp at hc
   ·exact ⟨b,n,cap,vs,rest,h1,hx.trans h3,h4,h5,h6,h7,h8,h9⟩
theorem zc8 [zae] {t e:TypeId} {n:Nat} (hu:P.underlying t = some (.slice e)) (hs:(sizeOf e).run P w = .ok n w) {k:IntKind} {i:Int} {b o len cap:Nat} (h0:0 <= i) (h1:i < len) :
 (Instr.indexAt t (.slice (some ⟨b,o,none⟩) len cap) (.int k i)).run P w = .ok (.pointer (some ⟨b,o + i.toNat * n,none⟩)) w:=by
 simp [Instr.indexAt,asIntOf,run_underlying hu,h0,h1,hs,zdI]
theorem zjj [zae] {t e:TypeId} {n:Nat} {len:Nat} (hu:P.underlying t = some (.array len e)) (hs:(sizeOf e).run P w = .ok n w) {k:IntKind} {i:Int} {b o:Nat} (h0:0 <= i) (h1:i < len) :
 (Instr.indexAt t (.pointer (some ⟨b,o,none⟩)) (.int k i)).run P w = .ok (.pointer (some ⟨b,o + i.toNat * n,none⟩)) w:=by
 simp [Instr.indexAt,asIntOf,run_underlying hu,h0,h1,hs,zdI,Instr.sureAddr]
theorem zms {i sz len:Nat} {m:Nat} (h:i * sz < m) (hl:m = len * sz):i < len:=by
 subst hl
 exact Nat.lt_of_mul_lt_mul_right h
theorem zmt [zae] (hT:T.Ok P) (hw:WOk G E w) {t:TypeId} {p q:PV} {x y:Value} (hk:zbz T rw t p q K) (hR:E.R = rw) (hp:Rep w E 0 p x) (hq:Rep w E 0 q y) :
 ∃ r,K r/\∃ v,(Instr.indexAt t x y).run P w = .ok v w/\Rep w E 0 r v:=by
 subst hR
 unfold zbz at hk
 split at hk
 ·rename_i k n
  have:=hq.v_eq;subst this
  obtain ⟨hs,hk⟩:=hk
  have hf:=(hT t hs).k
  split at hk
  ·rename_i e he
   rw [he] at hf
   have hu:P.underlying t = some (.slice e):=hf
   split at hk
   ·rename_i fr sz c
    obtain ⟨hes,hsz,h0,h1,hk⟩:=hk
    have hsize:=za0 (hT e hes) w
    rw [<- hsz] at hsize
    cases hp with
    | @sl _ _ _ _ len cap _ a cs hl hc hm hr hh =>
      obtain ⟨b,o,rfl,hb,hL,hcell⟩:=hr _ h1
      have hlt:n.toNat < len:=zms h1 hl
      refine ⟨_,hk,_,zc8 hu hsize h0 om,?_⟩
      refine .eref (b:=b) (o:=o) cs (fun i hi=>?_) hh
      obtain ⟨b',o',ha,hb',hL',hcell'⟩:=hr i hi
      injection ha with ha
      injection ha with h1 h2
      subst h1;subst h2
      exact ⟨hb',hL',hcell'⟩
   ·rename_i k' ver
    obtain ⟨hv,hk⟩:=hk
    split at hk
    ·rename_i e' sz fz c hkind
     obtain ⟨hes,hsz,h0,h1,hk⟩:=hk
     have hsize:=za0 (hT e hes) w
     rw [<- hsz] at hsize
     obtain ⟨b,m,cap,vs,rest,hrm,rfl,hheap,hvl,hmc,hcm,hcap,hrl⟩:=zCX hw hp hv hkind om
     have hlt:n.toNat < m:=zms h1 (hrl.1.trans hvl)
     refine ⟨_,hk,_,zc8 hu hsize h0 om,?_⟩
     rw [Nat.zero_add]
     exact .ref om fun _ _=>⟨b,hrm,rfl⟩
    ·rename_i e' c hkind
     obtain ⟨hes,h0,h1,hk⟩:=hk
     have hsize:=za0 (hT e om) w
     rw [hes] at hsize
     have hrow:=hw.rows k'
     unfold zav at hrow
     simp only [hkind] at hrow
     rcases hrow with ⟨_,_,hc0⟩ | ⟨b,m,cap,vs,rest,hrm,_,hrv,hheap,hvl,hmc,hcm,hcap,hrl⟩
     ·rw [hc0] at h1;exact absurd h1 sp
     cases hp with
     | own _ hx =>
       have hx:=hx hv (by rw [hkind];rfl)
       rw [hrv] at hx
       subst hx
       have hlt:n.toNat < m:=by rw [hrl.1] at h1;omega
       refine ⟨_,hk,_,zc8 hu hsize h0 om,?_⟩
       rw [Nat.zero_add,Nat.mul_one]
       exact .ref om fun _ _=>⟨b,hrm,rfl⟩
    ·exact hk.elim
   ·exact hk.elim
  ·rename_i len e he
   rw [he] at hf
   have hu:P.underlying t = some (.array len e):=hf
   obtain ⟨hptr,hes,h0,h1,hk⟩:=hk
   have hsize:=za0 (hT e hes) w
   obtain ⟨hk,hx⟩:=zji hk rfl hp
   rcases hx with ⟨f',cs,vs,rfl,_⟩ | ⟨b,off,rfl,_,hsh⟩
   ·cases hptr
   ·exact ⟨_,hk,_,zjj hu hsize h0 h1,hsh _⟩
  ·exact hk.elim
 ·exact hk.elim
theorem zCY [zae] (hT:T.Ok P) (hw:WOk G E w) {t ty:TypeId} {p:PV} {x:Value} (hk:zCZ T rw t p K) (hR:E.R = rw) (hp:Rep w E 0 p x) :
 ∃ r,K r/\∃ v,(Builtin.len_ #[t] ty #[x]).run P w = .ok v w/\Rep w E 0 r v:=by
 obtain ⟨hs,hk⟩:=hk
 have hf:=(hT t hs).k
 split at hk
 ·rename_i he
  rw [he] at hf
  have hu:P.underlying t = some .string:=hf
  split at hk
  ·have:=hp.v_eq;subst this
   exact ⟨_,hk,_,by simp [Builtin.len_,run_underlying hu,goInt],.v _⟩
  ·exact hk.elim
 ·rename_i e he
  rw [he] at hf
  have hu:P.underlying t = some (.slice e):=hf
  obtain ⟨sz,c,⟨hsz,hk⟩,a,len,cap,rfl,hl⟩:=zzb hk hR hw hp
  have e:c / sz = len:=by rw [hl];exact Nat.mul_div_cancel _ hsz
  rw [e] at hk
  exact ⟨_,hk,_,by simp [Builtin.len_,run_underlying hu,goInt],.v _⟩
 ·rename_i n e he
  rw [he] at hf
  have hu:P.underlying t = some (.array n e):=hf
  exact ⟨_,hk,_,by simp [Builtin.len_,run_underlying hu,goInt],.v _⟩
 ·exact hk.elim
end
section
variable {P:Program} {T:Tab} {w:World} {E:Env} {G:Ghost} {rw:Nat->Row} {K:PV->Prop} {s:St}
theorem zgg [zae] {ev:Operand->PV} {o:Option Operand} {d:Int} {Ki:Int->Prop} {a:Act} (hk:znw ev o d Ki) (h:∀ x,o = some x->Rep w E 0 (ev x) (a.eval x)) :
 ∃ n,Ki n/\((o = none/\n = d) \/ ∃ k,o.map a.eval = some (.int k n)):=by
 unfold znw at hk
 split at hk
 ·exact ⟨_,hk,.inl ⟨rfl,rfl⟩⟩
 ·rename_i x
  have hx:=h x rfl
  split at hk
  ·rename_i k n he
   rw [he] at hx
   exact ⟨_,hk,.inr ⟨k,by simp [hx.v_eq]⟩⟩
  ·exact hk.elim
theorem zy9 [zae] {p:PV} {Ks:Bool->Nat->List PV->Prop} {x:Value} (hk:zhu rw p Ks) (hR:E.R = rw) (hw:WOk G E w) (hp:Rep w E 0 p x) :
 ∃ fr sz cells,Ks fr sz cells/\Rep w E 0 (.sl fr sz cells) x:=by
 subst hR
 unfold zhu at hk
 split at hk
 ·exact ⟨_,_,_,hk,hp⟩
 ·rename_i k ver
  obtain ⟨hlk,hv,hk⟩:=hk
  split at hk
  ·rename_i e sz c hkind
   refine ⟨_,_,_,hk,?_⟩
   cases hp with
   | own _ hx =>
     have hx:=hx hv (by rw [hkind];rfl)
     have hrow:=hw.rows k
     unfold zav at hrow
     simp only [hkind] at hrow
     rcases hrow with ⟨h1,h2,h3⟩ | ⟨b,n,cap,vs,rest,h1,h2,h3,h4,h5,h6,h7,h8,h9⟩
     ·subst h3;rw [hx,h2]
      exact .sl (fun _=>undef) sp (Nat.le_refl _) (Nat.zero_le _) (fun i hi=>absurd hi sp) (fun i hi=>absurd hi sp)
     ·rw [hx,h3]
      have hB:E.B <= b:=by
       rw [hw.base]
       rcases h2 with h2 | h2
       ·exact h2
       ·exact absurd h2.1 om
      have hL:¬ E.L b:=fun hL=>by
       rcases (hw.live b).1 hL with ⟨k',hk1,hk2⟩ | hX
       rotate_left
       ·rw [hw.xs] at hX;exact hw.apart _ b (by rw [hkind];rfl) h1 hX
       have:=hw.inj k k' b (by rw [hkind];rfl) (RK.nd_of_live hk2) h1 hk1
       subst this
       rw [hkind] at hk2;cases hk2
      refine .sl (fun i=>vs.getD i undef) (h9.1.trans h5) h6 h7 (fun i hi=>⟨b,0,rfl,by simpa [Env.lo] using hB,hL,?_⟩) (fun i hi=>?_)
      ·have hi':i < vs.length:=by rw [<- h9.1];exact hi
       rw [Nat.zero_add,zaL h4 (by simp;omega)]
       simp [List.getElem_append_left hi',List.getD,hi']
      ·have hi':i < vs.length:=by rw [<- h9.1];exact hi
       have e:vs.getD i undef = vs[i]:=by simp [List.getD,hi']
       rw [e]
       exact (h9.2 i hi hi').low (by simp [Env.lo])
  ·exact hk.elim
 ·exact hk.elim
theorem zMq [zae] {fr:Bool} {sz:Nat} {c:List PV} {a:Option Addr} {len cap l h m:Nat} (hp:Rep w E 0 (.sl fr sz c) (.slice a len cap)) (h1:l <= h) (h2:h <= m) (h3:m <= cap) (h4:h <= len) :
 Rep w E 0 (.sl fr sz ((c.take (h * sz)).drop (l * sz))) (.slice (if m = l then a else a.map (·.add (l * sz))) (h - l) (m - l)):=by
 cases hp with
 | @sl _ _ _ _ _ _ _ _ cs hl hc hm hr hh =>
   have hle:h * sz <= c.length:=by rw [hl];exact Nat.mul_le_mul_right _ h4
   have hlen:((c.take (h * sz)).drop (l * sz)).length = (h - l) * sz:=by
    simp [Nat.sub_mul];omega
   have hll:l * sz <= h * sz:=Nat.mul_le_mul_right _ h1
   refine .sl (fun i=>cs (l * sz + i)) hlen om om (fun i hi=>?_) (fun i hi=>?_)
   ·rw [hlen,Nat.sub_mul] at hi
    obtain ⟨b,o,ha,hb,hL,hcell⟩:=hr (l * sz + i) om
    have hne:m ≠ l:=by
     intro e;subst e
     have:h = m:=om
     subst this
     simp at hi
    rw [if_neg hne,ha]
    exact ⟨b,o + l * sz,by simp [zdI],hb,hL,by rw [Nat.add_assoc];exact hcell⟩
   ·have hi':l * sz + i < c.length:=by rw [hlen,Nat.sub_mul] at hi;omega
    have:=hh (l * sz + i) hi'
    simpa using this
theorem zuR [zae] (hT:T.Ok P) (hw:WOk G E w) {ev:Operand->PV} {a:Act} {t:TypeId} {p:PV} {x:Value} {lo hi mx:Option Operand} (hk:zbJ T rw ev t p lo hi mx K) (hR:E.R = rw)
 (hp:Rep w E 0 p x) (hlo:∀ y,lo = some y->Rep w E 0 (ev y) (a.eval y)) (hhi:∀ y,hi = some y->Rep w E 0 (ev y) (a.eval y)) (hmx:∀ y,mx = some y->Rep w E 0 (ev y) (a.eval y)) :
 ∃ r,K r/\∃ v,(Instr.sliceAt t x (lo.map a.eval) (hi.map a.eval) (mx.map a.eval)).run P w = .ok v w/\Rep w E 0 r v:=by
 obtain ⟨hs,hk⟩:=hk
 have hf:=(hT t hs).k
 split at hk
 ·rename_i he
  rw [he] at hf
  have hu:P.underlying t = some .string:=hf
  obtain ⟨rfl,hk⟩:=hk
  split at hk
  ·rename_i b
   have:=hp.v_eq;subst this
   obtain ⟨l,hk,hl⟩:=zgg hk hlo
   obtain ⟨h,hk,hh⟩:=zgg hk hhi
   obtain ⟨h0,h1,h2,hk⟩:=hk
   refine ⟨_,hk,_,?_,.v _⟩
   have e1:(Instr.sliceBounds false b.size b.size (lo.map a.eval) (hi.map a.eval) none).run P w = .ok (l.toNat,h.toNat,b.size) w:=by
    have e0:((h.toNat:Nat):Int) = h:=om
    rcases hl with ⟨rfl,rfl⟩ | ⟨kl,el⟩ <;> rcases hh with ⟨rfl,rfl⟩ | ⟨kh,eh⟩
    ·simp [Instr.sliceBounds]
    ·simp [Instr.sliceBounds,eh,run_sliceBound,h1,h2]
    ·simp [Instr.sliceBounds,el,run_sliceBound,h0,h1]
    ·simp [Instr.sliceBounds,el,eh,run_sliceBound,h0,h1,h2,e0,(by omega:0 <= h)]
   simp [Instr.sliceAt,run_underlying hu,Instr.slice,e1]
  ·exact hk.elim
 ·rename_i e he
  rw [he] at hf
  have hu:P.underlying t = some (.slice e):=hf
  obtain ⟨fr,sz,c,⟨hes,hsz,hk⟩,hp⟩:=zy9 hk hR hw hp
  have hsize:=za0 (hT e hes) w
  rw [<- hsz] at hsize
  obtain ⟨l,hk,hl⟩:=zgg hk hlo
  obtain ⟨h,hk,hh⟩:=zgg hk hhi
  obtain ⟨m,hk,hm⟩:=zgg hk hmx
  obtain ⟨h0,h1,h2,h3,h4,hk⟩:=hk
  have hp':=hp
  cases hp with
  | @sl _ _ _ _ len cap _ ad cs hcl hc hmm hr hcells =>
    have hdiv:c.length / sz = len:=by rw [hcl];exact Nat.mul_div_cancel _ om
    rw [hdiv] at hh hm h3
    obtain ⟨mm,hmm1,hmm2,e1⟩:∃ mm:Nat,h.toNat <= mm/\mm <= cap/\(Instr.sliceBounds true len cap (lo.map a.eval) (hi.map a.eval) (mx.map a.eval)).run P w = .ok (l.toNat,h.toNat,mm) w:=by
     have e0:((h.toNat:Nat):Int) = h:=om
     have em:((m.toNat:Nat):Int) = m:=om
     have hcap:h <= (cap:Int):=om
     have hmcap:m <= (cap:Int):=om
     rcases hm with ⟨rfl,rfl⟩ | ⟨km,em'⟩
     ·refine ⟨cap,om,Nat.le_refl _,?_⟩
      rcases hl with ⟨rfl,rfl⟩ | ⟨kl,el⟩ <;> rcases hh with ⟨rfl,rfl⟩ | ⟨kh,eh⟩
      ·simp [Instr.sliceBounds]
      ·simp [Instr.sliceBounds,eh,run_sliceBound,h1,hcap]
      ·simp [Instr.sliceBounds,el,run_sliceBound,h0,h1]
      ·simp [Instr.sliceBounds,el,eh,run_sliceBound,h0,h1,hcap,e0,(by omega:0 <= h)]
     ·refine ⟨m.toNat,om,om,?_⟩
      rcases hh with ⟨rfl,rfl⟩ | ⟨kh,eh⟩
      ·have:=h4 rfl
       subst this
       simp at em'
      ·rcases hl with ⟨rfl,rfl⟩ | ⟨kl,el⟩
       ·simp [Instr.sliceBounds,eh,em',run_sliceBound,h1,hmcap,h2,em,e0,(by omega:0 <= h),(by omega:0 <= m)]
       ·simp [Instr.sliceBounds,el,eh,em',run_sliceBound,h0,h1,hmcap,h2,em,e0,(by omega:0 <= h),(by omega:0 <= m)]
    refine ⟨_,hk,_,?_,zMq hp' (l:=l.toNat) (h:=h.toNat) (m:=mm) om hmm1 hmm2 om⟩
    simp [Instr.sliceAt,run_underlying hu,Instr.slice,e1,hsize]
 ·exact hk.elim
theorem zza [zae] (hT:T.Ok P) (hw:WOk G E w) {src dst:TypeId} {p:PV} {x:Value} (hk:zg0 T rw src dst p K) (hR:E.R = rw) (hp:Rep w E 0 p x) :
 ∃ r,K r/\∃ v,(convert src dst x).run P w = .ok v w/\Rep w E 0 r v:=by
 obtain ⟨hs,hd,hk⟩:=hk
 have hfs:=(hT src hs).k
 have hfd:=(hT dst hd).k
 split at hk
 ·rename_i k1 k2 e1 e2
  rw [e1] at hfs;rw [e2] at hfd
  have hus:P.underlying src = some (.int k1):=hfs
  have hud:P.underlying dst = some (.int k2):=hfd
  split at hk
  ·have:=hp.v_eq;subst this
   exact ⟨_,hk,_,by simp [convert,run_underlying hus,run_underlying hud,Conv.intToInt],.v _⟩
  ·exact hk.elim
 ·rename_i e1 e2
  rw [e1] at hfs;rw [e2] at hfd
  have hus:P.underlying src = some .string:=hfs
  have hud:P.underlying dst = some .string:=hfd
  split at hk
  ·have:=hp.v_eq;subst this
   exact ⟨_,hk,_,by simp [convert,run_underlying hus,run_underlying hud],.v _⟩
  ·exact hk.elim
 ·rename_i e e1 e2
  rw [e1] at hfs;rw [e2] at hfd
  have hus:P.underlying src = some (.slice e):=hfs
  have hud:P.underlying dst = some .string:=hfd
  obtain ⟨hes,hk⟩:=hk
  have hfe:=(hT e hes).k
  split at hk
  ·rename_i e3
   rw [e3] at hfe
   have hue:P.underlying e = some (.int .u8):=hfe
   obtain ⟨fr,sz,c,⟨rfl,bs,rfl,hk⟩,a,len,cap,cs,rfl,hl,hc,hm,hcell⟩:=ziu hk hR hw hp
   refine ⟨_,hk,_,?_,.v _⟩
   rw [run_convert_bytes_string w src dst e a len cap hus hue hud]
   have hlen:len = bs.length:=by simpa using hl.symm
   subst hlen
   by_cases h0:bs = []
   ·subst h0
    cases a with
    | none=>simp [Conv.bytesToString]
    | some ad =>
      have:=run_bytesToString (P:=P) w ad 0 cap [] (by simp [loadCells,loadCellsFrom])
      simpa using this
   ·obtain ⟨b,o,rfl,_,_⟩:=hcell 0 (by simp;exact List.length_pos_iff.2 h0)
    refine run_bytesToString (P:=P) w ⟨b,o,none⟩ bs.length cap bs ?_
    have:=run_loadCells_list (P:=P) (w:=w) ⟨b,o,none⟩ (bs.map (Value.int .u8)) (fun j v hj=>by
     simp only [List.getElem?_map,Option.map_eq_some_iff] at hj
     obtain ⟨n,hj,rfl⟩:=hj
     obtain ⟨hlt,he⟩:=List.getElem?_eq_some_iff.1 hj
     obtain ⟨b',o',ha,hc',hr⟩:=hcell j (by simpa using hlt)
     injection ha with ha
     injection ha with ha hb
     subst ha;subst hb
     simp at hr
     rw [zdI,hc',hr.v_eq,he])
    simpa using this
  ·exact hk.elim
 ·exact hk.elim
end
inductive RV where
 | im (p:PV)
 | fr (e:TypeId) (sz:Nat) (cells:List PV)
 | ag (l:List RV)
 | tup (l:List RV)
 | tb (e e2:TypeId) (rows:List (List PV))
def Env.out (B:Nat) (bs:List Nat):Env:={ R:=fun _=>⟨0,.dead⟩,rm:=fun _=>none,rv:=fun _=>default,L:=fun b=>b < B \/ b ∈ bs,B:=B,X:=fun _=>False }
def Env.inn (B:Nat):Env:={ R:=fun _=>⟨0,.dead⟩,rm:=fun _=>none,rv:=fun _=>default,L:=fun _=>False,B:=B,X:=fun _=>False }
def blk (lv:List (Value × Option Nat)):List Nat:=lv.filterMap (·.2)
inductive OutR (w:World) (E:Env):RV->Value->List (Value × Option Nat)->Prop
 | im {p:PV} {v:Value} (h:Rep w E.bare E.B p v):OutR w E (.im p) v []
 | nil {e sz:Nat}:OutR w E (.fr e sz []) (.slice none 0 0) [(.slice none 0 0,none)]
 | fr {e sz b n cap:Nat} {cells:List PV} {vs rest:List Value} (hB:E.B <= b) (hh:w.heap[b]? = some (.cells (vs ++ rest).toArray e (0,0)))
  (hn:vs.length = n * sz) (hc:n <= cap) (hm:cap <= maxLen) (hl:(vs ++ rest).length = cap * sz) (hr:zbu w E.bare E.B cells vs) :
  OutR w E (.fr e sz cells) (.slice (some ⟨b,0,none⟩) n cap) [(.slice (some ⟨b,0,none⟩) n cap,some b)]
 | tbn {e e2:Nat}:OutR w E (.tb e e2 []) (.slice none 0 0) [(.slice none 0 0,none)]
 | tb {e e2 b n cap:Nat} {rows:List (List PV)} {vs rest:List Value} {lvs:List (Value × Option Nat)} (hB:E.B <= b) (hh:w.heap[b]? = some (.cells (vs ++ rest).toArray e (0,0)))
  (hn:vs.length = n) (hc:n <= cap) (hm:cap <= maxLen) (hl:(vs ++ rest).length = cap) (h1:rows.length = n) (h2:lvs.length = n)
  (hv:∀ i (b:i < vs.length) (c:i < lvs.length),lvs[i].1 = vs[i])
  (hin:∀ i (a:i < rows.length) (b:i < vs.length) (c:i < lvs.length),OutR w E (.fr e2 1 rows[i]) vs[i] [lvs[i]]) :
  OutR w E (.tb e e2 rows) (.slice (some ⟨b,0,none⟩) n cap) ((.slice (some ⟨b,0,none⟩) n cap,some b) :: lvs)
 | ag {l:List RV} {vs:List Value} {bss:List (List (Value × Option Nat))} (h1:l.length = vs.length) (h2:l.length = bss.length)
  (hh:∀ i (a:i < l.length) (b:i < vs.length) (c:i < bss.length),OutR w E l[i] vs[i] bss[i]):OutR w E (.ag l) (.agg vs.toArray) bss.flatten
 | tup {l:List RV} {vs:List Value} {bss:List (List (Value × Option Nat))} (h1:l.length = vs.length) (h2:l.length = bss.length)
  (hh:∀ i (a:i < l.length) (b:i < vs.length) (c:i < bss.length),OutR w E l[i] vs[i] bss[i]):OutR w E (.tup l) (.tuple vs.toArray) bss.flatten
def zmq (P:Program) (f:FuncId):Prop:=∃ fn,P.funcs[f]? = some fn/\(fn.name == "runtime.NumGoroutine") = false/\fn.body.isNone = false
def AC [zae] (P:Program) (f:FuncId) (args:List PV) (rv:RV):Prop :=
 zmq P f/\∀ (w:World) (vals:List Value),zae.Φ w->zbu w (Env.inn w.heap.size) 0 args vals ->
  Calls P f vals.toArray w fun e w'=>∃ v lv,e = .returned v/\Ext w w'/\OutR w' (Env.out w.heap.size (blk lv)) rv v lv/\(blk lv).Nodup
def RV.imm:RV->PV
 | .im p=>zhv true p
 | .fr _ sz cells=>.sl true sz cells
 | .ag l=>.ag (l.attach.map fun ⟨x,_⟩=>x.imm)
 | .tup l=>.tup (l.attach.map fun ⟨x,_⟩=>x.imm)
 | .tb _ _ _=>.junk
theorem RV.imm_ag (l:List RV):(RV.ag l).imm = .ag (l.map RV.imm):=by rw [RV.imm];simp
theorem RV.imm_tup (l:List RV):(RV.tup l).imm = .tup (l.map RV.imm):=by rw [RV.imm];simp
def znK (rw:Nat->Row) (p:PV):PV :=
 match p with
 | .v x=>if zey x = true then .sl false 1 [] else .v x
 | .own j v=>if (rw j).ver = v then (match (rw j).kind with | .nil=>.sl false 1 [] | .sli _ sz _ c=>.sl false sz c | _=>.junk) else .junk
 | _=>.junk
def zcS (rw:Nat->Row):Nat->PV->PV
 | 0,_=>.junk
 | n + 1,p =>
   match p with
   | .v x=>if zey x = true then .sl false 1 [] else .v x
   | .sl _ sz c=>.sl false sz c
   | .own k ver=>if (rw k).ver = ver then (match (rw k).kind with | .nil=>.sl false 1 [] | .sli _ sz _ c=>.sl false sz c | .tab _ c=>.sl false 1 (c.map (znK rw)) | _=>.junk) else .junk
   | .ref k ver off=>if (rw k).ver = ver then (match (rw k).kind with | .box _ c=>.eref false (c.map (zcS rw n)) off | .sli _ _ _ c=>.eref false c off | _=>.junk) else .junk
   | .eref _ c off=>.eref false c off
   | .ag c=>.ag (c.map (zcS rw n))
   | .tup _=>.junk
   | .clo f c=>.clo f (c.map (zcS rw n))
   | .junk=>.junk
theorem zgf (w:World) (E:Env) (B:Nat):Lasts w w E.bare (Env.inn B).bare :=
 ⟨fun b _ _=>⟨rfl,fun h=>h⟩,fun _=>Nat.le_refl _,fun _ _ h=>absurd h (by simp [Env.bare,RK.slice]),fun _ _ h=>absurd h (by simp [Env.bare,RK.nd]),Nat.le_refl _⟩
theorem zph (w:World) (B:Nat):Lasts w w (Env.inn B) (Env.inn B).bare :=
 ⟨fun b _ _=>⟨rfl,fun h=>h⟩,fun _=>Nat.le_refl _,fun _ _ h=>absurd h (by simp [Env.bare,RK.slice]),fun _ _ h=>absurd h (by simp [Env.bare,RK.nd]),Nat.zero_le _⟩
theorem zex (w:World) (E:Env) (lo:Nat) (fr:Bool) (sz:Nat):Rep w E lo (.sl fr sz []) (.slice none 0 0) :=
 .sl (fun _=>undef) sp (Nat.le_refl _) (Nat.zero_le _) (fun i hi=>absurd hi sp) (fun i hi=>absurd hi sp)
theorem zuQ [zae] {G:Ghost} {E:Env} {w:World} (hw:WOk G E w) (B:Nat) {p:PV} {x:Value} (h:Rep w E 0 p x):Rep w (Env.inn B) 0 (znK E.R p) x:=by
 cases h with
 | v x =>
   simp only [znK]
   by_cases hn:zey x = true
   ·rw [if_pos hn,zfa hn];exact zex _ _ _ _ _
   ·rw [if_neg hn];exact .v _
 | @own _ _ k ver x hv hx =>
   simp only [znK]
   by_cases he:(E.R k).ver = ver
   ·rw [if_pos he]
    have hrow:=hw.rows k
    unfold zav at hrow
    cases hk:(E.R k).kind with
    | mp f=>exact .junk _
    | dead=>exact .junk _
    | box t c=>exact .junk _
    | tab e c=>exact .junk _
    | nil =>
      simp only [hk] at hrow ⊢
      rw [hx he (by rw [hk];rfl),hrow.2]
      exact zex _ _ _ _ _
    | sli e sz fz c =>
      simp only [hk] at hrow ⊢
      rw [hx he (by rw [hk];rfl)]
      rcases hrow with ⟨h1,h2,h3⟩ | ⟨b,n,cap,vs,rest,h1,h2,h3,h4,h5,h6,h7,h8,h9⟩
      ·subst h3;rw [h2];exact zex _ _ _ _ _
      ·rw [h3]
       refine .sl (fun i=>vs.getD i undef) (h9.1.trans h5) h6 h7 (fun i hi=>⟨b,0,rfl,by simp [Env.lo],fun h=>h,?_⟩) (fun i hi=>?_)
       ·have hi':i < vs.length:=by rw [<- h9.1];exact hi
        rw [Nat.zero_add,zaL h4 (by simp;omega)]
        simp [List.getElem_append_left hi',List.getD,hi']
       ·have hi':i < vs.length:=by rw [<- h9.1];exact hi
        have e:vs.getD i undef = vs[i]:=by simp [List.getD,hi']
        rw [e]
        exact (h9.2 i hi hi').mono (zgf w E B) (by simp [Env.lo])
   ·rw [if_neg he];exact .junk _
 | _=>exact .junk _
theorem zpi [zae] {G:Ghost} {E:Env} {w:World} (hw:WOk G E w) (B:Nat):∀ (n:Nat) {p:PV} {x:Value},Rep w E 0 p x->Rep w (Env.inn B) 0 (zcS E.R n p) x:=by
 intro n
 induction n with
 | zero=>intro p x _;exact .junk _
 | succ n ih =>
   intro p x h
   cases h with
   | v x =>
     simp only [zcS]
     by_cases hn:zey x = true
     ·rw [if_pos hn,zfa hn];exact zex _ _ _ _ _
     ·rw [if_neg hn];exact .v _
   | @sl _ _ fr sz len cap cells a cs hl hc hm hr hh =>
     simp only [zcS]
     refine .sl cs hl hc hm (fun i hi=>?_) (fun i hi=>(hh i hi).mono (zgf w E B) (by simp [Env.lo]))
     obtain ⟨b,o,ha,hb,hL,hcell⟩:=hr i hi
     exact ⟨b,o,ha,by simp [Env.lo],fun h=>h,hcell⟩
   | @own _ _ k ver x hv hx =>
     simp only [zcS]
     by_cases he:(E.R k).ver = ver
     ·rw [if_pos he]
      have hrow:=hw.rows k
      unfold zav at hrow
      cases hk:(E.R k).kind with
      | mp f=>exact .junk _
      | dead=>exact .junk _
      | box t c=>exact .junk _
      | nil =>
        simp only [hk] at hrow ⊢
        rw [hx he (by rw [hk];rfl),hrow.2]
        exact zex _ _ _ _ _
      | sli e sz fz c =>
        simp only [hk] at hrow ⊢
        rw [hx he (by rw [hk];rfl)]
        rcases hrow with ⟨h1,h2,h3⟩ | ⟨b,n,cap,vs,rest,h1,h2,h3,h4,h5,h6,h7,h8,h9⟩
        ·subst h3;rw [h2];exact zex _ _ _ _ _
        ·rw [h3]
         refine .sl (fun i=>vs.getD i undef) (h9.1.trans h5) h6 h7 (fun i hi=>⟨b,0,rfl,by simp [Env.lo],fun h=>h,?_⟩) (fun i hi=>?_)
         ·have hi':i < vs.length:=by rw [<- h9.1];exact hi
          rw [Nat.zero_add,zaL h4 (by simp;omega)]
          simp [List.getElem_append_left hi',List.getD,hi']
         ·have hi':i < vs.length:=by rw [<- h9.1];exact hi
          have e:vs.getD i undef = vs[i]:=by simp [List.getD,hi']
          rw [e]
          exact (h9.2 i hi hi').mono (zgf w E B) (by simp [Env.lo])
      | tab e c =>
        simp only [hk] at hrow ⊢
        rw [hx he (by rw [hk];rfl)]
        rcases hrow with ⟨h1,h2,h3⟩ | ⟨b,n',cap,vs,rest,h1,h2,h3,h4,h5,h6,h7,h8,h9⟩
        ·subst h3;rw [h2];exact zex _ _ _ _ _
        rw [h3]
        refine .sl (fun i=>vs.getD i undef) (by simp;rw [h9.1,h5]) h6 h7 (fun i hi=>⟨b,0,rfl,by simp [Env.lo],fun h=>h,?_⟩) (fun i hi=>?_)
        ·have hi':i < vs.length:=by rw [<- h9.1];simpa using hi
         rw [Nat.zero_add,zaL h4 (by simp;omega)]
         simp [List.getElem_append_left hi',List.getD,hi']
        ·have hi0:i < c.length:=by simpa using hi
         have hi':i < vs.length:=by rw [<- h9.1];exact hi0
         have e:vs.getD i undef = vs[i]:=by simp [List.getD,hi']
         rw [e]
         simp only [List.getElem_map]
         exact (zuQ hw B (h9.2 i hi0 hi')).mono (zph w B) (by simp [Env.lo])
     ·rw [if_neg he];exact .junk _
   | @ref _ _ k ver off x hv hx =>
     simp only [zcS]
     by_cases he:(E.R k).ver = ver
     ·rw [if_pos he]
      have hrow:=hw.rows k
      unfold zav at hrow
      cases hk:(E.R k).kind with
      | mp f=>exact .junk _
      | dead=>exact .junk _
      | nil=>exact .junk _
      | box t c =>
        simp only [hk] at hrow ⊢
        obtain ⟨b,vs,h1,h2,h3,h4⟩:=hrow
        obtain ⟨b',h1',hx⟩:=hx he (by rw [hk];rfl)
        rw [h1] at h1';cases h1'
        rw [hx]
        have:=Rep.eref (w:=w) (E:=Env.inn B) (lo:=0) (fr:=false) (cells:=c.map (zcS E.R n)) (off:=off) (b:=b) (o:=0) (fun i=>vs.getD i undef)
         (fun i hi=>by
          have hi':i < vs.length:=by rw [<- h4.1];simpa using hi
          refine ⟨by simp [Env.lo],fun h=>h,?_⟩
          rw [Nat.zero_add,zaL h3 hi']
          simp [List.getD,hi'])
         (fun i hi=>by
          have hi0:i < c.length:=by simpa using hi
          have hi':i < vs.length:=by rw [<- h4.1];exact hi0
          have e:vs.getD i undef = vs[i]:=by simp [List.getD,hi']
          rw [e]
          simp only [List.getElem_map]
          exact (ih (h4.2 i hi0 hi')).mono (zph w B) (by simp [Env.lo]))
        simpa using this
      | tab e c=>exact .junk _
      | sli e sz fz c =>
        simp only [hk] at hrow ⊢
        obtain ⟨b',h1',hx⟩:=hx he (by rw [hk];rfl)
        rcases hrow with ⟨h1,h2,h3⟩ | ⟨b,m,cap,vs,rest,h1,h2,h3,h4,h5,h6,h7,h8,h9⟩
        ·rw [h1] at h1';exact absurd h1' sp
        ·rw [h1] at h1'
         obtain rfl:b = b':=by simpa using h1'
         rw [hx]
         have:=Rep.eref (w:=w) (E:=Env.inn B) (lo:=0) (fr:=false) (cells:=c) (off:=off) (b:=b) (o:=0) (fun i=>vs.getD i undef)
          (fun i hi=>by
           have hi':i < vs.length:=by rw [<- h9.1];exact hi
           refine ⟨by simp [Env.lo],fun h=>h,?_⟩
           rw [Nat.zero_add,zaL h4 (by simp;omega)]
           simp [List.getElem_append_left hi',List.getD,hi'])
          (fun i hi=>by
           have hi':i < vs.length:=by rw [<- h9.1];exact hi
           have e:vs.getD i undef = vs[i]:=by simp [List.getD,hi']
           rw [e]
           exact (h9.2 i hi hi').mono (zgf w E B) (by simp [Env.lo]))
         simpa using this
     ·rw [if_neg he];exact .junk _
   | @eref _ _ fr cells off b o cs hr hh =>
     simp only [zcS]
     refine .eref cs (fun i hi=>?_) (fun i hi=>(hh i hi).mono (zgf w E B) (by simp [Env.lo]))
     obtain ⟨hb,hL,hcell⟩:=hr i hi
     exact ⟨by simp [Env.lo],fun h=>h,hcell⟩
   | ag hl hh =>
     simp only [zcS]
     exact .ag (by simpa using hl) (fun i a b=>by simp only [List.getElem_map];exact ih (hh i (by simpa using a) b))
   | tup hl hh=>simp only [zcS];exact .junk _
   | clo hl hh =>
     simp only [zcS]
     exact .clo (by simpa using hl) (fun i a b=>by simp only [List.getElem_map];exact ih (hh i (by simpa using a) b))
   | junk x=>simp only [zcS];exact .junk _
section
variable {P:Program} {T:Tab} {rw:Nat->Row} {ev:Operand->PV}
theorem zit {o:Option Operand} {d:Int} {K:Int->Prop} (h:znw ev o d K):∃ n,K n/\∀ K':Int->Prop,K' n->znw ev o d K':=by
 unfold znw at *
 cases o with
 | none=>exact ⟨_,h,fun _ h=>h⟩
 | some x =>
   dsimp only at h ⊢
   split at h
   ·exact ⟨_,h,fun _ h=>h⟩
   ·exact h.elim
theorem zCT {p:PV} {K:Bool->Nat->List PV->Prop} (h:zhu rw p K):∃ a b c,K a b c/\∀ K':Bool->Nat->List PV->Prop,K' a b c->zhu rw p K':=by
 unfold zhu at *
 split at h
 ·exact ⟨_,_,_,h,fun _ h=>h⟩
 ·obtain ⟨h1,h2,h⟩:=h
  split at h
  ·exact ⟨_,_,_,h,fun _ h=>⟨h1,h2,h⟩⟩
  ·exact h.elim
 ·exact h.elim
theorem zuP {p:PV} {K:Bool->Nat->List PV->Prop} (h:slK rw p K):∃ a b c,K a b c/\∀ K':Bool->Nat->List PV->Prop,K' a b c->slK rw p K':=by
 unfold slK at *
 split at h
 ·exact ⟨_,_,_,h,fun _ h=>h⟩
 ·obtain ⟨h2,h⟩:=h
  split at h
  ·exact ⟨_,_,_,h,fun _ h=>⟨h2,h⟩⟩
  ·exact ⟨_,_,_,h,fun _ h=>⟨h2,h⟩⟩
  ·exact h.elim
 ·exact ⟨_,_,_,h.2,fun _ h'=>⟨h.1,h'⟩⟩
 ·exact h.elim
theorem zxX {p:PV} {K:Md->List PV->Nat->Prop} (h:zue rw p K):∃ a b c,K a b c/\∀ K':Md->List PV->Nat->Prop,K' a b c->zue rw p K':=by
 unfold zue at *
 split at h
 ·obtain ⟨h2,h⟩:=h
  split at h
  ·exact ⟨_,_,_,h,fun _ h=>⟨h2,h⟩⟩
  ·exact ⟨_,_,_,h,fun _ h=>⟨h2,h⟩⟩
  ·exact ⟨_,_,_,h,fun _ h=>⟨h2,h⟩⟩
  ·exact h.elim
 ·exact ⟨_,_,_,h,fun _ h=>h⟩
 ·exact h.elim
theorem zFn {p:PV} {K:Nat->Nat->Prop} (h:zzV rw p K):∃ a b,K a b/\∀ K':Nat->Nat->Prop,K' a b->zzV rw p K':=by
 unfold zzV at *
 split at h
 ·exact ⟨_,_,h,fun _ h=>h⟩
 ·obtain ⟨h2,h⟩:=h
  split at h
  ·exact ⟨_,_,h,fun _ h=>⟨h2,h⟩⟩
  ·exact ⟨_,_,h,fun _ h=>⟨h2,h⟩⟩
  ·exact ⟨_,_,h,fun _ h=>⟨h2,h⟩⟩
  ·exact h.elim
 ·exact ⟨_,_,h.2,fun _ h'=>⟨h.1,h'⟩⟩
 ·exact h.elim
theorem zjh {t:TypeId} {m:Md} {c:List PV} {off:Nat} {K:PV->Prop} (h:ldK T t m c off K):∃ p,K p/\∀ K':PV->Prop,K' p->ldK T t m c off K':=by
 unfold ldK at *
 obtain ⟨h1,h⟩:=h
 split at h
 ·exact ⟨_,h.2,fun _ h'=>⟨h1,h.1,h'⟩⟩
 ·exact ⟨_,h.2,fun _ h'=>⟨h1,h.1,h'⟩⟩
theorem zgH {t:TypeId} {f:Nat} {K:Nat->TypeId->Prop} (h:zei T t f K):∃ a b,K a b/\∀ K':Nat->TypeId->Prop,K' a b->zei T t f K':=by
 unfold zei at *
 obtain ⟨h1,h⟩:=h
 split at h
 ·split at h
  ·exact ⟨_,_,h.2,fun _ h'=>⟨h1,h.1,h'⟩⟩
  ·exact h.elim
 ·exact h.elim
theorem zge {p:PV} {K:Prop} (h:zdW rw p K):K/\∀ K':Prop,K'->zdW rw p K':=by
 unfold zdW at *
 split at h
 ·exact ⟨h.2.2,fun _ h'=>⟨h.1,h.2.1,h'⟩⟩
 ·exact ⟨h,fun _ h=>h⟩
 ·exact ⟨h,fun _ h=>h⟩
 ·exact h.elim
theorem zhe [zae] {t:TypeId} {x i:PV} {K:PV->Prop} (h:zbz T rw t x i K):∃ p,K p/\∀ K':PV->Prop,K' p->zbz T rw t x i K':=by
 unfold zbz at *
 split at h
 ·obtain ⟨h1,h⟩:=h
  split at h
  ·split at h
   ·obtain ⟨a,b,c,d,h⟩:=h
    exact ⟨_,h,fun _ h'=>⟨h1,a,b,c,d,h'⟩⟩
   ·obtain ⟨a0,h⟩:=h
    split at h
    ·obtain ⟨a,b,c,d,h⟩:=h
     exact ⟨_,h,fun _ h'=>⟨h1,a0,a,b,c,d,h'⟩⟩
    ·obtain ⟨a,b,c,h⟩:=h
     exact ⟨_,h,fun _ h'=>⟨h1,a0,a,b,c,h'⟩⟩
    ·exact h.elim
   ·exact h.elim
  ·obtain ⟨a,b,c,d,h⟩:=h
   obtain ⟨h,h'⟩:=zge h
   exact ⟨_,h,fun _ hk=>⟨h1,a,b,c,d,h' _ hk⟩⟩
  ·exact h.elim
 ·exact h.elim
theorem zxY [zae] {t:TypeId} {x:PV} {K:PV->Prop} (h:zCZ T rw t x K):∃ p,K p/\∀ K':PV->Prop,K' p->zCZ T rw t x K':=by
 unfold zCZ at *
 obtain ⟨h1,h⟩:=h
 split at h
 ·split at h
  ·exact ⟨_,h,fun _ h'=>⟨h1,h'⟩⟩
  ·exact h.elim
 ·obtain ⟨a,b,h,h'⟩:=zFn h
  exact ⟨_,h.2,fun _ hk=>⟨h1,h' _ ⟨h.1,hk⟩⟩⟩
 ·exact ⟨_,h,fun _ h'=>⟨h1,h'⟩⟩
 ·exact h.elim
theorem zpg [zae] {t:TypeId} {x:PV} {lo hi mx:Option Operand} {K:PV->Prop} (h:zbJ T rw ev t x lo hi mx K):∃ p,K p/\∀ K':PV->Prop,K' p->zbJ T rw ev t x lo hi mx K':=by
 unfold zbJ at *
 obtain ⟨h1,h⟩:=h
 split at h
 ·obtain ⟨h2,h⟩:=h
  split at h
  ·obtain ⟨l,h,hl⟩:=zit h
   obtain ⟨u,h,hu⟩:=zit h
   obtain ⟨a,b,c,h⟩:=h
   exact ⟨_,h,fun _ h'=>⟨h1,h2,hl _ (hu _ ⟨a,b,c,h'⟩)⟩⟩
  ·exact h.elim
 ·obtain ⟨fr,sz,c,⟨h3,h4,h⟩,hs⟩:=zCT h
  obtain ⟨l,h,hl⟩:=zit h
  obtain ⟨u,h,hu⟩:=zit h
  obtain ⟨m,h,hm⟩:=zit h
  obtain ⟨a,b,c,d,e,h⟩:=h
  exact ⟨_,h,fun _ h'=>⟨h1,hs _ ⟨h3,h4,hl _ (hu _ (hm _ ⟨a,b,c,d,e,h'⟩))⟩⟩⟩
 ·exact h.elim
theorem ze9 {m:Bool} {x y:PV} {K:PV->Prop} (h:zc9 m x y K):∃ p,K p/\∀ K':PV->Prop,K' p->zc9 m x y K':=by
 unfold zc9 at *
 split at h
 ·exact ⟨_,h,fun _ h=>h⟩
 ·exact h.elim
theorem ztq [zae] {a b:TypeId} {x:PV} {K:PV->Prop} (h:zg0 T rw a b x K):∃ p,K p/\∀ K':PV->Prop,K' p->zg0 T rw a b x K':=by
 unfold zg0 at *
 obtain ⟨h1,h2,h⟩:=h
 split at h
 ·split at h
  ·exact ⟨_,h,fun _ h'=>⟨h1,h2,h'⟩⟩
  ·exact h.elim
 ·split at h
  ·exact ⟨_,h,fun _ h'=>⟨h1,h2,h'⟩⟩
  ·exact h.elim
 ·obtain ⟨h3,h⟩:=h
  split at h
  ·obtain ⟨a,b,c,⟨h4,bs,h5,h⟩,hs⟩:=zuP h
   exact ⟨_,h,fun _ h'=>⟨h1,h2,h3,hs _ ⟨h4,bs,h5,h'⟩⟩⟩
  ·exact h.elim
 ·exact h.elim
theorem zxZ {op:BinOp} {t:TypeId} {x y:PV} {K:PV->Prop} (h:zdw T op t x y K):∃ p,K p/\∀ K':PV->Prop,K' p->zdw T op t x y K':=by
 unfold zdw at *
 split at h
 ·exact ⟨_,h.2,fun _ h'=>⟨h.1,h'⟩⟩
 ·obtain ⟨h1,h⟩:=h
  split at h
  ·exact ⟨_,h,fun _ h'=>⟨h1,h'⟩⟩
  ·exact h.elim
 ·obtain ⟨h1,h2,h⟩:=h
  split at h
  ·exact ⟨_,h,fun _ h'=>⟨h1,h2,h'⟩⟩
  ·exact ⟨_,h,fun _ h'=>⟨h1,h2,h'⟩⟩
  ·exact h.elim
 ·exact h.elim
theorem zCU {op:UnOp} {x:PV} {K:PV->Prop} (h:unK op x K):∃ p,K p/\∀ K':PV->Prop,K' p->unK op x K':=by
 unfold unK at *
 split at h
 ·exact ⟨_,h,fun _ h=>h⟩
 ·exact ⟨_,h,fun _ h=>h⟩
 ·exact ⟨_,h,fun _ h=>h⟩
 ·exact h.elim
end
section
variable {P:Program} {T:Tab} {G:Ghost} {K:PV->Prop} {s:St}
theorem zaF [zae] {o:Oper} {p:PV} (h:∀ (E:Env) (a:Act) (w:World),E.R = s.rw->WOk G E w->(∀ x ∈ o.op.operands,Rep w E 0 (s.ev x) (a.eval x))->∃ v,(execOp a.eval o).run P w = .ok (.value v) w/\Rep w E 0 p v) :
 zhf P G s o p:=zqt fun E a w hR hw hx=>let ⟨v,h1,h2⟩:=h E a w hR hw hx;⟨v,w,h1,Ext.refl w,h2⟩
theorem zj2 [zae] {w:World} {E:Env} {m:Bool} {p q:PV} {a b:Value} {r:PV} (hk:zc9 m p q (· = r)) (hp:Rep w E 0 p a) (hq:Rep w E 0 q b) :
 ∃ v,(match m with | true=>Builtin.max_ #[] 0 #[a,b] | false=>Builtin.min_ #[] 0 #[a,b]:Sem Value).run P w = .ok v w/\Rep w E 0 r v:=by
 unfold zc9 at hk
 split at hk
 ·have:=hp.v_eq;subst this
  have:=hq.v_eq;subst this
  subst hk
  cases m
  ·exact ⟨_,by simp [Builtin.min_,Builtin.min2],.v _⟩
  ·exact ⟨_,by simp [Builtin.max_,Builtin.max2],.v _⟩
 ·exact hk.elim
theorem ztr [zae] (hT:T.Ok P) {o:Oper} (hk:zkl T s.rw s.ev o.op K):∃ p,K p/\zhf P G s o p:=by
 cases ho:o.op with
 | move x =>
   rw [ho] at hk
   exact ⟨_,hk,zaF fun E a w hR hw hx=>⟨a.eval x,by simp [execOp,ho],hx x (by simp [ho,Op.operands])⟩⟩
 | assign x =>
   rw [ho] at hk
   exact ⟨_,hk,zaF fun E a w hR hw hx=>⟨a.eval x,by simp [execOp,ho],hx x (by simp [ho,Op.operands])⟩⟩
 | pick c x y =>
   rw [ho] at hk
   simp only [zkl] at hk
   split at hk
   ·rename_i t hc
    cases t with
    | true =>
      refine ⟨_,hk.1 rfl,zaF fun E a w hR hw hx=>⟨a.eval x,?_,hx x (by simp [ho,Op.operands])⟩⟩
      have h1:=hx c (by simp [ho,Op.operands])
      rw [hc] at h1
      simp [execOp,ho,h1.v_eq,asBool]
    | false =>
      refine ⟨_,hk.2 rfl,zaF fun E a w hR hw hx=>⟨a.eval y,?_,hx y (by simp [ho,Op.operands])⟩⟩
      have h1:=hx c (by simp [ho,Op.operands])
      rw [hc] at h1
      simp [execOp,ho,h1.v_eq,asBool]
   ·exact hk.elim
 | binOp op t x y yt =>
   rw [ho] at hk
   obtain ⟨p,hp,hd⟩:=zxZ hk
   refine ⟨p,hp,zaF fun E a w hR hw hx=>?_⟩
   obtain ⟨r,rfl,v,hv,hr⟩:=zCV (x:=x) (y:=y) hT (hd (· = p) rfl) (hx x (by simp [ho,Op.operands])) (hx y (by simp [ho,Op.operands]))
   exact ⟨v,by simp only [execOp,ho];rw [Sem.run_bind,hv];rfl,hr⟩
 | unOp op t x =>
   rw [ho] at hk
   obtain ⟨p,hp,hd⟩:=zCU hk
   refine ⟨p,hp,zaF fun E a w hR hw hx=>?_⟩
   obtain ⟨r,rfl,v,hv,hr⟩:=zFo (P:=P) (hd (· = p) rfl) (hx x (by simp [ho,Op.operands]))
   exact ⟨v,by simp [execOp,ho,hv],hr⟩
 | convert src dst x =>
   rw [ho] at hk
   obtain ⟨p,hp,hd⟩:=ztq hk
   refine ⟨p,hp,zaF fun E a w hR hw hx=>?_⟩
   obtain ⟨r,rfl,v,hv,hr⟩:=zza hT hw (hd (· = p) rfl) hR (hx x (by simp [ho,Op.operands]))
   exact ⟨v,by simp [execOp,ho,hv],hr⟩
 | load t x =>
   rw [ho] at hk
   simp only [zkl] at hk
   obtain ⟨m,c,off,hk,hd⟩:=zxX hk
   obtain ⟨p,hp,hl⟩:=zjh hk
   refine ⟨p,hp,zaF fun E a w hR hw hx=>?_⟩
   have h1:=hd (fun m c off=>ldK T t m c off (· = p)) (hl _ rfl)
   obtain ⟨m',c',off',h2,hat⟩:=zpj h1 hR hw (hx x (by simp [ho,Op.operands]))
   obtain ⟨r,v,rfl,hv,hr⟩:=zts hT h2 hat
   exact ⟨v,by simp [execOp,ho,hv],hr⟩
 | fieldAddr t x f =>
   rw [ho] at hk
   obtain ⟨o',ft,hk,hd⟩:=zgH hk
   obtain ⟨hptr,hk⟩:=hk
   obtain ⟨hk,hs⟩:=zge hk
   refine ⟨_,hk,zaF fun E a w hR hw hx=>?_⟩
   have h1:=hd (fun o'' _=>zmu (s.ev x) = true/\zdW s.rw (s.ev x) ((· = zeP (s.ev x) o') (zeP (s.ev x) o''))) ⟨hptr,hs _ rfl⟩
   obtain ⟨r,rfl,v,hv,hr⟩:=zmr (K:=(· = zeP (s.ev x) o')) hT h1 hR (hx x (by simp [ho,Op.operands]))
   exact ⟨v,by simp [execOp,ho,hv],hr⟩
 | field t x f =>
   rw [ho] at hk
   obtain ⟨o',ft,hk,hd⟩:=zgH hk
   cases he:s.ev x with
   | ag c =>
     rw [he] at hk
     obtain ⟨p,hp,hl⟩:=zjh hk
     refine ⟨p,hp,zaF fun E a w hR hw hx=>?_⟩
     have h1:=hd (fun o ft=>(match s.ev x with | .ag c=>ldK T ft .asis c o (· = p) | _=>False)) (by rw [he];exact hl _ rfl)
     obtain ⟨r,rfl,v,hv,hr⟩:=zuS hT h1 (hx x (by simp [ho,Op.operands]))
     exact ⟨v,by simp [execOp,ho,hv],hr⟩
   | _=>rw [he] at hk;exact hk.elim
 | indexAddr t x i =>
   rw [ho] at hk
   obtain ⟨p,hp,hd⟩:=zhe hk
   refine ⟨p,hp,zaF fun E a w hR hw hx=>?_⟩
   obtain ⟨r,rfl,v,hv,hr⟩:=zmt hT hw (hd (· = p) rfl) hR (hx x (by simp [ho,Op.operands])) (hx i (by simp [ho,Op.operands]))
   exact ⟨v,by simp [execOp,ho,hv],hr⟩
 | index t x i =>
   rw [ho] at hk
   simp only [zkl] at hk
   obtain ⟨hs,hk⟩:=hk
   have hf:=(hT t hs).k
   split at hk
   ·rename_i b k n hkt hx1 hi1
    rw [hkt] at hf
    have hu:P.underlying t = some .string:=hf
    obtain ⟨h0,h1,hk⟩:=hk
    refine ⟨_,hk,zaF fun E a w hR hw hx=>?_⟩
    have e1:=hx x (by simp [ho,Op.operands])
    have e2:=hx i (by simp [ho,Op.operands])
    rw [hx1] at e1;rw [hi1] at e2
    refine ⟨_,?_,.v _⟩
    have hb:b[n.toNat]? = some (b.data.toList.getD n.toNat 0):=by
     have h1':n.toNat < b.data.size:=h1
     rw [getElem?_pos b n.toNat h1]
     have h2:b[n.toNat] = b.data[n.toNat]:=rfl
     simp only [List.getD,Array.getElem?_toList,Option.some.injEq]
     rw [h2,getElem?_pos b.data n.toNat h1']
     rfl
    simp [execOp,ho,e1.v_eq,e2.v_eq,Instr.index,asIntOf,run_underlying hu,h0,hb]
   ·rename_i len e c k n hkt hx1 hi1
    rw [hkt] at hf
    have hu:P.underlying t = some (.array len e):=hf
    obtain ⟨h0,h1,hk⟩:=hk
    obtain ⟨p,hp,hl⟩:=zjh hk
    refine ⟨p,hp,zaF fun E a w hR hw hx=>?_⟩
    have e1:=hx x (by simp [ho,Op.operands])
    have e2:=hx i (by simp [ho,Op.operands])
    rw [hx1] at e1;rw [hi1] at e2
    have hsz:=za0 (hT e hk.1) w
    generalize hvx:a.eval x = vx at e1
    generalize hvi:a.eval i = vi at e2
    have:=e2.v_eq;subst this
    cases e1 with
    | @ag _ _ _ vs hlen hh =>
      obtain ⟨r,rfl,v,hv,hr⟩:=zCW (w:=w) (E:=E) hT (hl (· = p) rfl) hlen hh
      refine ⟨v,?_,hr⟩
      simp [execOp,ho,hvi,hvx,Instr.index,asIntOf,run_underlying hu,h0,h1,hsz,hv]
   ·exact hk.elim
 | slice t x lo hi mx =>
   rw [ho] at hk
   obtain ⟨p,hp,hd⟩:=zpg hk
   refine ⟨p,hp,zaF fun E a w hR hw hx=>?_⟩
   obtain ⟨r,rfl,v,hv,hr⟩:=zuR (a:=a) hT hw (hd (· = p) rfl) hR (hx x (by simp [ho,Op.operands]))
    (fun y hy=>hx y (by subst hy;simp [ho,Op.operands])) (fun y hy=>hx y (by subst hy;simp [ho,Op.operands])) (fun y hy=>hx y (by subst hy;simp [ho,Op.operands]))
   exact ⟨v,by simp [execOp,ho,hv],hr⟩
 | extract x i =>
   rw [ho] at hk
   simp only [zkl] at hk
   split at hk
   ·rename_i ps he
    obtain ⟨hi,hk⟩:=hk
    refine ⟨_,hk,zaF fun E a w hR hw hx=>?_⟩
    have e1:=hx x (by simp [ho,Op.operands])
    rw [he] at e1
    generalize hvx:a.eval x = vx at e1
    cases e1 with
    | @tup _ _ _ vs hl hh =>
      have hi':i < vs.length:=om
      have e:ps.getD i .junk = ps[i]:=by simp [List.getD,hi]
      refine ⟨vs[i],?_,by rw [e];exact hh i hi hi'⟩
      simp [execOp,ho,hvx,Instr.extract,hi']
   ·exact hk.elim
 | makeFunc fn first caps =>
   rw [ho] at hk
   simp only [zkl] at hk
   split at hk
   ·rename_i f
    obtain ⟨rfl,hk⟩:=hk
    refine ⟨_,hk,zaF fun E a w hR hw hx=>?_⟩
    refine ⟨.func (.func f) #[] (caps.map a.eval),by simp [execOp,ho,Instr.makeFunc],?_⟩
    have:=Rep.clo (w:=w) (E:=E) (lo:=0) (f:=f) (cells:=caps.toList.map s.ev) (vs:=caps.toList.map a.eval) sp (fun i h h'=>by
     simp only [List.getElem_map]
     exact hx _ (by simp [ho,Op.operands]))
    rw [show Array.map a.eval caps = (caps.toList.map a.eval).toArray from Array.toList_inj.1 (by rw [Array.toList_map])]
    exact this
   ·exact hk.elim
 | nilCheck x =>
   rw [ho] at hk
   obtain ⟨hk,hs⟩:=zge hk
   refine ⟨_,hk,zaF fun E a w hR hw hx=>?_⟩
   have e1:=hx x (by simp [ho,Op.operands])
   obtain ⟨_,h⟩:=zji (hs True trivial) hR e1
   refine ⟨a.eval x,?_,e1⟩
   rcases h with ⟨f,cs,vs,_,hv⟩ | ⟨b,o',hv,_,_⟩
   ·simp [execOp,ho,hv]
   ·simp [execOp,ho,hv]
 | call c =>
   rw [ho] at hk
   simp only [zkl] at hk
   split at hk
   ·rename_i x t
    obtain ⟨p,hp,hd⟩:=zxY hk
    refine ⟨p,hp,zaF fun E a w hR hw hx=>?_⟩
    obtain ⟨r,rfl,v,hv,hr⟩:=zCY (ty:=o.type) hT hw (hd (· = p) rfl) hR (hx x (by simp [ho,Op.operands,Call.operands]))
    exact ⟨v,by simp [execOp,ho,resolve,invoke,builtin,hv],hr⟩
   ·rename_i x y _
    obtain ⟨p,hp,hd⟩:=ze9 hk
    refine ⟨p,hp,zaF fun E a w hR hw hx=>?_⟩
    obtain ⟨v,hv,hr⟩:=zj2 (P:=P) (hd (· = p) rfl) (hx x (by simp [ho,Op.operands,Call.operands])) (hx y (by simp [ho,Op.operands,Call.operands]))
    exact ⟨v,by have hv':=hv;simp [Builtin.max_] at hv';simp [execOp,ho,resolve,invoke,builtin,Builtin.max_,hv'],hr⟩
   ·rename_i x y _
    obtain ⟨p,hp,hd⟩:=ze9 hk
    refine ⟨p,hp,zaF fun E a w hR hw hx=>?_⟩
    obtain ⟨v,hv,hr⟩:=zj2 (P:=P) (hd (· = p) rfl) (hx x (by simp [ho,Op.operands,Call.operands])) (hx y (by simp [ho,Op.operands,Call.operands]))
    exact ⟨v,by have hv':=hv;simp [Builtin.min_] at hv';simp [execOp,ho,resolve,invoke,builtin,Builtin.min_,hv'],hr⟩
   ·exact hk.elim
 | lookup t x i ok =>
   rw [ho] at hk
   obtain ⟨rfl,hk⟩:=hk
   obtain ⟨p,hp,hd⟩:=ztu hk
   refine ⟨p,hp,zaF fun E a w hR hw hx=>?_⟩
   obtain ⟨r,rfl,v,hv,hr⟩:=zze hT hw (hd (· = p) rfl) hR (hx x (by simp [ho,Op.operands])) (hx i (by simp [ho,Op.operands]))
   exact ⟨v,by simp [execOp,ho,hv],hr⟩
 | _=>rw [ho] at hk;exact hk.elim
end
def zgZ:Nat:=3
def ze8 [zae] (P:Program) (rw:Nat->Row) (ev:Operand->PV) (f:Operand) (args:Array Operand) (K:RV->Prop):Prop :=
 match ev f with
 | .clo g caps=>∃ rv,AC P g ((args.toList.map fun x=>zcS rw zgZ (ev x)) ++ caps.map (zcS rw zgZ)) rv/\K rv
 | _=>False
section
variable {P:Program} {T:Tab} {G:Ghost} {s:St}
theorem zbu.append {w:World} {E:Env} {lo:Nat} {p q:List PV} {x y:List Value} (h:zbu w E lo p x) (k:zbu w E lo q y):zbu w E lo (p ++ q) (x ++ y):=by
 refine ⟨by simp [h.1,k.1],fun i a b=>?_⟩
 by_cases hi:i < p.length
 ·rw [List.getElem_append_left hi,List.getElem_append_left (by rw [<- h.1];exact hi)]
  exact h.2 i _ _
 ·rw [List.getElem_append_right om,List.getElem_append_right (by rw [<- h.1];omega)]
  have e:i - x.length = i - p.length:=by rw [h.1]
  have:=k.2 (i - p.length) (by simp at a;omega) (by have h0:=h.1;have h1:=k.1;simp at a;omega)
  simpa [e] using this
theorem zbu.map {w:World} {E:Env} {lo:Nat} {α:Type} {l:List α} {f:α->PV} {g:α->Value} (h:∀ x ∈ l,Rep w E lo (f x) (g x)):zbu w E lo (l.map f) (l.map g) :=
 ⟨sp,fun i a b=>by simp only [List.getElem_map];exact h _ (List.getElem_mem _)⟩
theorem zkU {o:Oper} {c:Call} {f:Operand} (ho:o.op = .call c) (hc:c.callee = .value f) {a:Act} {w:World} {g:FuncId} {vs:List Value} (hf:a.eval f = .func (.func g) #[] vs.toArray)
 (he:zmq P g):(execOp a.eval o).run P w = .ok (.enter g ((c.args.toList.map a.eval) ++ vs).toArray) w:=by
 obtain ⟨fn,h1,h2,h3⟩:=he
 have hn:¬ fn.name = "runtime.NumGoroutine":=by simpa using h2
 have hb:fn.body.isNone = false:=h3
 have hb':¬ fn.body = none:=by intro h;rw [h] at hb;cases hb
 have e:(c.args.map a.eval) ++ vs.toArray = ((c.args.toList.map a.eval) ++ vs).toArray:=by
  apply Array.toList_inj.1;simp
 simp [execOp,ho,resolve,hc,hf,Deferred.ofValue,invoke,callFunc,h1,hn,hb']
theorem zCS [zae] {o:Oper} {c:Call} {f:Operand} {Kr:RV->Prop} (ho:o.op = .call c) (hc:c.callee = .value f) (hk:ze8 P s.rw s.ev f c.args Kr) :
 ∃ rv,Kr rv/\∀ (E:Env) (a:Act) (w:World),E.R = s.rw->WOk G E w->(∀ x ∈ o.op.operands,Rep w E 0 (s.ev x) (a.eval x)) ->
  ∀ (K:Act->World->Prop) (Q:Exit->Act->World->Prop),(∀ v w' lv,Ext w w'->OutR w' (Env.out w.heap.size (blk lv)) rv v lv->(blk lv).Nodup->K (a.put o.dst v) w')->o.wp P a w K Q:=by
 unfold ze8 at hk
 split at hk
 ·rename_i g caps hev
  obtain ⟨rv,hac,hk⟩:=hk
  refine ⟨rv,hk,fun E a w hR hw hx K Q hK=>?_⟩
  have hfx:=hx f (by simp [ho,Op.operands,Call.operands,hc])
  rw [hev] at hfx
  generalize hvf:a.eval f = vf at hfx
  cases hfx with
  | @clo _ _ _ _ vs hl hh =>
    have hargs:zbu w (Env.inn w.heap.size) 0 ((c.args.toList.map fun x=>zcS s.rw zgZ (s.ev x)) ++ caps.map (zcS s.rw zgZ)) (c.args.toList.map a.eval ++ vs):=by
     refine zbu.append (zbu.map fun x hx'=>?_) ⟨by simp [hl],fun i p q=>?_⟩
     ·rw [<- hR];exact zpi hw _ _ (hx x (by simp [ho,Op.operands,Call.operands,hc];exact .inr (by simpa using hx')))
     ·simp only [List.getElem_map]
      have:=zpi hw w.heap.size zgZ (hh i (by simpa using p) q)
      rwa [hR] at this
    have hcall:=hac.2 w _ hw.held hargs
    unfold Oper.wp
    rw [zkU ho hc hvf hac.1]
    show Calls P g _ w _
    refine hcall.mono fun e w' ⟨v,bs,he,hext,hout,hnd⟩=>?_
    subst he
    exact hK v w' bs hext hout hnd
 ·exact hk.elim
end
def mkL (X:Nat->Prop) (R:Nat->Row) (rm:Nat->Option Nat) (b:Nat):Prop:=(∃ k,rm k = some b/\(R k).kind.live = true) \/ X b
structure Turn [zae] (G:Ghost) (E E':Env) (w w':World) (D:Nat->Prop):Prop where
 L:E'.L = mkL E'.X E'.R E'.rm
 B:E'.B = E.B
 X:E'.X = E.X
 keep:∀ k,¬ D k->E'.R k = E.R k/\E'.rm k = E.rm k/\E'.rv k = E.rv k
 blocks:∀ b,b < w.heap.size->(∀ k,D k->E.rm k = some b->(E.R k).kind.live = false)->w'.heap[b]? = w.heap[b]?
 fresh:∀ k b,D k->E'.rm k = some b->(E'.R k).kind.nd = true->w.heap.size <= b \/ (E.rm k = some b/\(E.R k).kind.nd = true/\((E'.R k).kind.live = true->(E.R k).kind.live = true))
 ver:∀ k,D k->(E.R k).ver <= (E'.R k).ver
 same1:∀ k,D k->(E'.R k).ver = (E.R k).ver->(E'.R k).kind.slice = true->(E.R k).kind.slice = true/\E'.rv k = E.rv k
 same2:∀ k,D k->(E'.R k).ver = (E.R k).ver->(E'.R k).kind.nd = true->(E.R k).kind.nd = true/\E'.rm k = E.rm k
 pos:∀ k,D k->(E'.R k).kind.nd = true->0 < (E'.R k).ver
 inj:∀ k k' b,D k->D k'->(E'.R k).kind.nd = true->(E'.R k').kind.nd = true->E'.rm k = some b->E'.rm k' = some b->k = k'
 size:w.heap.size <= w'.heap.size
 os:w'.os = w.os
 tape:w'.tape = w.tape
 output:OutLe w w'
theorem Turn.lasts [zae] {G:Ghost} {E E':Env} {w w':World} {D:Nat->Prop} (hw:WOk G E w) (h:Turn G E E' w w' D):Lasts w w' E E':=by
 refine ⟨fun b hb hL=>⟨h.blocks b hb fun k _ hk=>?_,fun hL'=>?_⟩,fun k=>?_,fun k=>?_,fun k=>?_,by rw [h.B];exact Nat.le_refl _⟩
 ·cases hl:(E.R k).kind.live with
  | false=>rfl
  | true=>exact absurd ((hw.live b).2 (.inl ⟨k,hk,hl⟩)) hL
 ·rw [h.L] at hL'
  rcases hL' with ⟨k,hk,hl⟩ | hX
  rotate_left
  ·rw [h.X] at hX;exact hL ((hw.live b).2 (.inr hX))
  by_cases hD:D k
  ·rcases h.fresh k b hD hk (RK.nd_of_live hl) with hf | ⟨h1,_,h3⟩
   ·omega
   ·exact hL ((hw.live b).2 (.inl ⟨k,h1,h3 hl⟩))
  ·obtain ⟨e1,e2,_⟩:=h.keep k hD
   rw [e1] at hl;rw [e2] at hk
   exact hL ((hw.live b).2 (.inl ⟨k,hk,hl⟩))
 ·by_cases hD:D k
  ·exact h.ver k hD
  ·rw [(h.keep k hD).1];exact Nat.le_refl _
 ·by_cases hD:D k
  ·exact h.same1 k hD
  ·obtain ⟨e1,e2,e3⟩:=h.keep k hD
   rw [e1,e3];exact fun _ hs=>⟨hs,rfl⟩
 ·by_cases hD:D k
  ·exact h.same2 k hD
  ·obtain ⟨e1,e2,e3⟩:=h.keep k hD
   rw [e1,e2];exact fun _ hs=>⟨hs,rfl⟩
theorem Turn.wok [zae] {G:Ghost} {E E':Env} {w w':World} {D:Nat->Prop} (hw:WOk G E w) (h:Turn G E E' w w' D) (hrows:∀ k,D k->zav w' E' G.C k):WOk G E' w':=by
 have hl:=h.lasts hw
 refine ⟨fun k=>?_,fun k k' b n1 n2 e1 e2=>?_,fun b=>by rw [h.L];rfl,fun k=>?_,by rw [h.B,hw.base],by rw [h.X,hw.xs],hw.fx,fun k b hn hb hX=>?_,⟨h.os.trans hw.kept.os,h.tape.trans hw.kept.tape,h.output.trans hw.kept.output,Nat.le_trans hw.kept.size h.size,fun b hb hM=>?_⟩,fun k=>?_⟩
 ·by_cases hD:D k
  ·exact hrows k hD
  ·obtain ⟨e1,e2,e3⟩:=h.keep k hD
   have hr:=hw.rows k
   have hblk:∀ b,E.rm k = some b->(E.R k).kind.nd = true->w'.heap[b]? = w.heap[b]?:=fun b hb hn=>by
    refine h.blocks b (hw.block hb hn).1 fun j hj hjb=>?_
    cases hlv:(E.R j).kind.live with
    | false=>rfl
    | true =>
      have:=hw.inj k j b hn (RK.nd_of_live hlv) hb hjb
      subst this
      exact absurd hj hD
   unfold zav at hr ⊢
   rw [e1,e2,e3]
   cases hk:(E.R k).kind with
   | mp f=>(simp only [hk] at hr ⊢;obtain ⟨b,es,ck,h1,h2,h3,h4,h5⟩:=hr;exact ⟨b,es,ck,h1,h2,h3,(hblk b h1 (by rw [hk];rfl)).trans h4,h5⟩)
   | dead=>trivial
   | nil=>simpa only [hk] using hr
   | box t cells =>
     simp only [hk] at hr ⊢
     obtain ⟨b,vs,h1,h2,h3,h4⟩:=hr
     exact ⟨b,vs,h1,h2,(hblk b h1 (by rw [hk];rfl)).trans h3,h4.mono hl (Nat.le_refl _)⟩
   | sli e sz fz cells =>
     simp only [hk] at hr ⊢
     rcases hr with hr | ⟨b,n,cap,vs,rest,h1,h2,h3,h4,h5,h6,h7,h8,h9⟩
     ·exact .inl hr
     ·exact .inr ⟨b,n,cap,vs,rest,h1,h2,h3,(hblk b h1 (by rw [hk];rfl)).trans h4,h5,h6,h7,h8,h9.mono hl.bare (by rw [h.B];exact Nat.le_refl _)⟩
   | tab e cells =>
     simp only [hk] at hr ⊢
     rcases hr with hr | ⟨b,n,cap,vs,rest,h1,h2,h3,h4,h5,h6,h7,h8,h9⟩
     ·exact .inl hr
     ·exact .inr ⟨b,n,cap,vs,rest,h1,h2,h3,(hblk b h1 (by rw [hk];rfl)).trans h4,h5,h6,h7,h8,h9.mono hl (Nat.le_refl _)⟩
 ·by_cases hD:D k
  ·by_cases hD':D k'
   ·exact h.inj k k' b hD hD' n1 n2 e1 e2
   ·obtain ⟨f1,f2,_⟩:=h.keep k' hD'
    rw [f1] at n2;rw [f2] at e2
    rcases h.fresh k b hD e1 n1 with hf | ⟨g1,g2,_⟩
    ·have:=(hw.block e2 n2).1;omega
    ·exact hw.inj k k' b g2 n2 g1 e2
  ·obtain ⟨f1,f2,_⟩:=h.keep k hD
   rw [f1] at n1;rw [f2] at e1
   by_cases hD':D k'
   ·rcases h.fresh k' b hD' e2 n2 with hf | ⟨g1,g2,_⟩
    ·have:=(hw.block e1 n1).1;omega
    ·exact hw.inj k k' b n1 g2 e1 g1
   ·obtain ⟨f1',f2',_⟩:=h.keep k' hD'
    rw [f1'] at n2;rw [f2'] at e2
    exact hw.inj k k' b n1 n2 e1 e2
 ·by_cases hD:D k
  ·exact h.pos k hD
  ·rw [(h.keep k hD).1];exact hw.pos k
 ·by_cases hD:D k
  ·rcases h.fresh k b hD hb hn with hf | ⟨g1,g2,_⟩
   ·have:=hw.fx.low b hX
    have:=hw.kept.size
    omega
   ·exact hw.apart k b g2 g1 hX
  ·obtain ⟨e1,e2,_⟩:=h.keep k hD
   rw [e1] at hn;rw [e2] at hb
   exact hw.apart k b hn hb hX
 ·refine (h.blocks b (Nat.lt_of_lt_of_le hb hw.kept.size) fun k hD hk=>?_).trans (hw.kept.block b hb hM)
  cases hlv:(E.R k).kind.live with
  | false=>rfl
  | true =>
    have:=(hw.block hk (RK.nd_of_live hlv)).2
    rcases this with h1 | h1
    ·omega
    ·exact absurd h1.2 (hM k)
 ·obtain ⟨p1,p2⟩:=hw.pin k
  by_cases hD:D k
  ·refine ⟨Nat.le_trans p1 (h.ver k hD),fun he hs=>?_⟩
   have hv:=h.ver k hD
   have e:(E'.R k).ver = (E.R k).ver:=om
   obtain ⟨b1,b2⟩:=h.same2 k hD e hs
   obtain ⟨q0,q1,q2⟩:=p2 om b1
   refine ⟨q0,b2.trans q1,fun hs=>?_⟩
   obtain ⟨a1,a2⟩:=h.same1 k hD e hs
   exact ⟨(q2 a1).1,a2.trans (q2 a1).2⟩
  ·obtain ⟨e1,e2,e3⟩:=h.keep k hD
   rw [e1,e2,e3];exact ⟨p1,p2⟩
theorem Turn.sim [zae] {G:Ghost} {E E':Env} {s:St} {a:Act} {w w':World} {D:Nat->Prop} (hs:SimE G E s a w) (h:Turn G E E' w w' D) (hrows:∀ k,D k->zav w' E' G.C k) :
 SimE G E' { s with rw:=E'.R } a w':=hs.turn (h.lasts hs.wok) (h.wok hs.wok hrows)
def zcR {α:Type} (f:Nat->α) (k:Nat) (x:α):Nat->α:=fun i=>if i = k then x else f i
theorem zaf {α:Type} (f:Nat->α) (k:Nat) (x:α):zcR f k x k = x:=by simp [zcR]
theorem zam {α:Type} (f:Nat->α) {k i:Nat} (x:α) (h:i ≠ k):zcR f k x i = f i:=by simp [zcR,h]
def Env.row (E:Env) (k:Nat) (r:Row) (m:Option Nat) (v:Value):Env :=
 { R:=zcR E.R k r,rm:=zcR E.rm k m,rv:=zcR E.rv k v,L:=mkL E.X (zcR E.R k r) (zcR E.rm k m),B:=E.B,X:=E.X }
theorem zgG [zae] {G:Ghost} {E:Env} {w w':World} {k:Nat} {kd:RK} {m:Option Nat} {v:Value} (hx:Ext w w') (hm:∀ b,m = some b->w.heap.size <= b) :
 Turn G E (E.row k ⟨(E.R k).ver + 1,kd⟩ m v) w w' (· = k) where
 L:=rfl
 B:=rfl
 X:=rfl
 keep j hj:=⟨zam _ _ hj,zam _ _ hj,zam _ _ hj⟩
 blocks b hb _:=hx.block b hb
 fresh j b hj hb _:=by
  subst hj
  simp only [Env.row,zaf] at hb
  exact .inl (hm b hb)
 ver j hj:=by subst hj;simp [Env.row,zaf]
 same1 j hj h:=by subst hj;simp [Env.row,zaf] at h
 same2 j hj h:=by subst hj;simp [Env.row,zaf] at h
 pos j hj _:=by subst hj;simp [Env.row,zaf]
 inj j j' b h1 h2 _ _ _ _:=by rw [h1,h2]
 size:=hx.size
 os:=hx.os
 tape:=hx.tape
 output:=hx.output
end Go.Abs

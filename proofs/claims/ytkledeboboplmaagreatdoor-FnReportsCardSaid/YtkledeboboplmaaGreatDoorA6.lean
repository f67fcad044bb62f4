/- DERIVED by an AI agent. -/
import Derived.Test.YtkledeboboplmaaGreatDoorA5
import Derived.Test.YtkledeboboplmaaGreatDoorA3
import Derived.Test.YtkledeboboplmaaGreatDoorA4
namespace Go.Abs
set_option linter.unusedSimpArgs false
set_option linter.unusedVariables false
theorem Rep.above {w:World} {E E':Env} {lo:Nat} {p:PV} {x:Value} (h:Rep w E lo p x) (hR:∀ k,(E.R k) = ⟨0,.dead⟩) (hR':∀ k,(E'.R k) = ⟨0,.dead⟩) (hB:E.B = 0) (hB':E'.B = 0)
 (hL:∀ b,lo <= b->¬ E.L b->¬ E'.L b):Rep w E' lo p x:=by
 induction h generalizing E' with
 | v x=>exact .v x
 | @sl E lo fr sz len cap cells a cs hl hc hm hr hcs ih =>
   have e:E.lo lo fr = lo:=by simp [Env.lo,hB]
   have e':E'.lo lo fr = lo:=by simp [Env.lo,hB']
   refine .sl cs hl hc hm (fun i hi=>?_) (fun i hi=>?_)
   ·obtain ⟨b,o,ha,hb,hLb,hcell⟩:=hr i hi
    rw [e] at hb
    exact ⟨b,o,ha,by rw [e'];exact hb,hL b hb hLb,hcell⟩
   ·have:=ih i hi (E':=E'.bare) (fun _=>rfl) (fun _=>rfl) rfl rfl (fun b hb h=>hL b (by rw [e] at hb;exact hb) h)
    rw [e'] ;rw [e] at this;exact this
 | @own E lo k ver x hv hx =>
   refine .own (by rw [hR'] ;rw [hR] at hv;exact hv) fun _ hs=>?_
   rw [hR'] at hs;cases hs
 | @ref E lo k ver off x hv hx =>
   refine .ref (by rw [hR'] ;rw [hR] at hv;exact hv) fun _ hs=>?_
   rw [hR'] at hs;cases hs
 | @eref E lo fr cells off b o cs hr hcs ih =>
   have e:E.lo lo fr = lo:=by simp [Env.lo,hB]
   have e':E'.lo lo fr = lo:=by simp [Env.lo,hB']
   refine .eref cs (fun i hi=>?_) (fun i hi=>?_)
   ·obtain ⟨hb,hLb,hcell⟩:=hr i hi
    rw [e] at hb
    exact ⟨by rw [e'];exact hb,hL _ hb hLb,hcell⟩
   ·have:=ih i hi (E':=E'.bare) (fun _=>rfl) (fun _=>rfl) rfl rfl (fun b hb h=>hL b (by rw [e] at hb;exact hb) h)
    rw [e'];rw [e] at this;exact this
 | ag hl _ ih=>exact .ag hl fun i a b=>ih i a b hR hR' hB hB' hL
 | tup hl _ ih=>exact .tup hl fun i a b=>ih i a b hR hR' hB hB' hL
 | clo hl _ ih=>exact .clo hl fun i a b=>ih i a b hR hR' hB hB' hL
 | junk x=>exact .junk x
def AG [zae] (P:Program) (f:FuncId) (args:List PV) (R0:Nat->Row) (post:(Nat->Row)->PV->Prop):Prop :=
 zmq P f/\∀ (w:World) (M:Nat->Nat->Prop) (E:Env) (vals:List Value),WOk ⟨w,M,0,E.R,E.rm,E.rv,E.X⟩ E w->E.R = R0->zbu w E 0 args vals ->
  Calls P f vals.toArray w fun en w'=>∃ (E':Env) (p:PV) (v:Value),en = .returned v/\WOk ⟨w,M,0,E.R,E.rm,E.rv,E.X⟩ E' w'/\Rep w' E' 0 p v/\post E'.R p
inductive GvA (rho:Nat->Option Nat) (Ln:Nat->Prop) (R0 R:Nat->Row):PV->PV->Prop
 | v (x:Value):GvA rho Ln R0 R (.v x) (.v x)
 | sl (fr:Bool) (sz:Nat) (c:List PV):GvA rho Ln R0 R (.sl false sz c) (.sl fr sz c)
 | eref (fr:Bool) (c:List PV) (off:Nat):GvA rho Ln R0 R (.eref false c off) (.eref fr c off)
 | junk (p:PV):GvA rho Ln R0 R .junk p
 | own {k v k' v':Nat} (h:rho k = some k') (h1:(R0 k).ver = v) (h2:(R k').ver = v') (h3:(R0 k).kind.slice = true):GvA rho Ln R0 R (.own k v) (.own k' v')
 | ref {k v k' v' off:Nat} (h:rho k = some k') (h1:(R0 k).ver = v) (h2:(R k').ver = v') (h3:(R0 k).kind.nd = true):GvA rho Ln R0 R (.ref k v off) (.ref k' v' off)
 | lent {k' v' e sz:Nat} {fz:Bool} {c:List PV} (h:Ln k') (hr:R k' = ⟨v',.sli e sz fz c⟩):GvA rho Ln R0 R (.sl false sz c) (.own k' v')
inductive GvL (rho:Nat->Option Nat) (Ln:Nat->Prop) (R0 R:Nat->Row):List PV->List PV->Prop
 | nil:GvL rho Ln R0 R [] []
 | one {p q:PV} {l l':List PV} (h:GvA rho Ln R0 R p q) (t:GvL rho Ln R0 R l l'):GvL rho Ln R0 R (p :: l) (q :: l')
 | ag {c c' l l':List PV} (h:GvL rho Ln R0 R c c') (t:GvL rho Ln R0 R l l'):GvL rho Ln R0 R (.ag c :: l) (.ag c' :: l')
 | clo {f:FuncId} {c c' l l':List PV} (h:GvL rho Ln R0 R c c') (t:GvL rho Ln R0 R l l'):GvL rho Ln R0 R (.clo f c :: l) (.clo f c' :: l')
def gvK (rho:Nat->Option Nat) (Ln:Nat->Prop) (R0 R:Nat->Row):RK->RK->Prop
 | .box t c,.box t' c'=>t = t'/\GvL rho Ln R0 R c c'
 | .sli e sz false c,.sli e' sz' false c'=>e = e'/\sz = sz'/\c = c'/\zbs c
 | .tab e c,.tab e' c'=>e = e'/\GvL rho Ln R0 R c c'
 | .tab e c,.sli e' sz false c'=>e = e'/\sz = 1/\c = []/\c' = []
 | .mp f,.mp f'=>f = f'
 | _,_=>False
theorem zcf {rho:Nat->Option Nat} {Ln:Nat->Prop} {R0 R:Nat->Row} {a b:RK} (h:gvK rho Ln R0 R a b):a.live = true/\b.live = true/\a.slice = b.slice:=by
 unfold gvK at h
 split at h <;> first | exact ⟨rfl,rfl,rfl⟩ | exact h.elim
structure Give (rho:Nat->Option Nat) (Ln:Nat->Prop) (R0 R:Nat->Row):Prop where
 row:∀ k,(R0 k).kind.nd = true->lent <= k/\0 < (R0 k).ver/\∃ j,rho k = some j/\gvK rho Ln R0 R (R0 k).kind (R j).kind
 inj:∀ k k' j,(R0 k).kind.nd = true->(R0 k').kind.nd = true->rho k = some j->rho k' = some j->k = k'
 ln:∀ k j,(R0 k).kind.nd = true->rho k = some j->¬ Ln j
def gvX (E:Env) (rho:Nat->Option Nat) (Ln:Nat->Prop) (R0:Nat->Row) (b:Nat):Prop :=
 (∃ j,E.rm j = some b/\(E.R j).kind.live = true/\¬ Ln j/\∀ k,(R0 k).kind.nd = true->rho k ≠ some j) \/ E.X b
def zC0 (E:Env) (rho:Nat->Option Nat) (R0:Nat->Row) (k:Nat):Option Nat:=if (R0 k).kind.nd = true then (rho k).bind E.rm else none
def Env.gv (E:Env) (rho:Nat->Option Nat) (Ln:Nat->Prop) (R0:Nat->Row) (B:Nat):Env :=
 { R:=R0,rm:=zC0 E rho R0,rv:=fun k=>match rho k with | some j=>E.rv j | none=>default,L:=mkL (gvX E rho Ln R0) R0 (zC0 E rho R0),B:=B,X:=gvX E rho Ln R0 }
def gvM (E:Env) (rho:Nat->Option Nat) (R0:Nat->Row) (k b:Nat):Prop:=(R0 k).kind.nd = true/\∃ j,rho k = some j/\E.rm j = some b
section
variable {P:Program} {G:Ghost} {s:St} {E E':Env} {w w':World} {rho:Nat->Option Nat} {Ln:Nat->Prop} {R0:Nat->Row}
theorem zuW {k j:Nat} (hn:(R0 k).kind.nd = true) (h:rho k = some j):zC0 E rho R0 k = E.rm j:=by
 unfold zC0;rw [if_pos hn,h];rfl
theorem zgh {k b:Nat} (h:zC0 E rho R0 k = some b):(R0 k).kind.nd = true/\∃ j,rho k = some j/\E.rm j = some b:=by
 unfold zC0 at h
 by_cases hn:(R0 k).kind.nd = true
 ·rw [if_pos hn] at h
  cases hr:rho k with
  | none=>rw [hr] at h;cases h
  | some j=>rw [hr] at h;exact ⟨hn,j,rfl,h⟩
 ·rw [if_neg hn] at h;cases h
theorem zND [zae] (hw:WOk G E w) (hg:Give rho Ln R0 E.R) {B b:Nat} (h:(E.gv rho Ln R0 B).L b):E.L b:=by
 rcases h with ⟨k,h1,h2⟩ | h
 ·have h1:zC0 E rho R0 k = some b:=h1
  obtain ⟨hn,j,hj,hb⟩:=zgh h1
  obtain ⟨_,_,j',hj',hk⟩:=hg.row k hn
  rw [hj] at hj';cases hj'
  exact (hw.live b).2 (.inl ⟨j,hb,(zcf hk).2.1⟩)
 ·rcases h with ⟨j,h1,h2,_⟩ | h
  ·exact (hw.live b).2 (.inl ⟨j,h1,h2⟩)
  ·exact (hw.live b).2 (.inr h)
theorem zIQ [zae] (hw:WOk G E w) (hg:Give rho Ln R0 E.R) (B:Nat):Lasts w w E.bare (E.gv rho Ln R0 B).bare :=
 ⟨fun b _ hL=>⟨rfl,fun hL'=>hL (zND (B:=B) hw hg hL')⟩,fun _=>Nat.le_refl _,fun _ _ h=>absurd h (by simp [Env.bare,RK.slice]),fun _ _ h=>absurd h (by simp [Env.bare,RK.nd]),Nat.le_refl _⟩
theorem zIR [zae] (hw:WOk G E w) (hg:Give rho Ln R0 E.R) (B:Nat) {p q:PV} (h:GvA rho Ln R0 E.R p q) {x:Value} (hr:Rep w E 0 q x):Rep w (E.gv rho Ln R0 B) 0 p x:=by
 have hbare:=zIQ hw hg B
 cases h with
 | v y=>have:=hr.v_eq;subst this;exact .v _
 | junk=>exact .junk _
 | sl fr sz c =>
   cases hr with
   | @sl _ _ _ _ len cap _ a cs hl hc hm hr hh =>
     refine .sl cs hl hc hm (fun i hi=>?_) (fun i hi=>(hh i hi).mono hbare (by simp [Env.lo]))
     obtain ⟨b,o,ha,hb,hL,hcell⟩:=hr i hi
     exact ⟨b,o,ha,by simp [Env.lo],fun hL'=>hL (zND hw hg hL'),hcell⟩
 | eref fr c off =>
   cases hr with
   | @eref _ _ _ _ _ b o cs hr hh =>
     refine .eref cs (fun i hi=>?_) (fun i hi=>(hh i hi).mono hbare (by simp [Env.lo]))
     obtain ⟨hb,hL,hcell⟩:=hr i hi
     exact ⟨by simp [Env.lo],fun hL'=>hL (zND hw hg hL'),hcell⟩
 | @own k v k' v' h h1 h2 h3 =>
   cases hr with
   | own hv hx =>
     obtain ⟨_,_,j,hj,hk⟩:=hg.row k (RK.nd_of_slice h3)
     rw [h] at hj;cases hj
     refine .own (by show v <= (R0 k).ver;omega) fun _ _=>?_
     have:=hx h2 (by rw [<- (zcf hk).2.2];exact h3)
     show x = (match rho k with | some j=>E.rv j | none=>default)
     rw [h];exact this
 | @ref k v k' v' off h h1 h2 h3 =>
   cases hr with
   | ref hv hx =>
     obtain ⟨_,_,j,hj,hk⟩:=hg.row k h3
     rw [h] at hj;cases hj
     refine .ref (by show v <= (R0 k).ver;omega) fun _ _=>?_
     obtain ⟨b,hb,hp⟩:=hx h2 (RK.nd_of_live (zcf hk).2.1)
     exact ⟨b,(zuW h3 h).trans hb,hp⟩
 | @lent k' v' e sz fz c h hr0 =>
   cases hr with
   | own hv hx =>
     have hx:=hx (by rw [hr0]) (by rw [hr0];rfl)
     have hrow:=hw.rows k'
     unfold zav at hrow
     rw [hr0] at hrow
     simp only at hrow
     rcases hrow with ⟨h1,h2,h3⟩ | ⟨b,n,cap,vs,rest,h1,h2,h3,h4,h5,h6,h7,h8,h9⟩
     ·subst h3;rw [hx,h2]
      exact .sl (fun _=>undef) sp (Nat.le_refl _) (Nat.zero_le _) (fun i hi=>absurd hi sp) (fun i hi=>absurd hi sp)
     ·rw [hx,h3]
      have hL:¬ (E.gv rho Ln R0 B).L b:=fun hL=>by
       rcases hL with ⟨k,g1,g2⟩ | hL
       ·have g1:zC0 E rho R0 k = some b:=g1
        obtain ⟨hn,j,hj,hb⟩:=zgh g1
        obtain ⟨_,_,j',hj',hk⟩:=hg.row k hn
        rw [hj] at hj';cases hj'
        have:=hw.inj j k' b (RK.nd_of_live (zcf hk).2.1) (by rw [hr0];rfl) hb h1
        subst this
        exact hg.ln k j hn hj h
       ·rcases hL with ⟨j,g1,g2,g3,_⟩ | hL
        ·have:=hw.inj j k' b (RK.nd_of_live g2) (by rw [hr0];rfl) g1 h1
         subst this
         exact g3 h
        ·rw [hw.xs] at hL;exact hw.apart k' b (by rw [hr0];rfl) h1 hL
      refine .sl (fun i=>vs.getD i undef) (h9.1.trans h5) h6 h7 (fun i hi=>⟨b,0,rfl,by simp [Env.lo],hL,?_⟩) (fun i hi=>?_)
      ·have hi':i < vs.length:=by rw [<- h9.1];exact hi
       rw [Nat.zero_add,zaL h4 (by simp;omega)]
       simp [List.getElem_append_left hi',List.getD,hi']
      ·have hi':i < vs.length:=by rw [<- h9.1];exact hi
       have e:vs.getD i undef = vs[i]:=by simp [List.getD,hi']
       rw [e]
       exact (h9.2 i hi hi').mono hbare (by simp [Env.lo])
theorem zmy {w:World} {E:Env} {lo:Nat} {p:PV} {ps:List PV} {vals:List Value} (h:zbu w E lo (p :: ps) vals):∃ x xs,vals = x :: xs/\Rep w E lo p x/\zbu w E lo ps xs:=by
 cases vals with
 | nil=>simp [zbu] at h
 | cons y ys=>exact ⟨y,ys,rfl,h.2 0 sp sp,by simpa using h.1,fun i a b=>h.2 (i + 1) (by simpa using a) (by simpa using b)⟩
theorem zuX {w:World} {E:Env} {lo:Nat} {p:PV} {ps:List PV} {x:Value} {xs:List Value} (h0:Rep w E lo p x) (h:zbu w E lo ps xs):zbu w E lo (p :: ps) (x :: xs):=by
 refine ⟨by simp [h.1],fun i a b=>?_⟩
 cases i with
 | zero=>exact h0
 | succ i=>exact h.2 i (by simpa using a) (by simpa using b)
theorem zuY [zae] (hw:WOk G E w) (hg:Give rho Ln R0 E.R) (B:Nat) {l l':List PV} (h:GvL rho Ln R0 E.R l l'):∀ {vals:List Value},zbu w E 0 l' vals->zbu w (E.gv rho Ln R0 B) 0 l vals:=by
 induction h with
 | nil=>intro vals h;exact ⟨h.1,fun i a=>absurd a sp⟩
 | one h _ ih =>
   intro vals hv
   obtain ⟨x,xs,rfl,h0,h1⟩:=zmy hv
   exact zuX (zIR hw hg B h h0) (ih h1)
 | ag _ _ ih1 ih2 =>
   intro vals hv
   obtain ⟨x,xs,rfl,h0,h1⟩:=zmy hv
   refine zuX ?_ (ih2 h1)
   cases h0 with
   | @ag _ _ _ vs hl hh =>
     have h2:=ih1 (vals:=vs) ⟨hl,hh⟩
     exact .ag h2.1 h2.2
 | clo _ _ ih1 ih2 =>
   intro vals hv
   obtain ⟨x,xs,rfl,h0,h1⟩:=zmy hv
   refine zuX ?_ (ih2 h1)
   cases h0 with
   | @clo _ _ _ _ vs hl hh =>
     have h2:=ih1 (vals:=vs) ⟨hl,hh⟩
     exact .clo h2.1 h2.2
theorem zNE [zae] (hw:WOk G E w) (hg:Give rho Ln R0 E.R) :
 WOk ⟨w,gvM E rho R0,0,(E.gv rho Ln R0 w.heap.size).R,(E.gv rho Ln R0 w.heap.size).rm,(E.gv rho Ln R0 w.heap.size).rv,(E.gv rho Ln R0 w.heap.size).X⟩ (E.gv rho Ln R0 w.heap.size) w:=by
 refine ⟨fun k=>?_,fun k k' b n1 n2 e1 e2=>?_,fun b=>Iff.rfl,fun k h=>(hg.row k h).2.1,rfl,rfl,⟨fun b h=>?_,fun k b hM=>?_,hw.held⟩,fun k b hn hb hX=>?_,⟨rfl,rfl,OutLe.refl _,Nat.le_refl _,fun _ _ _=>rfl⟩,fun j=>⟨Nat.le_refl _,fun _ h=>⟨h,rfl,fun h=>⟨h,rfl⟩⟩⟩⟩
 ·show zav w (E.gv rho Ln R0 w.heap.size) _ k
  by_cases hn:(R0 k).kind.nd = true
  ·obtain ⟨hlk,_,j,hj,hk⟩:=hg.row k hn
   have em:(E.gv rho Ln R0 w.heap.size).rm k = E.rm j:=zuW hn hj
   have ev:(E.gv rho Ln R0 w.heap.size).rv k = E.rv j:=by show (match rho k with | some j=>E.rv j | none=>default) = _;rw [hj]
   have hrow:=hw.rows j
   have hC:∀ b,E.rm j = some b->Ghost.C ⟨w,gvM E rho R0,0,(E.gv rho Ln R0 w.heap.size).R,(E.gv rho Ln R0 w.heap.size).rm,(E.gv rho Ln R0 w.heap.size).rv,(E.gv rho Ln R0 w.heap.size).X⟩ k b :=
    fun b hb=>.inr ⟨hlk,hn,j,hj,hb⟩
   unfold zav at hrow ⊢
   show match (R0 k).kind with | .dead=>True | .nil=>_ | .box t cells=>_ | .sli e sz _ cells=>_ | .tab e cells=>_ | .mp f=>_
   rw [em,ev]
   cases h0:(R0 k).kind with
   | dead=>trivial
   | nil=>rw [h0] at hk;cases h1:(E.R j).kind <;> rw [h1] at hk <;> exact hk.elim
   | box t c =>
     rw [h0] at hk
     cases h1:(E.R j).kind with
     | box t' c' =>
       rw [h1] at hk
       obtain ⟨rfl,hk⟩:=hk
       rw [h1] at hrow
       obtain ⟨b,vs,g1,g2,g3,g4⟩:=hrow
       exact ⟨b,vs,g1,hC b g1,g3,zuY hw hg _ hk g4⟩
     | _=>rw [h1] at hk;exact hk.elim
   | sli e sz fz c =>
     rw [h0] at hk
     cases fz with
     | true=>cases h1:(E.R j).kind <;> rw [h1] at hk <;> exact hk.elim
     | false =>
       cases h1:(E.R j).kind with
       | sli e' sz' fz' c' =>
         rw [h1] at hk
         cases fz' with
         | true=>exact hk.elim
         | false =>
           obtain ⟨rfl,rfl,rfl,hp⟩:=hk
           rw [h1] at hrow
           rcases hrow with hr | ⟨b,n,cap,vs,rest,g1,g2,g3,g4,g5,g6,g7,g8,g9⟩
           ·exact .inl hr
           ·exact .inr ⟨b,n,cap,vs,rest,g1,hC b g1,g3,g4,g5,g6,g7,g8,zdr hp g9⟩
       | _=>rw [h1] at hk;exact hk.elim
   | tab e c =>
     rw [h0] at hk
     cases h1:(E.R j).kind with
     | tab e' c' =>
       rw [h1] at hk
       obtain ⟨rfl,hk⟩:=hk
       rw [h1] at hrow
       rcases hrow with ⟨g1,g2,g3⟩ | ⟨b,n,cap,vs,rest,g1,g2,g3,g4,g5,g6,g7,g8,g9⟩
       ·refine .inl ⟨g1,g2,?_⟩
        subst g3;cases hk;rfl
       ·exact .inr ⟨b,n,cap,vs,rest,g1,hC b g1,g3,g4,g5,g6,g7,g8,zuY hw hg _ hk g9⟩
     | sli e' sz fz c' =>
       rw [h1] at hk
       cases fz with
       | true=>exact hk.elim
       | false =>
         obtain ⟨rfl,rfl,rfl,rfl⟩:=hk
         rw [h1] at hrow
         rcases hrow with ⟨g1,g2,g3⟩ | ⟨b,n,cap,vs,rest,g1,g2,g3,g4,g5,g6,g7,g8,g9⟩
         ·exact .inl ⟨g1,g2,rfl⟩
         ·exact .inr ⟨b,n,cap,vs,rest,g1,hC b g1,g3,g4,om,g6,g7,om,g9.1,fun i a=>absurd a sp⟩
     | _=>rw [h1] at hk;exact hk.elim
   | mp f =>
     rw [h0] at hk
     cases h1:(E.R j).kind with
     | mp f' =>
       rw [h1] at hk
       obtain rfl:f = f':=hk
       rw [h1] at hrow
       obtain ⟨b,es,ck,g1,g2,g3,g4,g5⟩:=hrow
       exact ⟨b,es,ck,g1,hC b g1,g3,g4,g5⟩
     | _=>rw [h1] at hk;exact hk.elim
  ·unfold zav
   show match (R0 k).kind with | .dead=>True | .nil=>_ | .box t cells=>_ | .sli e sz _ cells=>_ | .tab e cells=>_ | .mp f=>_
   cases h0:(R0 k).kind with
   | dead=>trivial
   | _=>rw [h0] at hn;exact absurd rfl hn
 ·have e1:zC0 E rho R0 k = some b:=e1
  have e2:zC0 E rho R0 k' = some b:=e2
  obtain ⟨_,j,hj,hb⟩:=zgh e1
  obtain ⟨_,j',hj',hb'⟩:=zgh e2
  obtain ⟨_,_,i,hi,hk⟩:=hg.row k n1
  obtain ⟨_,_,i',hi',hk'⟩:=hg.row k' n2
  rw [hj] at hi;cases hi
  rw [hj'] at hi';cases hi'
  have:=hw.inj j j' b (RK.nd_of_live (zcf hk).2.1) (RK.nd_of_live (zcf hk').2.1) hb hb'
  subst this
  exact hg.inj k k' j n1 n2 hj hj'
 ·rcases h with ⟨j,h1,h2,_⟩ | h
  ·exact (hw.block h1 (RK.nd_of_live h2)).1
  ·rw [hw.xs] at h
   have:=hw.fx.low b h
   have:=hw.kept.size
   show b < w.heap.size
   omega
 ·obtain ⟨hn,j,hj,hb⟩:=hM
  obtain ⟨_,_,i,hi,hk⟩:=hg.row k hn
  rw [hj] at hi;cases hi
  exact hw.ngl hb (RK.nd_of_live (zcf hk).2.1)
 ·have hb:zC0 E rho R0 k = some b:=hb
  obtain ⟨_,j,hj,hb⟩:=zgh hb
  obtain ⟨_,_,i,hi,hk⟩:=hg.row k hn
  rw [hj] at hi;cases hi
  have hnj:=RK.nd_of_live (zcf hk).2.1
  rcases hX with ⟨j',h1,h2,_,h3⟩ | hX
  ·have:=hw.inj j j' b hnj (RK.nd_of_live h2) hb h1
   subst this
   exact h3 k hn hj
  ·rw [hw.xs] at hX;exact hw.apart j b hnj hb hX
def ztz (rho:Nat->Option Nat) (R1:Nat->Row) (nv:Nat->Nat) (nl:Bool):PV->PV
 | .v x=>.v x
 | .own k v=>match rho k,v == (R1 k).ver with | some j,true=>.own j (nv k) | _,_=>.junk
 | .ref k v off=>match rho k,v == (R1 k).ver with | some j,true=>.ref j (nv k) off | _,_=>.junk
 | .sl fr sz c=>match fr || nl with | true=>.sl fr sz c | false=>.junk
 | .eref fr c off=>match fr || nl with | true=>.eref fr c off | false=>.junk
 | _=>.junk
def ren1 (rho:Nat->Option Nat) (R1:Nat->Row) (nv:Nat->Nat) (nl:Bool):PV->PV
 | .ag c=>.ag (c.map (ztz rho R1 nv nl))
 | .clo f c=>.clo f (c.map (ztz rho R1 nv nl))
 | p=>ztz rho R1 nv nl p
def zC1 (rho:Nat->Option Nat) (R1:Nat->Row) (nv:Nat->Nat) (nl:Bool):PV->PV
 | .tup c=>.tup (c.map (ren1 rho R1 nv nl))
 | p=>ren1 rho R1 nv nl p
def zqv (rho:Nat->Option Nat) (R1:Nat->Row) (nv:Nat->Nat) (nl:Bool):RK->RK
 | .box t c=>.box t (c.map (ren1 rho R1 nv nl))
 | .tab e c=>.tab e (c.map (ren1 rho R1 nv nl))
 | k=>k
theorem zIS (rho:Nat->Option Nat) (R1:Nat->Row) (nv:Nat->Nat) (nl fr:Bool) (sz:Nat) (c:List PV):ztz rho R1 nv nl (.sl fr sz c) = match fr || nl with | true=>.sl fr sz c | false=>.junk:=rfl
theorem zC2 (rho:Nat->Option Nat) (R1:Nat->Row) (nv:Nat->Nat) (nl fr:Bool) (c:List PV) (off:Nat):ztz rho R1 nv nl (.eref fr c off) = match fr || nl with | true=>.eref fr c off | false=>.junk:=rfl
theorem zek (rho:Nat->Option Nat) (R1:Nat->Row) (nv:Nat->Nat) (nl:Bool) (k v:Nat):ztz rho R1 nv nl (.own k v) = match rho k,v == (R1 k).ver with | some j,true=>.own j (nv k) | _,_=>.junk:=rfl
theorem zx1 (rho:Nat->Option Nat) (R1:Nat->Row) (nv:Nat->Nat) (nl:Bool) (k v off:Nat):ztz rho R1 nv nl (.ref k v off) = match rho k,v == (R1 k).ver with | some j,true=>.ref j (nv k) off | _,_=>.junk:=rfl
theorem zmz (rho:Nat->Option Nat) (R1:Nat->Row) (nv:Nat->Nat) (nl:Bool) (k:RK):(zqv rho R1 nv nl k).nd = k.nd:=by cases k <;> rfl
theorem zC3 (rho:Nat->Option Nat) (R1:Nat->Row) (nv:Nat->Nat) (nl:Bool) (k:RK):(zqv rho R1 nv nl k).live = k.live:=by cases k <;> rfl
theorem zpn (rho:Nat->Option Nat) (R1:Nat->Row) (nv:Nat->Nat) (nl:Bool) (k:RK):(zqv rho R1 nv nl k).slice = k.slice:=by cases k <;> rfl
structure Back (rho rho1:Nat->Option Nat) (R1:Nat->Row) (nv:Nat->Nat) (nl:Bool) (Ln:Nat->Prop) (R0 R:Nat->Row):Prop where
 keep:∀ k,(R0 k).kind.nd = true->rho1 k = rho k
 inj:∀ k k' j,rho1 k = some j->rho1 k' = some j->k = k'
 ver:∀ k j,rho1 k = some j->(R0 k).kind.nd = true->(R1 k).ver = (R0 k).ver->nv k = (R j).ver
 new:∀ k j,rho1 k = some j->((R0 k).kind.nd = true->(R1 k).ver ≠ (R0 k).ver)->(R j).ver < nv k
 nl:nl = true->∀ j,¬ Ln j
variable {rho1:Nat->Option Nat} {nv:Nat->Nat} {nl:Bool} {inv:Nat->Option Nat}
def bkR (E E':Env) (rho1:Nat->Option Nat) (nv:Nat->Nat) (nl:Bool) (inv:Nat->Option Nat) (j:Nat):Row :=
 match inv j with | some k=>⟨nv k,zqv rho1 E'.R nv nl (E'.R k).kind⟩ | none=>E.R j
def Env.bk (E E':Env) (rho1:Nat->Option Nat) (nv:Nat->Nat) (nl:Bool) (inv:Nat->Option Nat):Env :=
 { R:=bkR E E' rho1 nv nl inv,rm:=fun j=>match inv j with | some k=>E'.rm k | none=>E.rm j,rv:=fun j=>match inv j with | some k=>E'.rv k | none=>E.rv j,
   L:=mkL E.X (bkR E E' rho1 nv nl inv) (fun j=>match inv j with | some k=>E'.rm k | none=>E.rm j),B:=E.B,X:=E.X }
theorem zkm {j k:Nat} (h:inv j = some k):(E.bk E' rho1 nv nl inv).R j = ⟨nv k,zqv rho1 E'.R nv nl (E'.R k).kind⟩/\(E.bk E' rho1 nv nl inv).rm j = E'.rm k/\(E.bk E' rho1 nv nl inv).rv j = E'.rv k:=by
 simp only [Env.bk,bkR,h,and_self]
theorem zC4 {j:Nat} (h:inv j = none):(E.bk E' rho1 nv nl inv).R j = E.R j/\(E.bk E' rho1 nv nl inv).rm j = E.rm j/\(E.bk E' rho1 nv nl inv).rv j = E.rv j:=by
 simp only [Env.bk,bkR,h,and_self]
variable [zae] (hw:WOk G E w) (hg:Give rho Ln R0 E.R) (hb:Back rho rho1 E'.R nv nl Ln R0 E.R) (hinv:∀ j k,inv j = some k ↔ rho1 k = some j)
 (hw':WOk ⟨w,gvM E rho R0,0,(E.gv rho Ln R0 w.heap.size).R,(E.gv rho Ln R0 w.heap.size).rm,(E.gv rho Ln R0 w.heap.size).rv,(E.gv rho Ln R0 w.heap.size).X⟩ E' w')
include hw hg hb hinv hw'
theorem zNF {b:Nat} (hL:¬ E'.L b) (hs:nl = true \/ w.heap.size <= b):¬ (E.bk E' rho1 nv nl inv).L b:=by
 have _:=hg
 have hx:E'.X = gvX E rho Ln R0:=hw'.xs
 intro h
 rcases h with ⟨j,h1,h2⟩ | h
 ·cases hi:inv j with
  | some k =>
    obtain ⟨a1,a2,_⟩:=zkm (E:=E) (E':=E') (rho1:=rho1) (nv:=nv) (nl:=nl) hi
    have h1:(E.bk E' rho1 nv nl inv).rm j = some b:=h1
    have h2:((E.bk E' rho1 nv nl inv).R j).kind.live = true:=h2
    rw [a2] at h1;rw [a1] at h2
    have h2:(zqv rho1 E'.R nv nl (E'.R k).kind).live = true:=h2
    rw [zC3] at h2
    exact hL ((hw'.live b).2 (.inl ⟨k,h1,h2⟩))
  | none =>
    obtain ⟨a1,a2,_⟩:=zC4 (E:=E) (E':=E') (rho1:=rho1) (nv:=nv) (nl:=nl) hi
    have h1:(E.bk E' rho1 nv nl inv).rm j = some b:=h1
    have h2:((E.bk E' rho1 nv nl inv).R j).kind.live = true:=h2
    rw [a2] at h1;rw [a1] at h2
    have hbs:=(hw.block h1 (RK.nd_of_live h2)).1
    by_cases hln:Ln j
    ·rcases hs with hs | hs
     ·exact hb.nl hs j hln
     ·omega
    ·refine hL ((hw'.live b).2 (.inr ?_))
     rw [hx]
     refine .inl ⟨j,h1,h2,hln,fun k hn hk=>?_⟩
     have:=(hinv j k).2 ((hb.keep k hn).trans hk)
     rw [hi] at this;cases this
 ·refine hL ((hw'.live b).2 (.inr ?_))
  rw [hx];exact .inr h
theorem zuZ {lo:Nat} (hs:nl = true \/ w.heap.size <= lo) {p:PV} {x:Value} (h:Rep w' E'.bare lo p x):Rep w' (E.bk E' rho1 nv nl inv).bare lo p x :=
 h.above (fun _=>rfl) (fun _=>rfl) rfl rfl fun b hlo hL=>zNF hw hg hb hinv hw' hL (hs.imp id fun h=>Nat.le_trans h hlo)
theorem zFr {p:PV} {x:Value} (h:Rep w' E' 0 p x):Rep w' (E.bk E' rho1 nv nl inv) 0 (ztz rho1 E'.R nv nl p) x:=by
 have hB:E'.B = w.heap.size:=hw'.base
 have hB3:(E.bk E' rho1 nv nl inv).B <= w.heap.size:=by show E.B <= _;rw [hw.base];exact hw.kept.size
 have hlo:∀ fr,(E.bk E' rho1 nv nl inv).lo 0 fr <= E'.lo 0 fr:=fun fr=>by unfold Env.lo;cases fr <;> simp;omega
 have hsz:∀ fr,(fr || nl) = true->nl = true \/ w.heap.size <= E'.lo 0 fr:=fun fr h=>by
  cases fr with
  | true=>right;unfold Env.lo;simp;omega
  | false=>left;simpa using h
 cases h with
 | v y=>exact .v _
 | junk=>exact .junk _
 | ag=>exact .junk _
 | tup=>exact .junk _
 | clo=>exact .junk _
 | @sl _ _ fr sz len cap cells a cs hl hc hm hr hh =>
   rw [zIS]
   cases hf:(fr || nl) with
   | false=>exact .junk _
   | true =>
     refine .sl cs hl hc hm (fun i hi=>?_) (fun i hi=>(zuZ hw hg hb hinv hw' (hsz fr hf) (hh i hi)).low (hlo fr))
     obtain ⟨b,o,ha,hbb,hL,hcell⟩:=hr i hi
     exact ⟨b,o,ha,Nat.le_trans (hlo fr) hbb,zNF hw hg hb hinv hw' hL ((hsz fr hf).imp id fun h=>Nat.le_trans h hbb),hcell⟩
 | @eref _ _ fr cells off b o cs hr hh =>
   rw [zC2]
   cases hf:(fr || nl) with
   | false=>exact .junk _
   | true =>
     refine .eref cs (fun i hi=>?_) (fun i hi=>(zuZ hw hg hb hinv hw' (hsz fr hf) (hh i hi)).low (hlo fr))
     obtain ⟨hbb,hL,hcell⟩:=hr i hi
     exact ⟨Nat.le_trans (hlo fr) hbb,zNF hw hg hb hinv hw' hL ((hsz fr hf).imp id fun h=>Nat.le_trans h hbb),hcell⟩
 | @own _ _ k v x hv hx =>
   rw [zek]
   cases hr:rho1 k with
   | none=>exact .junk _
   | some j =>
     cases hvv:v == (E'.R k).ver with
     | false=>exact .junk _
     | true =>
       obtain ⟨a1,a2,a3⟩:=zkm (E:=E) (E':=E') (rho1:=rho1) (nv:=nv) (nl:=nl) ((hinv j k).2 hr)
       refine .own (by rw [a1];exact Nat.le_refl _) fun he hs=>?_
       rw [a1] at hs
       have hs:(zqv rho1 E'.R nv nl (E'.R k).kind).slice = true:=hs
       rw [zpn] at hs
       rw [a3];exact hx (beq_iff_eq.1 hvv).symm hs
 | @ref _ _ k v off x hv hx =>
   rw [zx1]
   cases hr:rho1 k with
   | none=>exact .junk _
   | some j =>
     cases hvv:v == (E'.R k).ver with
     | false=>exact .junk _
     | true =>
       obtain ⟨a1,a2,a3⟩:=zkm (E:=E) (E':=E') (rho1:=rho1) (nv:=nv) (nl:=nl) ((hinv j k).2 hr)
       refine .ref (by rw [a1];exact Nat.le_refl _) fun he hs=>?_
       rw [a1] at hs
       have hs:(zqv rho1 E'.R nv nl (E'.R k).kind).nd = true:=hs
       rw [zmz] at hs
       rw [a2];exact hx (beq_iff_eq.1 hvv).symm hs
theorem zkV (f:PV->PV) (hf:∀ p x,Rep w' E' 0 p x->Rep w' (E.bk E' rho1 nv nl inv) 0 (f p) x) {ps:List PV} {vs:List Value} (h:zbu w' E' 0 ps vs):zbu w' (E.bk E' rho1 nv nl inv) 0 (ps.map f) vs:=by
 have _:=hw;have _:=hg;have _:=hb;have _:=hinv;have _:=hw'
 exact ⟨by simpa using h.1,fun i a b=>by
  have a':i < ps.length:=by simpa using a
  have:=hf _ _ (h.2 i a' b)
  simpa using this⟩
theorem zx2 {p:PV} {x:Value} (h:Rep w' E' 0 p x):Rep w' (E.bk E' rho1 nv nl inv) 0 (ren1 rho1 E'.R nv nl p) x:=by
 have hA:=fun p x=>zFr hw hg hb hinv hw' (p:=p) (x:=x)
 cases h with
 | @ag _ _ cells vs hl hh=>have:=zkV hw hg hb hinv hw' _ hA ⟨hl,hh⟩;exact .ag this.1 this.2
 | @clo _ _ f cells vs hl hh=>have:=zkV hw hg hb hinv hw' _ hA ⟨hl,hh⟩;exact .clo this.1 this.2
 | v y=>exact hA _ _ (.v _)
 | junk=>exact hA _ _ (.junk _)
 | tup hl hh=>exact hA _ _ (.tup hl hh)
 | sl cs a b c d e=>exact hA _ _ (.sl cs a b c d e)
 | eref cs a b=>exact hA _ _ (.eref cs a b)
 | own a b=>exact hA _ _ (.own a b)
 | ref a b=>exact hA _ _ (.ref a b)
theorem zFs {p:PV} {x:Value} (h:Rep w' E' 0 p x):Rep w' (E.bk E' rho1 nv nl inv) 0 (zC1 rho1 E'.R nv nl p) x:=by
 have hA:=fun p x=>zx2 hw hg hb hinv hw' (p:=p) (x:=x)
 cases h with
 | @tup _ _ cells vs hl hh=>have:=zkV hw hg hb hinv hw' _ hA ⟨hl,hh⟩;exact .tup this.1 this.2
 | ag hl hh=>exact hA _ _ (.ag hl hh)
 | clo hl hh=>exact hA _ _ (.clo hl hh)
 | v y=>exact hA _ _ (.v _)
 | junk=>exact hA _ _ (.junk _)
 | sl cs a b c d e=>exact hA _ _ (.sl cs a b c d e)
 | eref cs a b=>exact hA _ _ (.eref cs a b)
 | own a b=>exact hA _ _ (.own a b)
 | ref a b=>exact hA _ _ (.ref a b)
theorem zHK {j k b:Nat} (hi:inv j = some k) (hrm:E'.rm k = some b) (hn:(E'.R k).kind.nd = true):w.heap.size <= b \/ (E.rm j = some b/\(E.R j).kind.live = true):=by
 have _:=hw
 rcases (hw'.block hrm hn).2 with h | ⟨_,hnd,j',hj',hb'⟩
 ·exact .inl h
 ·have h1:=(hinv j k).1 hi
  rw [hb.keep k hnd,hj'] at h1
  cases h1
  obtain ⟨_,_,j'',hj'',hk⟩:=hg.row k hnd
  rw [hj'] at hj'';cases hj''
  exact .inr ⟨hb',(zcf hk).2.1⟩
theorem zIT:Turn G E (E.bk E' rho1 nv nl inv) w w' (fun j=>∃ k,inv j = some k):=by
 have hnone:∀ j,¬ (∃ k,inv j = some k)->inv j = none:=fun j h=>by
  cases hi:inv j with
  | none=>rfl
  | some k=>exact absurd ⟨k,hi⟩ h
 have given:∀ j k,inv j = some k->(R0 k).kind.nd = true->rho k = some j/\(E.R j).kind.live = true/\(R0 k).kind.slice = (E.R j).kind.slice:=fun j k hi hn=>by
  have h1:=(hinv j k).1 hi
  rw [hb.keep k hn] at h1
  obtain ⟨_,_,j',hj',hk⟩:=hg.row k hn
  rw [h1] at hj';cases hj'
  exact ⟨h1,(zcf hk).2.1,(zcf hk).2.2⟩
 have old:∀ j k,inv j = some k->nv k = (E.R j).ver->(R0 k).kind.nd = true/\(E'.R k).ver = (R0 k).ver:=fun j k hi he=>by
  by_cases hc:(R0 k).kind.nd = true/\(E'.R k).ver = (R0 k).ver
  ·exact hc
  ·have:=hb.new k j ((hinv j k).1 hi) fun h1 h2=>hc ⟨h1,h2⟩
   omega
 refine ⟨rfl,rfl,rfl,fun j hj=>?_,fun b hbs hD=>?_,fun j b ⟨k,hi⟩ hrm hn=>?_,fun j ⟨k,hi⟩=>?_,fun j ⟨k,hi⟩ he hs=>?_,fun j ⟨k,hi⟩ he hs=>?_,fun j ⟨k,hi⟩ hn=>?_,fun j j' b ⟨k,hi⟩ ⟨k',hi'⟩ n1 n2 e1 e2=>?_,hw'.kept.size,hw'.kept.os,hw'.kept.tape,hw'.kept.output⟩
 ·exact zC4 (hnone j hj)
 ·refine hw'.kept.block b hbs fun k ⟨hn,j,hj,hjb⟩=>?_
  have hi:=(hinv j k).2 ((hb.keep k hn).trans hj)
  have h1:=hD j ⟨k,hi⟩ hjb
  rw [(given j k hi hn).2.1] at h1;cases h1
 ·obtain ⟨a1,a2,_⟩:=zkm (E:=E) (E':=E') (rho1:=rho1) (nv:=nv) (nl:=nl) hi
  rw [a2] at hrm;rw [a1] at hn
  have hn:(zqv rho1 E'.R nv nl (E'.R k).kind).nd = true:=hn
  rw [zmz] at hn
  rcases zHK hw hg hb hinv hw' hi hrm hn with h | ⟨h1,h2⟩
  ·exact .inl h
  ·exact .inr ⟨h1,RK.nd_of_live h2,fun _=>h2⟩
 ·rw [(zkm hi).1]
  show (E.R j).ver <= nv k
  by_cases hc:(R0 k).kind.nd = true/\(E'.R k).ver = (R0 k).ver
  ·exact Nat.le_of_eq (hb.ver k j ((hinv j k).1 hi) hc.1 hc.2).symm
  ·exact Nat.le_of_lt (hb.new k j ((hinv j k).1 hi) fun h1 h2=>hc ⟨h1,h2⟩)
 ·obtain ⟨a1,a2,a3⟩:=zkm (E:=E) (E':=E') (rho1:=rho1) (nv:=nv) (nl:=nl) hi
  rw [a1] at he hs
  have he:nv k = (E.R j).ver:=he
  have hs:(zqv rho1 E'.R nv nl (E'.R k).kind).slice = true:=hs
  rw [zpn] at hs
  obtain ⟨hn,hv⟩:=old j k hi he
  obtain ⟨g1,g2,g3⟩:=given j k hi hn
  obtain ⟨_,_,q⟩:=(hw'.pin k).2 hv (RK.nd_of_slice hs)
  obtain ⟨q1,q2⟩:=q hs
  have q1:(R0 k).kind.slice = true:=q1
  refine ⟨by rw [<- g3];exact q1,?_⟩
  rw [a3,q2]
  show (match rho k with | some j=>E.rv j | none=>default) = _
  rw [g1]
 ·obtain ⟨a1,a2,a3⟩:=zkm (E:=E) (E':=E') (rho1:=rho1) (nv:=nv) (nl:=nl) hi
  rw [a1] at he hs
  have he:nv k = (E.R j).ver:=he
  have hs:(zqv rho1 E'.R nv nl (E'.R k).kind).nd = true:=hs
  rw [zmz] at hs
  obtain ⟨hn,hv⟩:=old j k hi he
  obtain ⟨g1,g2,g3⟩:=given j k hi hn
  obtain ⟨_,q,_⟩:=(hw'.pin k).2 hv hs
  refine ⟨RK.nd_of_live g2,?_⟩
  rw [a2,q]
  exact zuW hn g1
 ·obtain ⟨a1,_,_⟩:=zkm (E:=E) (E':=E') (rho1:=rho1) (nv:=nv) (nl:=nl) hi
  rw [a1] at hn ⊢
  have hn:(zqv rho1 E'.R nv nl (E'.R k).kind).nd = true:=hn
  rw [zmz] at hn
  show 0 < nv k
  by_cases hc:(R0 k).kind.nd = true/\(E'.R k).ver = (R0 k).ver
  ·rw [hb.ver k j ((hinv j k).1 hi) hc.1 hc.2]
   exact hw.pos j (RK.nd_of_live (given j k hi hc.1).2.1)
  ·have:=hb.new k j ((hinv j k).1 hi) fun h1 h2=>hc ⟨h1,h2⟩
   omega
 ·obtain ⟨a1,a2,_⟩:=zkm (E:=E) (E':=E') (rho1:=rho1) (nv:=nv) (nl:=nl) hi
  obtain ⟨b1,b2,_⟩:=zkm (E:=E) (E':=E') (rho1:=rho1) (nv:=nv) (nl:=nl) hi'
  rw [a2] at e1;rw [b2] at e2
  rw [a1] at n1;rw [b1] at n2
  have n1:(zqv rho1 E'.R nv nl (E'.R k).kind).nd = true:=n1
  have n2:(zqv rho1 E'.R nv nl (E'.R k').kind).nd = true:=n2
  rw [zmz] at n1 n2
  have:=hw'.inj k k' b n1 n2 e1 e2
  subst this
  have h1:=(hinv j k).1 hi
  have h2:=(hinv j' k).1 hi'
  rw [h1] at h2;cases h2;rfl
theorem zIU:∀ j,(∃ k,inv j = some k)->zav w' (E.bk E' rho1 nv nl inv) G.C j:=by
 rintro j ⟨k,hi⟩
 obtain ⟨a1,a2,a3⟩:=zkm (E:=E) (E':=E') (rho1:=rho1) (nv:=nv) (nl:=nl) hi
 have hB:E'.B = w.heap.size:=hw'.base
 have hB3:(E.bk E' rho1 nv nl inv).B <= w.heap.size:=by show E.B <= _;rw [hw.base];exact hw.kept.size
 have hC:∀ b,E'.rm k = some b->(E'.R k).kind.nd = true->G.C j b:=fun b hrm hn=>by
  rcases zHK hw hg hb hinv hw' hi hrm hn with h | ⟨h1,h2⟩
  ·exact .inl (Nat.le_trans hw.kept.size h)
  ·exact (hw.block h1 (RK.nd_of_live h2)).2
 have h1:=fun ps vs=>zkV hw hg hb hinv hw' (ren1 rho1 E'.R nv nl) (fun p x=>zx2 hw hg hb hinv hw' (p:=p) (x:=x)) (ps:=ps) (vs:=vs)
 have hrow:=hw'.rows k
 unfold zav at hrow ⊢
 rw [a1,a2,a3]
 show match zqv rho1 E'.R nv nl (E'.R k).kind with | .dead=>True | .nil=>_ | .box t cells=>_ | .sli e sz _ cells=>_ | .tab e cells=>_ | .mp f=>_
 cases hk:(E'.R k).kind with
 | dead=>trivial
 | nil=>rw [hk] at hrow;exact hrow
 | box t c =>
   rw [hk] at hrow
   obtain ⟨b,vs,g1,g2,g3,g4⟩:=hrow
   exact ⟨b,vs,g1,hC b g1 (by rw [hk];rfl),g3,h1 _ _ g4⟩
 | sli e sz fz c =>
   rw [hk] at hrow
   rcases hrow with hr | ⟨b,n,cap,vs,rest,g1,g2,g3,g4,g5,g6,g7,g8,g9⟩
   ·exact .inl hr
   ·exact .inr ⟨b,n,cap,vs,rest,g1,hC b g1 (by rw [hk];rfl),g3,g4,g5,g6,g7,g8,g9.1,fun i x y=>(zuZ hw hg hb hinv hw' (.inr (Nat.le_of_eq hB.symm)) (g9.2 i x y)).low (by rw [hB];exact hB3)⟩
 | tab e c =>
   rw [hk] at hrow
   rcases hrow with ⟨g1,g2,g3⟩ | ⟨b,n,cap,vs,rest,g1,g2,g3,g4,g5,g6,g7,g8,g9⟩
   ·exact .inl ⟨g1,g2,by rw [g3];rfl⟩
   ·exact .inr ⟨b,n,cap,vs,rest,g1,hC b g1 (by rw [hk];rfl),g3,g4,g5,g6,g7,g8,h1 _ _ g9⟩
 | mp f =>
   rw [hk] at hrow
   obtain ⟨b,es,ck,g1,g2,g3,g4,g5⟩:=hrow
   exact ⟨b,es,ck,g1,hC b g1 (by rw [hk];rfl),g3,g4,g5⟩
end
theorem zMr {rho:Nat->Option Nat} (h:∀ k k' j,rho k = some j->rho k' = some j->k = k'):∃ inv:Nat->Option Nat,∀ j k,inv j = some k ↔ rho k = some j:=by
 classical
 refine ⟨fun j=>if hj:∃ k,rho k = some j then some hj.choose else none,fun j k=>?_⟩
 by_cases hj:∃ k,rho k = some j
 ·simp only [dif_pos hj,Option.some.injEq]
  constructor
  ·rintro rfl;exact hj.choose_spec
  ·exact fun hk=>h _ _ j hj.choose_spec hk
 ·simp only [dif_neg hj]
  constructor
  ·intro h;cases h
  ·exact fun hk=>absurd ⟨k,hk⟩ hj
structure After (s S:St) (dst:Option Nat) (rho1:Nat->Option Nat) (nv:Nat->Nat) (nl:Bool) (R1:Nat->Row) (p:PV):Prop where
 row:∀ k j,rho1 k = some j->S.rw j = ⟨nv k,zqv rho1 R1 nv nl (R1 k).kind⟩
 off:∀ j,(∀ k,rho1 k ≠ some j)->S.rw j = s.rw j
 sl:S.sl = (s.put dst (zC1 rho1 R1 nv nl p)).sl
def askG [zae] (P:Program) (s:St) (g:FuncId) (raw:List PV) (dst:Option Nat) (K:St->Prop):Prop :=
 ∃ (args:List PV) (R0:Nat->Row) (post:(Nat->Row)->PV->Prop) (rho:Nat->Option Nat) (Ln:Nat->Prop),
  AG P g args R0 post/\GvL rho Ln R0 s.rw args raw/\Give rho Ln R0 s.rw /\
  ∀ R1 p,post R1 p->∃ (rho1:Nat->Option Nat) (nv:Nat->Nat) (nl:Bool),Back rho rho1 R1 nv nl Ln R0 s.rw/\∀ S:St,After s S dst rho1 nv nl R1 p->K S
theorem zhw [zae] {P:Program} {G:Ghost} {s:St} {w:World} {o:Oper} {c:Call} {f:Operand} {K:St->Prop} (ho:o.op = .call c) (hc:c.callee = .value f) (hd:∀ d,o.dst = some d->d < G.n)
 (hk:match s.ev f with | .clo g caps=>askG P s g (c.args.toList.map s.ev ++ caps) o.dst K | _=>False) {a:Act} (hs:Sim G s a w) {K':Act->World->Prop} {Q:Exit->Act->World->Prop}
 (hK:∀ s' a' w',K s'->Sim G s' a' w'->K' a' w'):o.wp P a w K' Q:=by
 split at hk
 ·rename_i g caps hev
  obtain ⟨args,R0,post,rho,Ln,hag,hgl,hgv,hk⟩:=hk
  obtain ⟨E,hs⟩:=hs
  have hfx:=zaB hs.slots f
  rw [hev] at hfx
  generalize hvf:a.eval f = vf at hfx
  cases hfx with
  | @clo _ _ _ _ vs hl hh' =>
    obtain ⟨hent,hcall⟩:=hag
    rw [<- hs.rw] at hgl hgv
    have hraw:zbu w E 0 (c.args.toList.map s.ev ++ caps) (c.args.toList.map a.eval ++ vs) :=
     zbu.append (zbu.map fun x _=>zaB hs.slots x) ⟨hl,hh'⟩
    have hcall:=hcall w (gvM E rho R0) (E.gv rho Ln R0 w.heap.size) _ (zNE hs.wok hgv) rfl (zuY hs.wok hgv _ hgl hraw)
    unfold Oper.wp
    rw [zkU ho hc hvf hent]
    show Calls P g _ w _
    refine hcall.mono fun en w' ⟨E',p,v,he,hw',hrep,hpost⟩=>?_
    subst he
    obtain ⟨rho1,nv,nl,hbk,hk⟩:=hk E'.R p hpost
    rw [<- hs.rw] at hbk
    obtain ⟨inv,hinv⟩:=zMr hbk.inj
    have hsim:=(zIT hs.wok hgv hbk hinv hw').sim hs (zIU hs.wok hgv hbk hinv hw')
    have hput:=hsim.put hd (zFs hs.wok hgv hbk hinv hw' hrep)
    refine hK _ _ _ (hk _ ⟨fun k j hkj=>?_,fun j hj=>?_,?_⟩) ⟨_,hput⟩
    ·have:(St.put { s with rw:=(E.bk E' rho1 nv nl inv).R } o.dst (zC1 rho1 E'.R nv nl p)).rw j = (E.bk E' rho1 nv nl inv).R j:=by cases o.dst <;> rfl
     rw [this,(zkm ((hinv j k).2 hkj)).1]
    ·have:(St.put { s with rw:=(E.bk E' rho1 nv nl inv).R } o.dst (zC1 rho1 E'.R nv nl p)).rw j = (E.bk E' rho1 nv nl inv).R j:=by cases o.dst <;> rfl
     have hn:inv j = none:=by
      cases hi:inv j with
      | none=>rfl
      | some k=>exact absurd ((hinv j k).1 hi) (hj k)
     rw [this,(zC4 hn).1,hs.rw]
    ·cases o.dst <;> rfl
 ·exact hk.elim
def Wk [zae] (s s':St):Prop:=∀ (G:Ghost) (a:Act) (w:World),Sim G s a w->Sim G s' a w
theorem Wk.refl [zae] (s:St):Wk s s:=fun _ _ _ h=>h
theorem Wk.trans [zae] {a b c:St} (h:Wk a b) (k:Wk b c):Wk a c:=fun G x w hs=>k G x w (h G x w hs)
theorem Wk.freeze [zae] (s:St) (ks:List Nat):Wk s (s.freeze ks):=by
 intro G a w ⟨E,hs⟩
 have ht:Turn G E { R:=zis E.R ks,rm:=E.rm,rv:=E.rv,L:=mkL E.X (zis E.R ks) E.rm,B:=E.B,X:=E.X } w w (· ∈ ks):=by
  have at_:∀ k,k ∈ ks->zis E.R ks k = frz (E.R k):=fun k hk=>by simp [zis,hk]
  refine ⟨rfl,rfl,rfl,fun k hk=>⟨by simp [zis,hk],rfl,rfl⟩,fun _ _ _=>rfl,fun k b hk hb hn=>.inr ⟨hb,?_,fun hl=>?_⟩,fun k hk=>?_,fun k hk _ h=>⟨?_,rfl⟩,fun k hk _ h=>⟨?_,rfl⟩,fun k hk hn=>?_,fun k k' b hk hk' hn hn' hb hb'=>?_,Nat.le_refl _,rfl,rfl,⟨rfl,fun _=>by first | exact Nat.le_refl _ | exact Nat.le_succ _⟩⟩
  ·simpa [at_ k hk,zgd] using hn
  ·exact zkT _ (by simpa [at_ k hk] using hl)
  ·simp [at_ k hk,zqs]
  ·simpa [at_ k hk,ztp] using h
  ·simpa [at_ k hk,zgd] using h
  ·have:=hs.wok.pos k (by simpa [at_ k hk,zgd] using hn)
   simpa [at_ k hk,zqs] using this
  ·exact hs.wok.inj k k' b (by simpa [at_ k hk,zgd] using hn) (by simpa [at_ k' hk',zgd] using hn') hb hb'
 have hl:=ht.lasts hs.wok
 have hrows:∀ k,k ∈ ks->zav w { R:=zis E.R ks,rm:=E.rm,rv:=E.rv,L:=mkL E.X (zis E.R ks) E.rm,B:=E.B,X:=E.X } G.C k:=by
  intro k hk
  have hr:=hs.wok.rows k
  have hf:zis E.R ks k = frz (E.R k):=by simp [zis,hk]
  unfold zav at hr ⊢
  simp only [hf]
  cases hkd:(E.R k).kind with
  | dead=>simp [frz,hkd]
  | nil=>simp only [hkd,frz] at hr ⊢;exact hr
  | box t cells =>
    simp only [hkd,frz] at hr ⊢
    obtain ⟨b,vs,h1,h2,h3,h4⟩:=hr
    exact ⟨b,vs,h1,h2,h3,h4.mono hl (Nat.le_refl _)⟩
  | sli e sz fz' cells =>
    simp only [hkd,frz] at hr ⊢
    rcases hr with hr | ⟨b,n,cap,vs,rest,h1,h2,h3,h4,h5,h6,h7,h8,h9⟩
    ·exact .inl hr
    ·exact .inr ⟨b,n,cap,vs,rest,h1,h2,h3,h4,h5,h6,h7,h8,h9.mono hl.bare (Nat.le_refl _)⟩
  | tab e cells =>
    simp only [hkd,frz] at hr ⊢
    rcases hr with hr | ⟨b,n,cap,vs,rest,h1,h2,h3,h4,h5,h6,h7,h8,h9⟩
    ·exact .inl hr
    ·exact .inr ⟨b,n,cap,vs,rest,h1,h2,h3,h4,h5,h6,h7,h8,h9.mono hl (Nat.le_refl _)⟩
  | mp f=>simp only [hkd,frz] at hr ⊢;exact hr
 have key:=ht.sim hs hrows
 have e:({ s with rw:=zis E.R ks }:St) = s.freeze ks:=by rw [hs.rw];rfl
 exact ⟨_,e ▸ key⟩
def zMo (k:Nat) (p:List Nat) (j:Nat):Bool:=j == k || p.any fun x=>j == sid k x
theorem zxR {k:Nat} {p:List Nat} {j:Nat}:zMo k p j = true ↔ InT k p j:=by
 unfold zMo InT
 simp
def zbf (R:Nat->Row) (k:Nat) (p:List Nat) (j:Nat):Row:=match zMo k p j with | true=>⟨(R j).ver + 1,.dead⟩ | false=>R j
def St.killed (s:St) (k:Nat) (p:List Nat):St:={ s with rw:=zbf s.rw k p }
theorem ze6 [zae] {R:Nat->Row} {k:Nat} {p:List Nat} {j:Nat} (h:InT k p j):zbf R k p j = ⟨(R j).ver + 1,.dead⟩:=by
 unfold zbf;rw [zxR.2 h]
theorem zcw [zae] {R:Nat->Row} {k:Nat} {p:List Nat} {j:Nat} (h:¬ InT k p j):zbf R k p j = R j:=by
 unfold zbf
 cases hb:zMo k p j with
 | true=>exact absurd (zxR.1 hb) h
 | false=>rfl
theorem Wk.kill [zae] (s:St) (k:Nat) (p:List Nat):Wk s (s.killed k p):=by
 intro G a w ⟨E,hs⟩
 have dead:∀ j,InT k p j->(zbf E.R k p j).kind.nd = true->False:=fun j hj h=>by rw [ze6 hj] at h;cases h
 have ht:Turn G E { R:=zbf E.R k p,rm:=E.rm,rv:=E.rv,L:=mkL E.X (zbf E.R k p) E.rm,B:=E.B,X:=E.X } w w (InT k p):=by
  refine ⟨rfl,rfl,rfl,fun j hj=>⟨zcw hj,rfl,rfl⟩,fun _ _ _=>rfl,fun j b hD _ hnd=>(dead j hD hnd).elim,fun j hD=>?_,fun j hD he _=>?_,fun j hD he _=>?_,fun j hD hnd=>(dead j hD hnd).elim,fun j j' b hD hD' h1 _ _ _=>(dead j hD h1).elim,Nat.le_refl _,rfl,rfl,⟨rfl,fun _=>by first | exact Nat.le_refl _ | exact Nat.le_succ _⟩⟩
  ·show _ <= (zbf E.R k p j).ver
   rw [ze6 hD];exact Nat.le_succ _
  ·have he:(zbf E.R k p j).ver = (E.R j).ver:=he
   rw [ze6 hD] at he;simp at he
  ·have he:(zbf E.R k p j).ver = (E.R j).ver:=he
   rw [ze6 hD] at he;simp at he
 have hrows:∀ j,InT k p j->zav w { R:=zbf E.R k p,rm:=E.rm,rv:=E.rv,L:=mkL E.X (zbf E.R k p) E.rm,B:=E.B,X:=E.X } G.C j:=fun j hj=>by
  unfold zav
  show match (zbf E.R k p j).kind with | .dead=>True | .nil=>_ | .box t cells=>_ | .sli e sz _ cells=>_ | .tab e cells=>_ | .mp f=>_
  rw [ze6 hj];trivial
 have key:SimE G _ ({ s with rw:=zbf E.R k p }:St) a w:=ht.sim hs hrows
 have e:({ s with rw:=zbf E.R k p }:St) = s.killed k p:=by rw [hs.rw];rfl
 rw [e] at key
 exact ⟨_,key⟩
theorem zef {vr vr':Nat->Nat} {d:Nat} (h:∀ i,vr (zak d i) = vr' (zak d i)) (rv:RV):zaY vr d rv 0 = zaY vr' d rv 0:=by
 have e0:∀ (r:RV) (i:Nat),zbI vr d r i = zbI vr' d r i:=fun r i=>by
  cases r <;> simp only [zbI,h]
 have eL:∀ (f g:RV->Nat->PV),(∀ r i,f r i = g r i)->∀ l i,zbl f l i = zbl g l i:=fun f g h l=>by
  induction l with
  | nil=>intro i;rfl
  | cons r rs ih=>intro i;simp only [zbl,h,ih]
 have e1:∀ (r:RV) (i:Nat),zbO vr d r i = zbO vr' d r i:=fun r i=>by
  cases r <;> simp only [zbO,e0,eL _ _ e0]
 cases rv <;> simp only [zaY,e1,e0,eL _ _ e1]
theorem zbU [zae] {R R':Nat->Row} {d:Nat} (h:∀ i,R (zak d i) = R' (zak d i)) (j:Nat):∀ (ls:List (TypeId × Option Nat × List PV)) (i:Nat),
 ((∃ m,m < ls.length/\j = zak d (i + m))->zaw R d ls i j = zaw R' d ls i j)/\(¬ (∃ m,m < ls.length/\j = zak d (i + m))->zaw R d ls i j = R j/\zaw R' d ls i j = R' j):=by
 intro ls
 induction ls with
 | nil=>intro i;exact ⟨fun ⟨m,hm,_⟩=>by simp at hm,fun _=>⟨rfl,rfl⟩⟩
 | cons l ls ih =>
   intro i
   obtain ⟨e,sz,c⟩:=l
   simp only [zaw]
   by_cases he:j = zak d i
   ·subst he
    refine ⟨fun _=>?_,fun hn=>absurd ⟨0,sp,sp⟩ hn⟩
    have hk:zbV R d i e sz c = zbV R' d i e sz c:=by cases sz <;> simp [zbV,zaX,h]
    rw [zaf,zaf,h,hk]
   ·rw [zam _ _ he,zam _ _ he]
    obtain ⟨a1,a2⟩:=ih (i + 1)
    refine ⟨fun ⟨m,hm,hj⟩=>?_,fun hn=>a2 fun ⟨m,hm,hj⟩=>hn ⟨m + 1,by simpa using hm,by rw [hj];congr 1;omega⟩⟩
    cases m with
    | zero=>exact absurd (by simpa using hj) he
    | succ m=>exact a1 ⟨m,by simpa using hm,by rw [hj];congr 1;omega⟩
theorem zyY [zae] {s:St} {k v e e2 d:Nat} {p p':List Nat} {rows rows':List (List PV)} {r:RV} (ht:TabIs s.rw k v e e2 p rows) (hn:p.Nodup) (hp:p'.Perm p) (hd:d % 1000 ≠ k % 1000) :
 (zal (s.tabbed k v e e2 p' rows') d r).killed k p = zal (s.killed k p) d r:=by
 have hmod:∀ j,InT k p j->j % 1000 = k % 1000:=fun j hj=>by
  rcases hj with rfl | ⟨x,_,rfl⟩
  ·rfl
  ·rw [zbN];omega
 have hleaf:∀ i,¬ InT k p (zak d i):=fun i hi=>hd (by rw [<- hmod _ hi];unfold zak;omega)
 have hin:∀ j,InT k p j ↔ (j = k \/ ∃ x ∈ p',j = sid k x):=fun j=>⟨fun h=>by
  rcases h with h | ⟨x,hx,h⟩
  ·exact .inl h
  ·exact .inr ⟨x,hp.mem_iff.2 hx,h⟩,fun h=>by
  rcases h with h | ⟨x,hx,h⟩
  ·exact .inl h
  ·exact .inr ⟨x,hp.mem_iff.1 hx,h⟩⟩
 have hout:∀ j,¬ InT k p j->ziX s.rw k v e e2 p' rows' j = s.rw j:=fun j hj=>zje (fun h=>hj (.inl h)) fun x hx h=>hj ((hin j).2 (.inr ⟨x,hx,h⟩))
 have hver:∀ j,InT k p j->(ziX s.rw k v e e2 p' rows' j).ver = (s.rw j).ver:=fun j hj=>by
  rcases hj with rfl | ⟨x,hx,rfl⟩
  ·rw [ziq,ht.top]
  ·obtain ⟨i',hi',he'⟩:=zeN (hp.mem_iff.2 hx)
   obtain ⟨i,hi,he⟩:=zeN hx
   have h1:=zir (R:=s.rw) (k:=k) (v:=v) (e:=e) (e2:=e2) (rows:=rows') (hp.nodup_iff.2 hn) hi'
   rw [he'] at h1
   have h2:=ht.row i hi
   rw [he] at h2
   rw [h1,h2]
 have hlf:∀ i,ziX s.rw k v e e2 p' rows' (zak d i) = zbf s.rw k p (zak d i):=fun i=>by rw [hout _ (hleaf i),zcw (hleaf i)]
 have hrw:zbf (zaw (ziX s.rw k v e e2 p' rows') d (leaves r) 0) k p = zaw (zbf s.rw k p) d (leaves r) 0:=by
  funext j
  obtain ⟨a1,a2⟩:=zbU hlf j (leaves r) 0
  by_cases hj:∃ m,m < (leaves r).length/\j = zak d (0 + m)
  ·have hne:¬ InT k p j:=by obtain ⟨m,_,rfl⟩:=hj;exact hleaf _
   rw [zcw hne];exact a1 hj
  ·obtain ⟨b1,b2⟩:=a2 hj
   rw [b2]
   by_cases hi:InT k p j
   ·rw [ze6 hi,ze6 hi,b1,hver j hi]
   ·rw [zcw hi,zcw hi,b1,hout j hi]
 have hval:zaY (fun j=>(ziX s.rw k v e e2 p' rows' j).ver) d r 0 = zaY (fun j=>(zbf s.rw k p j).ver) d r 0:=zef (fun i=>by rw [hlf]) r
 show (St.mk _ (zbf (zaw (ziX s.rw k v e e2 p' rows') d (leaves r) 0) k p)) = _
 rw [hrw]
 show (St.mk (((St.mk s.sl _).put (some d) (zaY (fun j=>(ziX s.rw k v e e2 p' rows' j).ver) d r 0)).sl) _) = _
 rw [hval]
 rfl
theorem zyZ [zae] {P:Program} {G:Ghost} {s:St} {o:Oper} {c:Call} {f:Operand} {k v e e2 d:Nat} {p:List Nat} {rows rows':List (List PV)} {args caps:List PV} {g:FuncId} {r:RV} (ho:o.op = .call c) (hc:c.callee = .value f) (hdst:o.dst = some d) (hd:d < G.n)
 (hev:s.ev f = .clo g caps) (hat:AT P g args e e2 rows rows' (.rv r)) (hg:GiveL [(k,v)] (c.args.toList.map s.ev ++ caps) args) (ht:TabIs s.rw k v e e2 p rows) (hn:p.Nodup) (hdk:d % 1000 ≠ k % 1000):za9 P G s o (zal (s.killed k p) d r):=by
 intro a w hs K' Q hK
 refine zmi (K:=fun s1=>∃ p':List Nat,p'.Perm p/\s1 = zal (s.tabbed k v e e2 p' rows') d r) ho hc (fun x hx=>by rw [hdst] at hx;cases hx;exact hd) ?_ hs fun s1 a' w' ⟨p',hp',he⟩ hs1=>hK a' w' ?_
 ·rw [hev]
  refine ⟨k,v,e,e2,p,rows,rows',args,.rv r,hat,hg,ht,hn,fun p' hp'=>?_⟩
  rw [hdst]
  exact ⟨hdk,p',hp',rfl⟩
 ·subst he
  rw [<- zyY ht hn hp' hdk]
  exact Wk.kill _ k p G a' w' hs1
def opK [zae] (P:Program) (T:Tab) (s:St) (o:Oper) (K:St->Prop):Prop :=
 match o.op with
 | .assign (.const c) =>
   (match zey c with
   | true=>(match o.dst with | some d=>K (zcX s d (match (T o.type).k with | .sli e=>.sli e (T e).size false [] | _=>.nil) fun v=>.own d v) | none=>False)
   | false=>K (s.put o.dst (zuT c)))
 | .alloc t=>(match o.dst with | some d=>0 < (T t).size/\K (zcX s d (.box t ((T t).zero.map PV.v)) fun v=>.ref d v 0) | none=>False)
 | .box t x=>(match o.dst with | some d=>za5 s.rw (s.ev x) fun c=>K (zcX s d (.box t c) fun v=>.ref d v 0) | none=>False)
 | .makeSlice t l c =>
   (match o.dst,(T t).k,s.ev l,s.ev c with
   | some d,.sli e,.v (.int _ nl),.v (.int _ nc)=>0 < (T t).size/\(T e).size = 1/\(match (T e).zero with
    | [z]=>0 <= nl/\nl <= nc/\((T e).bytes:Int) * nc <= 281474976710656/\nc <= 9223372036854775807/\K (zcX s d (.sli e 1 false (List.replicate nl.toNat (.v z))) fun v=>.own d v)
    | _=>False)
   | _,_,_,_=>False)
 | .buildSlice t n parts=>(match o.dst with | some d=>zCM T s d t n parts K | none=>False)
 | .store t ad x=>o.dst = none/\zto T s t (s.ev ad) (s.ev x) K
 | .makeMap _ r=>(match o.dst,r with | some d,none=>K (zcX s d (.mp fun _=>0) fun v=>.own d v) | _,_=>False)
 | .mapUpdate t m x y=>o.dst = none/\zKq T s t (s.ev m) (s.ev x) (s.ev y) K
 | .build t parts=>zhs T s.rw s.ev t parts fun p=>K (s.put o.dst p)
 | .slice _ x _ _ _ =>
   (match s.ev x with
   | .own k _=>(match (s.rw k).kind with
    | .sli _ _ false _=>zkl T (s.freeze [k]).rw s.ev o.op fun p=>K ((s.freeze [k]).put o.dst p)
    | _=>zkl T s.rw s.ev o.op fun p=>K (s.put o.dst p))
   | _=>zkl T s.rw s.ev o.op fun p=>K (s.put o.dst p))
 | .call c =>
   (match c.callee with
   | .builtin .append=>(match c.args,c.argTypes,o.dst with | ⟨[x,y]⟩,⟨[t,t2]⟩,some d=>zmm T s d t t2 (s.ev x) (s.ev y) K | _,_,_=>False)
   | .value f=>(match o.dst with | some d=>ze8 P s.rw s.ev f c.args fun rv=>K (zal s d rv) | none=>ze8 P s.rw s.ev f c.args fun _=>K s) \/ zCI P s f c.args o.dst K
   | _=>zkl T s.rw s.ev o.op fun p=>K (s.put o.dst p))
 | _=>zkl T s.rw s.ev o.op fun p=>K (s.put o.dst p)
section
variable {P:Program} {T:Tab} {G:Ghost} {s:St} {o:Oper}
theorem zhf.effects [zae] {p:PV} (h:zhf P G s o p) (hd:∀ d,o.dst = some d->d < G.n):za9 P G s o (s.put o.dst p):=by
 intro a w ⟨E,hs⟩ K Q hK
 exact h E a w hs.rw hs.wok (fun x _=>zaB hs.slots x) K Q fun v w' hx hv=>hK _ _ ⟨E,(hs.ext hx).put hd hv⟩
theorem zjc [zae] (hT:T.Ok P) {K:St->Prop} (hd:∀ d,o.dst = some d->d < G.n) (hk:zkl T s.rw s.ev o.op fun p=>K (s.put o.dst p)):∃ s',K s'/\za9 P G s o s':=by
 obtain ⟨p,hp,hy⟩:=ztr (G:=G) hT hk
 exact ⟨_,hp,hy.effects hd⟩
theorem za9.wk [zae] {s1 s':St} (hw:Wk s s1) (h:za9 P G s1 o s'):za9 P G s o s':=fun a w hs=>h a w (hw G a w hs)
theorem zkS [zae] (hT:T.Ok P) {K:St->Prop} (hd:∀ d,o.dst = some d->d < G.n) (hk:opK P T s o K):∃ s',K s'/\za9 P G s o s':=by
 unfold opK at hk
 split at hk
 ·rename_i c ho
  split at hk
  ·rename_i hn
   split at hk
   ·rename_i d hdst
    refine zCP ?_ ho hdst (hd d hdst) hn hk
    split
    ·exact .inr ⟨_,_,rfl⟩
    ·exact .inl rfl
   ·exact hk.elim
  ·exact zjc hT hd (by rw [ho];exact hk)
 ·rename_i t ho
  split at hk
  ·rename_i d hdst
   exact zuN hT ho hdst (hd d hdst) hk
  ·exact hk.elim
 ·rename_i t x ho
  split at hk
  ·rename_i d hdst
   exact zCO ho hdst (hd d hdst) hk
  ·exact hk.elim
 ·rename_i t l c ho
  split at hk
  ·rename_i hdst hk1 hl hc
   obtain ⟨h1,h2,hk⟩:=hk
   split at hk
   ·rename_i z hz
    obtain ⟨h3,h4,h5,h6,hk⟩:=hk
    exact zy4 hT ho hdst (hd _ hdst) h1 hk1 hl hc h2 hz h3 h4 h5 h6 hk
   ·exact hk.elim
  ·exact hk.elim
 ·rename_i t n parts ho
  split at hk
  ·rename_i d hdst
   exact zuM hT ho hdst (hd d hdst) hk
  ·exact hk.elim
 ·rename_i t ad x ho
  exact zuO hT ho hk.1 hk.2
 ·rename_i t r ho
  split at hk
  ·rename_i d hdst
   exact zqw ho hdst (hd d hdst) hk
  ·exact hk.elim
 ·rename_i t m x y ho
  exact zC5 hT ho hk.1 hk.2
 ·rename_i t parts ho
  obtain ⟨p,hp,hy⟩:=zjZ (G:=G) hT ho hk
  exact ⟨_,hp,hy.effects hd⟩
 ·rename_i t x lo hi mx ho
  split at hk
  ·rename_i k ver hev
   split at hk
   ·have hk':zkl T (s.freeze [k]).rw (s.freeze [k]).ev o.op fun p=>K ((s.freeze [k]).put o.dst p):=hk
    obtain ⟨s',h1,h2⟩:=zjc (G:=G) hT hd hk'
    exact ⟨s',h1,h2.wk (Wk.freeze s [k])⟩
   ·exact zjc hT hd hk
  ·exact zjc hT hd hk
 ·rename_i c ho
  split at hk
  ·rename_i hc
   split at hk
   ·rename_i x y t t2 d ha ht hdst
    refine ztn hT (x:=x) (y:=y) ?_ hdst (hd d hdst) hk
    rw [ho]
    obtain ⟨c1,c2,c3⟩:=c
    simp only at hc ha ht
    rw [hc,ha,ht]
   ·exact hk.elim
  ·rename_i f hc
   rcases hk with hk | hk
   case inr=>exact zuK ho hc hd hk
   split at hk
   ·rename_i d hdst
    exact zpd ho hc hdst (hd d hdst) hk
   ·rename_i hdst
    obtain ⟨rv,hk,h⟩:=zCS (G:=G) ho hc hk
    refine ⟨_,hk,fun a w ⟨E,hs⟩ K' Q hK=>h E a w hs.rw hs.wok (fun x _=>zaB hs.slots x) K' Q fun v w' lv hx _ _=>?_⟩
    rw [hdst]
    exact hK _ _ ⟨E,hs.ext hx⟩
  ·exact zjc hT hd hk
 ·exact zjc hT hd hk
def zuG (T:Tab) (rw:Nat->Row) (t:TypeId) (x:PV) (K:Bool->Prop):Prop :=
 0 < (T t).size/\match (T t).k with
 | .sli _=>slK rw x fun _ _ c=>K false/\(c = []->K true)
 | _=>False
def zIJ [zae] (P:Program) (s:St) (g:FuncId) (args:List PV) (dst:Option Nat) (K:St->Prop):Prop :=
 ∃ (rv:RV) (s':St),AC P g args rv/\Wk (match dst with | some d=>zal s d rv | none=>s) s'/\K s'
def zew [zae] (P:Program) (T:Tab) (s:St) (o:Oper) (K:St->Prop):Prop :=
 match o.op with
 | .binOp .eql t x (.const (.slice none 0 0)) _=>zuG T s.rw t (s.ev x) fun b=>K (s.put o.dst (.v (.bool b)))
 | .binOp .neq t x (.const (.slice none 0 0)) _=>zuG T s.rw t (s.ev x) fun b=>K (s.put o.dst (.v (.bool !b)))
 | .call ⟨.value f,args,_⟩=>opK P T s o K \/ (match s.ev f with
  | .clo g caps=>zNg P s g (args.toList.map s.ev ++ caps) o.dst K \/ zIJ P s g ((args.toList.map fun x=>zcS s.rw zgZ (s.ev x)) ++ caps.map (zcS s.rw zgZ)) o.dst K \/ askG P s g (args.toList.map s.ev ++ caps) o.dst K
  | _=>False)
 | .call ⟨.builtin .append,⟨[x,y]⟩,⟨[t,t2]⟩⟩=>(match o.dst,s.ev y with
  | some d,.v (.string b)=>zuV T s d t t2 (s.ev x) b K
  | _,_=>(match o.dst,s.ev x with
  | some d,.own k ver=>(match (s.rw k).kind with | .tab e c=>zNf T s d t t2 k ver e c (s.ev y) K | _=>opK P T s o K)
  | _,_=>opK P T s o K))
 | .buildSlice t n ⟨[(i,x)]⟩=>(match o.dst,s.ev x with
  | some d,.own k ver=>(match (s.rw k).kind with | .tab _ _=>zmh T s d t n i k ver K | .sli _ _ _ _=>opK P T s o K \/ zmh T s d t n i k ver K | _=>opK P T s o K)
  | _,_=>opK P T s o K)
 | _=>opK P T s o K
theorem znI {P:Program} (w:World) (d:Nat) {t e:TypeId} (a:Option Addr) (n c n' c':Nat) (h:P.underlying t = some (.slice e)) :
 (Op.equalIn (d + 1) t (.slice a n c) (.slice none n' c')).run P w = .ok a.isNone w:=by
 cases a <;> simp [Op.equalIn,run_underlying h]
theorem zjV [zae] {P:Program} (w:World) {t e:TypeId} (a:Option Addr) (n c n' c':Nat) (h:P.underlying t = some (.slice e)) :
 (Op.equal t (.slice a n c) (.slice none n' c')).run P w = .ok a.isNone w:=znI w 9999 a n c n' c' h
theorem zjW [zae] (hT:T.Ok P) {t:TypeId} {x:PV} {K:Bool->Prop} (hk:zuG T s.rw t x K) {E:Env} {w:World} (hR:E.R = s.rw) (hw:WOk G E w) {v:Value} (hp:Rep w E 0 x v) :
 ∃ b,K b/\(Op.equal t v (.slice none 0 0)).run P w = .ok b w/\∃ a l c,v = .slice a l c:=by
 obtain ⟨hz,hk⟩:=hk
 split at hk
 ·rename_i e he
  have hu:=(hT t hz).k
  rw [he] at hu
  obtain ⟨fr,sz,c,⟨h1,h2⟩,a,len,cap,cs,rfl,hl,hc,hm,hcell⟩:=ziu hk hR hw hp
  have hu':P.underlying t = some (.slice e):=hu
  cases a with
  | some b=>exact ⟨false,h1,zjV w _ _ _ _ _ hu',_,_,_,rfl⟩
  | none =>
    have:c = []:=by
     cases c with
     | nil=>rfl
     | cons p ps=>obtain ⟨b,o,h,_⟩:=hcell 0 sp;cases h
    exact ⟨true,h2 this,zjV w _ _ _ _ _ hu',_,_,_,rfl⟩
 ·exact hk.elim
theorem zCD [zae] (hT:T.Ok P) {K:St->Prop} (hd:∀ d,o.dst = some d->d < G.n) (hk:zew P T s o K) {a:Act} {w:World} (hs:Sim G s a w) {K':Act->World->Prop} {Q:Exit->Act->World->Prop}
 (hK:∀ s' a' w',K s'->Sim G s' a' w'->K' a' w'):o.wp P a w K' Q:=by
 have base:opK P T s o K->o.wp P a w K' Q:=fun hk=>by
  obtain ⟨s',hk2,he⟩:=zkS (G:=G) hT hd hk
  exact he a w hs _ _ fun a' w' h'=>hK s' a' w' hk2 h'
 unfold zew at hk
 split at hk
 ·rename_i t x t2 ho
  obtain ⟨E,hs⟩:=hs
  obtain ⟨b,hb,hrun,a1,l1,c1,hv⟩:=zjW (G:=G) hT hk hs.rw hs.wok (zaB hs.slots x)
  refine zdX (v:=.bool b) (w':=w) ?_ (hK _ _ _ hb ⟨E,hs.put hd (.v _)⟩)
  have ec:a.eval (.const (.slice none 0 0)) = .slice none 0 0:=rfl
  rw [hv] at hrun
  simp [execOp,ho,hv,ec,eqGuard,binOp,hrun]
 ·rename_i t x t2 ho
  obtain ⟨E,hs⟩:=hs
  obtain ⟨b,hb,hrun,a1,l1,c1,hv⟩:=zjW (G:=G) hT hk hs.rw hs.wok (zaB hs.slots x)
  refine zdX (v:=.bool !b) (w':=w) ?_ (hK _ _ _ hb ⟨E,hs.put hd (.v _)⟩)
  have ec:a.eval (.const (.slice none 0 0)) = .slice none 0 0:=rfl
  rw [hv] at hrun
  simp [execOp,ho,hv,ec,eqGuard,binOp,hrun]
 ·rename_i f args ts ho
  rcases hk with hk | hk
  ·exact base hk
  ·split at hk
   ·rename_i g caps hev
    rcases hk with hk | hk | hk
    ·exact zmi ho rfl hd (by rw [hev];exact hk) hs hK
    ·obtain ⟨rv,s',hac,hwk,hk⟩:=hk
     have hcall:opK P T s o (· = (match o.dst with | some d=>zal s d rv | none=>s)):=by
      unfold opK
      simp only [ho]
      refine .inl ?_
      cases hdst:o.dst with
      | some d=>simp only;unfold ze8;rw [hev];exact ⟨rv,hac,rfl⟩
      | none=>simp only;unfold ze8;rw [hev];exact ⟨rv,hac,trivial⟩
     obtain ⟨s2,rfl,he⟩:=zkS (G:=G) hT hd hcall
     exact he a w hs _ _ fun a' w' h'=>hK s' a' w' hk (hwk G a' w' h')
    ·exact zhw ho rfl hd (by rw [hev];exact hk) hs hK
   ·exact hk.elim
 ·rename_i x y t t2 ho
  split at hk
  ·rename_i d bs hdst hevy
   obtain ⟨s',hk2,he⟩:=zty (G:=G) hT ho hdst (hd d hdst) hevy hk
   exact he a w hs _ _ fun a' w' h'=>hK s' a' w' hk2 h'
  ·split at hk
   ·rename_i d k ver hdst hev
    split at hk
    ·rename_i e c hkind
     exact zy1 hT ho hdst (hd d hdst) hev hkind hk hs hK
    ·exact base hk
   ·exact base hk
 ·rename_i t n i x ho
  split at hk
  ·rename_i d k ver hdst hev
   split at hk
   ·exact zjY hT ho hdst (hd d hdst) hev hk hs hK
   ·rcases hk with hk | hk
    ·exact base hk
    ·exact zjY hT ho hdst (hd d hdst) hev hk hs hK
   ·exact base hk
  ·exact base hk
 ·exact base hk
end
def zxS (ops:Array Oper) (s:St) (o:Oper) (K1 K2:St->Prop):Prop :=
 match o.guard with
 | none=>K1 s
 | some (j,want) =>
   match (ops[j]?).bind (·.dst) with
   | some d=>(match s.sl d with | .v (.bool b)=>(b = want->K1 (s.put (some d) (.v (.bool want))))/\(b = !want->K2 ((s.put (some d) (.v (.bool !want))).put o.dst (.v undef))) | .v (.tuple _)=>K2 (s.put o.dst (.v undef)) | _=>False)
   | none=>False
def zuH [zae] (P:Program) (T:Tab) (ops:Array Oper):List Oper->St->(St->Prop)->Prop
 | [],s,K=>K s
 | o :: os,s,K=>zxS ops s o (fun s1=>zew P T s1 o fun s2=>zuH P T ops os s2 K) (fun s2=>zuH P T ops os s2 K)
theorem zxT [zae] {G:Ghost} {s:St} {d:Nat} {p:PV} {a:Act} {w:World} (h:s.sl d = p) (hs:Sim G s a w):Sim G (s.put (some d) p) a w:=by
 obtain ⟨E,hs⟩:=hs
 refine ⟨E,hs.rw,hs.wok,hs.size,hs.defers,fun i=>?_⟩
 simp only [St.put]
 by_cases hi:i = d
 ·subst hi;rw [if_pos rfl,<- h];exact hs.slots i
 ·rw [if_neg hi];exact hs.slots i
theorem zqj [zae] {G:Ghost} {s:St} {dst:Option Nat} {a:Act} {w:World} (hd:∀ d,dst = some d->d < G.n) (hs:Sim G s a w):Sim G (s.put dst (.v undef)) (a.put dst undef) w:=by
 obtain ⟨E,hs⟩:=hs
 exact ⟨E,hs.put hd (.v undef)⟩
theorem zip {ops:Array Oper} {tmps:Array Value} {j d:Nat} {cs:Array Value} (hdj:(ops[j]?).bind (·.dst) = some d) (hval:tmps.getD d undef = .tuple cs):yielded ops tmps j = none:=by
 unfold yielded
 rw [hdj]
 rw [Array.getD_eq_getD_getElem?] at hval
 cases h:tmps[d]? with
 | none=>simp [h]
 | some x=>rw [h] at hval;simp at hval;subst hval;simp [h]
section
variable {P:Program} {T:Tab} {G:Ghost}
theorem zCE [zae] (hT:T.Ok P) {ops:Array Oper} {Q:Exit->Act->World->Prop}:∀ (l:List Oper) (s:St) (K:St->Prop),(∀ o ∈ l,∀ d,o.dst = some d->d < G.n)->zuH P T ops l s K ->
 (∀ s' a' w',K s'->Sim G s' a' w'->Q .normal a' w')->∀ a w,Sim G s a w->wpList P ops Q l a w:=by
 intro l
 induction l with
 | nil=>intro s K _ hk hQ a w hs;exact hQ s a w hk hs
 | cons o os ih =>
   intro s K hd hk hQ a w hs
   have hd0:=hd o sp
   have run:∀ s1,Sim G s1 a w->(zew P T s1 o fun s2=>zuH P T ops os s2 K)->o.wp P a w (wpList P ops Q os) Q:=fun s1 hs1 hk =>
    zCD hT hd0 hk hs1 fun s2 a' w' hk2 h'=>ih s2 K (fun o ho=>hd o (by simp [ho])) hk2 hQ a' w' h'
   simp only [wpList]
   simp only [zuH,zxS] at hk
   cases hg:o.guard with
   | none =>
     simp only [hg] at hk
     rw [if_pos (by simp [Region.wanted,hg])]
     exact .inl (run s hs hk)
   | some jw =>
     obtain ⟨j,want⟩:=jw
     simp only [hg] at hk
     split at hk
     ·rename_i d hdj
      split at hk
      ·rename_i b hb
       have hval:a.tmps.getD d undef = .bool b:=by
        obtain ⟨E,hs⟩:=hs
        have:=hs.slots d
        rw [hb] at this
        exact this.v_eq
       have hy:yielded ops a.tmps j = some b:=by
        have hsz:a.tmps[d]? = some (.bool b):=by
         rw [Array.getD_eq_getD_getElem?] at hval
         cases h:a.tmps[d]? with
         | none=>rw [h] at hval;simp [undef] at hval
         | some x=>rw [h] at hval;simp at hval;rw [hval]
        simp [yielded,hdj,hsz]
       by_cases hbw:b = want
       ·rw [if_pos (by simp [Region.wanted,hg,hy,hbw])]
        exact .inl (run _ (zxT (by rw [hb,hbw]) hs) (hk.1 hbw))
       ·have hbw':b = !want:=by cases b <;> cases want <;> simp_all
        rw [if_neg (by simp [Region.wanted,hg,hy,hbw])]
        have h1:=zxT (d:=d) (p:=.v (.bool !want)) (by rw [hb,hbw']) hs
        exact ih _ K (fun o ho=>hd o (by simp [ho])) (hk.2 hbw') hQ _ w (zqj hd0 h1)
      ·rename_i cs hb
       have hval:a.tmps.getD d undef = .tuple cs:=by
        obtain ⟨E,hs⟩:=hs
        have:=hs.slots d
        rw [hb] at this
        exact this.v_eq
       rw [if_neg (by simp [Region.wanted,hg,zip hdj hval])]
       exact ih _ K (fun o ho=>hd o (by simp [ho])) hk hQ _ w (zqj hd0 hs)
      ·exact hk.elim
     ·exact hk.elim
end
end Go.Abs

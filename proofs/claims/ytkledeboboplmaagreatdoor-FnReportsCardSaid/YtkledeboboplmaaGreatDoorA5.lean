/- DERIVED by an AI agent. -/
import Derived.Test.YtkledeboboplmaaGreatDoorA4
namespace Go.Abs
set_option linter.unusedSimpArgs false
set_option linter.unusedVariables false
structure LR where
 e:Nat
 sz:Nat
 c:List PV
def inR (ins:List LR) (k:Nat):Row:=if lent <= k then (match ins[k - lent]? with | some r=>⟨1,.sli r.e r.sz false r.c⟩ | none=>⟨0,.dead⟩) else ⟨0,.dead⟩
def zbs (c:List PV):Prop:=∀ p ∈ c,isV p = true
def AM [zae] (P:Program) (f:FuncId) (args:List PV) (ins:List LR) (outs:List (List PV)) (x:Value):Prop :=
 zmq P f/\(∀ r ∈ ins,zbs r.c)/\outs.length = ins.length/\(∀ c ∈ outs,zbs c) /\
  ∀ (w:World) (M:Nat->Nat->Prop) (E:Env) (vals:List Value),WOk ⟨w,M,0,E.R,E.rm,E.rv,E.X⟩ E w->E.R = inR ins->zbu w E 0 args vals ->
   Calls P f vals.toArray w fun e w'=>e = .returned x/\∃ E',WOk ⟨w,M,0,E.R,E.rm,E.rv,E.X⟩ E' w' /\
    ∀ (i:Nat) (r:LR) (c:List PV),ins[i]? = some r->outs[i]? = some c->E'.R (lent + i) = ⟨1,.sli r.e r.sz false c⟩
inductive GiveL (js:List (Nat × Nat)):List PV->List PV->Prop
 | nil:GiveL js [] []
 | v {x:Value} {l l':List PV}:GiveL js l l'->GiveL js (.v x :: l) (.v x :: l')
 | clo {f:FuncId} {l l':List PV}:GiveL js l l'->GiveL js (.clo f [] :: l) (.clo f [] :: l')
 | own {k ver:Nat} {l l':List PV} (i:Nat):js[i]? = some (k,ver)->GiveL js l l'->GiveL js (.own k ver :: l) (.own (lent + i) 1 :: l')
 | ag {c c' l l':List PV}:GiveL js c c'->GiveL js l l'->GiveL js (.ag c :: l) (.ag c' :: l')
def zqp (rw:Nat->Row):List (Nat × Nat)->List LR->Prop
 | [],[]=>True
 | j :: js,r :: ins=>rw j.1 = ⟨j.2,.sli r.e r.sz false r.c⟩/\zqp rw js ins
 | _,_=>False
def zeg (R:Nat->Row) (js:List (Nat × Nat)) (ins:List LR) (outs:List (List PV)) (k:Nat):Row :=
 match js.findIdx? (fun j=>j.1 == k) with
 | some i=>(match js[i]?,ins[i]?,outs[i]? with | some j,some r,some c=>⟨j.2,.sli r.e r.sz false c⟩ | _,_,_=>R k)
 | none=>R k
def St.wrote (s:St) (js:List (Nat × Nat)) (ins:List LR) (outs:List (List PV)):St:={ s with rw:=zeg s.rw js ins outs }
def zPg [zae] (P:Program) (s:St) (g:FuncId) (raw:List PV) (dst:Option Nat) (K:St->Prop):Prop :=
 ∃ (js:List (Nat × Nat)) (ins:List LR) (args:List PV) (outs:List (List PV)) (x:Value),
  AM P g args ins outs x/\GiveL js raw args/\zqp s.rw js ins/\(js.map (·.1)).Nodup/\K ((s.wrote js ins outs).put dst (.v x))
def zCI [zae] (P:Program) (s:St) (f:Operand) (args:Array Operand) (dst:Option Nat) (K:St->Prop):Prop :=
 match s.ev f with
 | .clo g caps=>zPg P s g (args.toList.map s.ev ++ caps) dst K
 | _=>False
theorem zqp.at {rw:Nat->Row}:∀ {js:List (Nat × Nat)} {ins:List LR},zqp rw js ins->js.length = ins.length/\∀ (i:Nat) (j:Nat × Nat) (r:LR),js[i]? = some j->ins[i]? = some r->rw j.1 = ⟨j.2,.sli r.e r.sz false r.c⟩:=by
 intro js
 induction js with
 | nil=>intro ins h;cases ins with
   | nil=>exact ⟨rfl,fun i j r h=>by simp at h⟩
   | cons _ _=>exact h.elim
 | cons j js ih =>
   intro ins h
   cases ins with
   | nil=>exact h.elim
   | cons r ins =>
     obtain ⟨h1,h2⟩:=h
     obtain ⟨a,b⟩:=ih h2
     refine ⟨by simp [a],fun i j' r' hj hr=>?_⟩
     cases i with
     | zero=>simp at hj hr;subst hj;subst hr;exact h1
     | succ i=>exact b i j' r' (by simpa using hj) (by simpa using hr)
theorem zml {R:Nat->Row} {js:List (Nat × Nat)} {ins:List LR} {outs:List (List PV)} (hn:(js.map (·.1)).Nodup) {i:Nat} {j:Nat × Nat} {r:LR} {c:List PV} (hj:js[i]? = some j) (hr:ins[i]? = some r) (hc:outs[i]? = some c) :
 zeg R js ins outs j.1 = ⟨j.2,.sli r.e r.sz false c⟩:=by
 have hi:i < js.length:=(List.getElem?_eq_some_iff.1 hj).1
 have hji:js[i] = j:=(List.getElem?_eq_some_iff.1 hj).2
 have:js.findIdx? (fun x=>x.1 == j.1) = some i:=by
  rw [List.findIdx?_eq_some_iff_getElem]
  refine ⟨hi,by simp [hji],fun k hk=>?_⟩
  have hp:=List.pairwise_iff_getElem.1 hn k i (by simp;omega) (by simp;omega) hk
  simp only [List.getElem_map,hji] at hp
  simpa using hp
 unfold zeg
 rw [this]
 simp only [hj,hr,hc]
theorem zpb {R:Nat->Row} {js:List (Nat × Nat)} {ins:List LR} {outs:List (List PV)} {k:Nat} (h:k ∉ js.map (·.1)):zeg R js ins outs k = R k:=by
 have:js.findIdx? (fun x=>x.1 == k) = none:=by
  rw [List.findIdx?_eq_none_iff]
  intro x hx
  have:x.1 ≠ k:=fun e=>h (List.mem_map.2 ⟨x,hx,e⟩)
  simpa using this
 unfold zeg
 rw [this]
theorem zdr [zae] {w w':World} {E E':Env} {lo lo':Nat} {c:List PV} {vs:List Value} (h:zbs c) (hr:zbu w E lo c vs):zbu w' E' lo' c vs :=
 ⟨hr.1,fun i a b=>(zmn (h _ (List.getElem_mem a)) (hr.2 i a b)).1⟩
section
variable {P:Program} {G:Ghost} {s:St}
def Env.give (E:Env) (js:List (Nat × Nat)) (ins:List LR) (B:Nat):Env :=
 let R:=inR ins
 let rm:=fun k=>if lent <= k then (js[k - lent]?).bind fun j=>E.rm j.1 else none
 { R:=R,rm:=rm,rv:=fun k=>if lent <= k then (match js[k - lent]? with | some j=>E.rv j.1 | none=>default) else default,L:=mkL (fun _=>False) R rm,B:=B,X:=fun _=>False }
theorem zxV {ins:List LR} {k:Nat} (h:(inR ins k).kind.nd = true):lent <= k/\∃ r,ins[k - lent]? = some r/\inR ins k = ⟨1,.sli r.e r.sz false r.c⟩:=by
 unfold inR at h ⊢
 by_cases hk:lent <= k
 ·rw [if_pos hk] at h ⊢
  split at h
  ·rename_i r hr;exact ⟨hk,r,hr,rfl⟩
  ·cases h
 ·rw [if_neg hk] at h;cases h
theorem ztk {ins:List LR} {i:Nat} {r:LR} (h:ins[i]? = some r):inR ins (lent + i) = ⟨1,.sli r.e r.sz false r.c⟩:=by
 unfold inR
 rw [if_pos om,Nat.add_sub_cancel_left,h]
def zFk (E:Env) (js:List (Nat × Nat)) (k b:Nat):Prop:=∃ j,js[k - lent]? = some j/\E.rm j.1 = some b
theorem zIL [zae] {E:Env} {w:World} (hw:WOk G E w) {js:List (Nat × Nat)} {ins:List LR} (hh:zqp E.R js ins) (hn:(js.map (·.1)).Nodup) (hp:∀ r ∈ ins,zbs r.c) :
 WOk ⟨w,zFk E js,0,(E.give js ins w.heap.size).R,(E.give js ins w.heap.size).rm,(E.give js ins w.heap.size).rv,(E.give js ins w.heap.size).X⟩ (E.give js ins w.heap.size) w:=by
 obtain ⟨hlen,hat⟩:=hh.at
 have key0:∀ (n:Nat) (r:LR),ins[n]? = some r->∃ j,js[n]? = some j/\E.R j.1 = ⟨j.2,.sli r.e r.sz false r.c⟩:=fun n r hr=>by
  have hi:n < js.length:=by rw [hlen];exact (List.getElem?_eq_some_iff.1 hr).1
  exact ⟨_,List.getElem?_eq_getElem hi,hat _ _ _ (List.getElem?_eq_getElem hi) hr⟩
 have hmx:∀ k b,zFk E js k b->¬ zae.Gl b:=fun k b ⟨j,hj,hb⟩=>by
  have hi:k - lent < ins.length:=by rw [<- hlen];exact (List.getElem?_eq_some_iff.1 hj).1
  exact hw.ngl hb (by rw [hat _ _ _ hj (List.getElem?_eq_getElem hi)];rfl)
 have key:∀ (k:Nat) (r:LR),lent <= k->ins[k - lent]? = some r->∃ j,js[k - lent]? = some j/\E.R j.1 = ⟨j.2,.sli r.e r.sz false r.c⟩:=fun k r _ hr=>key0 _ r hr
 refine ⟨fun k=>?_,fun k k' b n1 n2 e1 e2=>?_,fun b=>Iff.rfl,fun k h=>?_,rfl,rfl,⟨fun b h=>h.elim,hmx,hw.held⟩,fun k b _ _ h=>h,⟨rfl,rfl,OutLe.refl _,Nat.le_refl _,fun _ _ _=>rfl⟩,fun k=>⟨Nat.le_refl _,fun _ h=>⟨h,rfl,fun h=>⟨h,rfl⟩⟩⟩⟩
 ·show zav w (E.give js ins w.heap.size) _ k
  unfold zav
  show match (inR ins k).kind with | .dead=>True | .nil=>_ | .box t cells=>_ | .sli e sz _ cells=>_ | .tab e cells=>_ | .mp f=>_
  cases hd:(inR ins k).kind with
  | dead=>trivial
  | _ =>
    obtain ⟨hk,r,hr,he⟩:=zxV (ins:=ins) (k:=k) (by rw [hd];rfl)
    rw [he] at hd
    cases hd
    all_goals
     obtain ⟨j,hj,hrow⟩:=key k r hk hr
     have h0:=hw.rows j.1
     unfold zav at h0
     rw [hrow] at h0
     simp only at h0
     have em:(E.give js ins w.heap.size).rm k = E.rm j.1:=by simp [Env.give,hk,hj]
     have ev:(E.give js ins w.heap.size).rv k = E.rv j.1:=by simp [Env.give,hk,hj]
     rw [em,ev]
     rcases h0 with h0 | ⟨b,n,cap,vs,rest,h1,h2,h3,h4,h5,h6,h7,h8,h9⟩
     ·exact .inl h0
     ·exact .inr ⟨b,n,cap,vs,rest,h1,.inr ⟨hk,j,hj,h1⟩,h3,h4,h5,h6,h7,h8,zdr (hp r (List.mem_of_getElem? hr)) h9⟩
 ·obtain ⟨hk,r,hr,_⟩:=zxV (ins:=ins) (k:=k) n1
  obtain ⟨hk',r',hr',_⟩:=zxV (ins:=ins) (k:=k') n2
  obtain ⟨j,hj,hrow⟩:=key k r hk hr
  obtain ⟨j',hj',hrow'⟩:=key k' r' hk' hr'
  have e1':E.rm j.1 = some b:=by simpa [Env.give,hk,hj] using e1
  have e2':E.rm j'.1 = some b:=by simpa [Env.give,hk',hj'] using e2
  have:=hw.inj j.1 j'.1 b (by rw [hrow];rfl) (by rw [hrow'];rfl) e1' e2'
  have hi:=(List.getElem?_eq_some_iff.1 hj)
  have hi':=(List.getElem?_eq_some_iff.1 hj')
  obtain ⟨a1,a2⟩:=hi
  obtain ⟨b1,b2⟩:=hi'
  have:k - lent = k' - lent:=(List.getElem_inj (h₀:=by simp;omega) (h₁:=by simp;omega) hn).1 (by simp [a2,b2,this])
  omega
 ·obtain ⟨hk,r,hr,he⟩:=zxV (ins:=ins) (k:=k) h
  show 0 < (inR ins k).ver
  rw [he];exact Nat.one_pos
theorem zFl [zae] {E:Env} {w:World} {js:List (Nat × Nat)} {ins:List LR} (hh:zqp E.R js ins) (B:Nat) {raw args:List PV} (hg:GiveL js raw args):∀ {vals:List Value},zbu w E 0 raw vals->zbu w (E.give js ins B) 0 args vals:=by
 obtain ⟨hlen,hat⟩:=hh.at
 induction hg with
 | nil=>intro vals h;exact ⟨h.1,fun i a=>absurd a sp⟩
 | @v x l l' _ ih =>
   intro vals h
   cases vals with
   | nil=>simp [zbu] at h
   | cons y ys =>
     have h0:=h.2 0 sp sp
     simp only [List.getElem_cons_zero] at h0
     have:=h0.v_eq;subst this
     have ht:=ih (vals:=ys) ⟨by simpa using h.1,fun i a b=>h.2 (i + 1) (by simpa using a) (by simpa using b)⟩
     refine ⟨by simp [ht.1],fun i a b=>?_⟩
     cases i with
     | zero=>exact .v _
     | succ i=>exact ht.2 i (by simpa using a) (by simpa using b)
 | @clo f l l' _ ih =>
   intro vals h
   cases vals with
   | nil=>simp [zbu] at h
   | cons y ys =>
     have h0:=h.2 0 sp sp
     simp only [List.getElem_cons_zero] at h0
     have ht:=ih (vals:=ys) ⟨by simpa using h.1,fun i a b=>h.2 (i + 1) (by simpa using a) (by simpa using b)⟩
     refine ⟨by simp [ht.1],fun i a b=>?_⟩
     cases i with
     | zero=>cases h0 with | clo hl _=>exact .clo hl (fun i h=>absurd h sp)
     | succ i=>exact ht.2 i (by simpa using a) (by simpa using b)
 | @own k ver l l' i hj _ ih =>
   intro vals h
   cases vals with
   | nil=>simp [zbu] at h
   | cons y ys =>
     have h0:=h.2 0 sp sp
     simp only [List.getElem_cons_zero] at h0
     have ht:=ih (vals:=ys) ⟨by simpa using h.1,fun i a b=>h.2 (i + 1) (by simpa using a) (by simpa using b)⟩
     refine ⟨by simp [ht.1],fun i' a b=>?_⟩
     cases i' with
     | zero =>
       have hi:i < ins.length:=by rw [<- hlen];exact (List.getElem?_eq_some_iff.1 hj).1
       have hr:ins[i]? = some ins[i]:=List.getElem?_eq_getElem hi
       have hrow:=hat i _ _ hj hr
       cases h0 with
       | own hv hx =>
         refine .own ?_ fun _ _=>?_
         ·show 1 <= (inR ins (lent + i)).ver
          rw [ztk hr];exact Nat.le_refl _
         ·have hx':=hx (by rw [hrow]) (by rw [hrow];rfl)
          show y = _
          rw [hx']
          simp [Env.give,hj]
     | succ i'=>exact ht.2 i' (by simpa using a) (by simpa using b)
 | @ag c c' l l' _ _ ih1 ih2 =>
   intro vals h
   cases vals with
   | nil=>simp [zbu] at h
   | cons y ys =>
     have h0:=h.2 0 sp sp
     simp only [List.getElem_cons_zero] at h0
     have ht:=ih2 (vals:=ys) ⟨by simpa using h.1,fun i a b=>h.2 (i + 1) (by simpa using a) (by simpa using b)⟩
     refine ⟨by simp [ht.1],fun i a b=>?_⟩
     cases i with
     | zero =>
       cases h0 with
       | @ag _ _ _ vs hl hh =>
         have h1:=ih1 (vals:=vs) ⟨hl,hh⟩
         exact .ag h1.1 h1.2
     | succ i=>exact ht.2 i (by simpa using a) (by simpa using b)
theorem zy3 [zae] {E E':Env} {w w':World} (hw:WOk G E w) {js:List (Nat × Nat)} {ins:List LR} {outs:List (List PV)} (hh:zqp E.R js ins) (hn:(js.map (·.1)).Nodup) (hlo:outs.length = ins.length) (hpl:∀ c ∈ outs,zbs c)
 (hw':WOk ⟨w,zFk E js,0,(E.give js ins w.heap.size).R,(E.give js ins w.heap.size).rm,(E.give js ins w.heap.size).rv,(E.give js ins w.heap.size).X⟩ E' w')
 (hE:∀ (i:Nat) (r:LR) (c:List PV),ins[i]? = some r->outs[i]? = some c->E'.R (lent + i) = ⟨1,.sli r.e r.sz false c⟩) {a:Act} (hs:SimE G E s a w):Sim G (s.wrote js ins outs) a w':=by
 obtain ⟨hlen,hat⟩:=hh.at
 let E2:Env:={ R:=zeg E.R js ins outs,rm:=E.rm,rv:=E.rv,L:=mkL E.X (zeg E.R js ins outs) E.rm,B:=E.B,X:=E.X }
 have hin:∀ k,k ∈ js.map (·.1)->∃ (i:Nat) (j:Nat × Nat) (r:LR) (c:List PV),js[i]? = some j/\ins[i]? = some r/\outs[i]? = some c/\j.1 = k/\E.R k = ⟨j.2,.sli r.e r.sz false r.c⟩/\zeg E.R js ins outs k = ⟨j.2,.sli r.e r.sz false c⟩:=by
  intro k hk
  obtain ⟨j,hj,rfl⟩:=List.mem_map.1 hk
  obtain ⟨i,hi,rfl⟩:=List.getElem_of_mem hj
  have h1:js[i]? = some js[i]:=List.getElem?_eq_getElem hi
  have h2:ins[i]? = some ins[i]:=List.getElem?_eq_getElem om
  have h3:outs[i]? = some outs[i]:=List.getElem?_eq_getElem om
  exact ⟨i,_,_,_,h1,h2,h3,rfl,hat i _ _ h1 h2,zml hn h1 h2 h3⟩
 have ht:Turn G E E2 w w' (· ∈ js.map (·.1)):=by
  refine ⟨rfl,rfl,rfl,fun k hk=>⟨zpb hk,rfl,rfl⟩,fun b hb hD=>?_,fun k b hD hb hnd=>?_,fun k hD=>?_,fun k hD _ hs=>?_,fun k hD _ hs=>?_,fun k hD hs=>?_,fun k k' b hD hD' h1 h2 e1 e2=>?_,hw'.kept.size,hw'.kept.os,hw'.kept.tape,hw'.kept.output⟩
  ·refine hw'.kept.block b hb fun k0 hM=>?_
   obtain ⟨j,hj0,hjb⟩:=hM
   have hj:=List.mem_of_getElem? hj0
   have hmem:j.1 ∈ js.map (·.1):=List.mem_map.2 ⟨j,hj,rfl⟩
   obtain ⟨i,j',r,c,_,_,_,_,h5,_⟩:=hin _ hmem
   have:=hD j.1 hmem hjb
   rw [h5] at this;cases this
  ·obtain ⟨i,j,r,c,_,_,_,_,h5,h6⟩:=hin k hD
   exact .inr ⟨hb,by rw [h5];rfl,fun _=>by rw [h5];rfl⟩
  ·obtain ⟨i,j,r,c,_,_,_,_,h5,h6⟩:=hin k hD
   show _ <= (zeg E.R js ins outs k).ver
   rw [h5,h6];exact Nat.le_refl _
  ·obtain ⟨i,j,r,c,_,_,_,_,h5,h6⟩:=hin k hD
   exact ⟨by rw [h5];rfl,rfl⟩
  ·obtain ⟨i,j,r,c,_,_,_,_,h5,h6⟩:=hin k hD
   exact ⟨by rw [h5];rfl,rfl⟩
  ·obtain ⟨i,j,r,c,_,_,_,_,h5,h6⟩:=hin k hD
   have:=hw.pos k (by rw [h5];rfl)
   rw [h5] at this
   show 0 < (zeg E.R js ins outs k).ver
   rw [h6];exact this
  ·obtain ⟨_,_,_,_,_,_,_,_,h5,_⟩:=hin k hD
   obtain ⟨_,_,_,_,_,_,_,_,h5',_⟩:=hin k' hD'
   exact hw.inj k k' b (by rw [h5];rfl) (by rw [h5'];rfl) e1 e2
 have hrows:∀ k,k ∈ js.map (·.1)->zav w' E2 G.C k:=by
  intro k hk
  obtain ⟨i,j,r,c,h1,h2,h3,h4,h5,h6⟩:=hin k hk
  have hrow':=hw'.rows (lent + i)
  unfold zav at hrow'
  rw [hE i r c h2 h3] at hrow'
  simp only at hrow'
  have hpin:=(hw'.pin (lent + i)).2 (by
   rw [hE i r c h2 h3]
   show 1 = (inR ins (lent + i)).ver
   rw [ztk h2]) (by rw [hE i r c h2 h3];rfl)
  obtain ⟨_,q1,q2⟩:=hpin
  have q2:=(q2 (by rw [hE i r c h2 h3];rfl)).2
  have q1':E'.rm (lent + i) = E.rm k:=by rw [q1];simp [Env.give,h1,h4]
  have q2':E'.rv (lent + i) = E.rv k:=by rw [q2];simp [Env.give,h1,h4]
  rw [q1',q2'] at hrow'
  unfold zav
  show match (zeg E.R js ins outs k).kind with | .dead=>True | .nil=>_ | .box t cells=>_ | .sli e sz _ cells=>_ | .tab e cells=>_ | .mp f=>_
  rw [h6]
  rcases hrow' with hr | ⟨b,n,cap,vs,rest,g1,g2,g3,g4,g5,g6,g7,g8,g9⟩
  ·exact .inl hr
  ·have hnd:(E.R k).kind.nd = true:=by rw [h5];rfl
   exact .inr ⟨b,n,cap,vs,rest,g1,(hw.block g1 hnd).2,g3,g4,g5,g6,g7,g8,zdr (hpl c (List.mem_of_getElem? h3)) g9⟩
 have key:=ht.sim hs hrows
 have e:({ s with rw:=E2.R }:St) = s.wrote js ins outs:=by
  show ({ s with rw:=zeg E.R js ins outs }:St) = _
  rw [hs.rw];rfl
 exact ⟨_,e ▸ key⟩
theorem zuK [zae] {o:Oper} {c:Call} {f:Operand} {K:St->Prop} (ho:o.op = .call c) (hc:c.callee = .value f) (hd:∀ d,o.dst = some d->d < G.n) (hk:zCI P s f c.args o.dst K) :
 ∃ s',K s'/\za9 P G s o s':=by
 unfold zCI at hk
 split at hk
 ·rename_i g caps hev
  obtain ⟨js,ins,args,outs,x,ham,hg,hh,hn,hk⟩:=hk
  refine ⟨_,hk,fun a w ⟨E,hs⟩ K' Q hK=>?_⟩
  have hfx:=zaB hs.slots f
  rw [hev] at hfx
  generalize hvf:a.eval f = vf at hfx
  cases hfx with
  | @clo _ _ _ _ vs hl hh' =>
    obtain ⟨hent,hpi,hlo,hpo,hcall⟩:=ham
    have hh2:zqp E.R js ins:=by rw [hs.rw];exact hh
    have hraw:zbu w E 0 (c.args.toList.map s.ev ++ caps) (c.args.toList.map a.eval ++ vs) :=
     zbu.append (zbu.map fun x _=>zaB hs.slots x) ⟨hl,hh'⟩
    have hcall:=hcall w (zFk E js) (E.give js ins w.heap.size) _ (zIL hs.wok hh2 hn hpi) rfl (zFl hh2 w.heap.size hg hraw)
    unfold Oper.wp
    rw [zkU ho hc hvf hent]
    show Calls P g _ w _
    refine hcall.mono fun e w' ⟨he,E',hw',hE'⟩=>?_
    subst he
    obtain ⟨E2,hs2⟩:=zy3 hs.wok hh2 hn hlo hpo hw' hE' hs
    exact hK _ _ ⟨E2,hs2.put hd (.v x)⟩
 ·exact hk.elim
end
def sid (k j:Nat):Nat:=zak k (j + 1)
theorem zbN (k j:Nat):sid k j = k + 1000 * (j + 1):=rfl
theorem zdx [zae] (k j:Nat):sid k j % 1000 = k % 1000:=by rw [zbN];omega
theorem zhr [zae] (k j j':Nat):(sid k j = sid k j') = (j = j'):=by rw [zbN,zbN];exact propext ⟨fun h=>om,fun h=>om⟩
theorem zqk [zae] (n k j:Nat) (h:n < k + 1000):(n = sid k j) = False:=eq_false (by rw [zbN];omega)
theorem zql [zae] (n k j:Nat) (h:n < k + 1000):(sid k j = n) = False:=eq_false (by rw [zbN];omega)
theorem zqm [zae] {k j:Nat} (h:k < 1000) (hj:j < 998):sid k j < lent:=by rw [zbN];unfold lent;omega
def zaJ (k:Nat) (p:List Nat):List PV:=p.map fun j=>.own (sid k j) 1
theorem zaq (k:Nat) (p:List Nat):(zaJ k p).length = p.length:=by simp [zaJ]
theorem zIK {c:List PV} {i:Nat} {x:PV} (_h:i < c.length):spl c i [x] = c.set i x:=rfl
structure TabIs (rw:Nat->Row) (k v e e2:Nat) (p:List Nat) (rows:List (List PV)):Prop where
 top:rw k = ⟨v,.tab e (zaJ k p)⟩
 len:p.length = rows.length
 row:∀ i,i < p.length->rw (sid k (p.getD i 0)) = ⟨1,.sli e2 1 false (rows.getD i [])⟩
def zmj (rows:List (List PV)):Prop:=∀ i,i < rows.length->zbs (rows.getD i [])
def inT (e e2:Nat) (rows:List (List PV)) (k:Nat):Row :=
 if k = lent then ⟨1,.tab e (zaJ lent (List.range rows.length))⟩
 else if lent < k/\(k - lent) % 1000 = 0/\(k - lent) / 1000 - 1 < rows.length then ⟨1,.sli e2 1 false (rows.getD ((k - lent) / 1000 - 1) [])⟩ else ⟨0,.dead⟩
section
variable {e e2:Nat} {rows:List (List PV)}
theorem ztj [zae] (i:Nat):lent < sid lent i/\(sid lent i - lent) % 1000 = 0/\(sid lent i - lent) / 1000 - 1 = i:=by rw [zbN];omega
theorem zga:inT e e2 rows lent = ⟨1,.tab e (zaJ lent (List.range rows.length))⟩:=by unfold inT;rw [if_pos rfl]
theorem zjd [zae] {i:Nat} (h:i < rows.length):inT e e2 rows (sid lent i) = ⟨1,.sli e2 1 false (rows.getD i [])⟩:=by
 obtain ⟨h1,h2,h3⟩:=ztj i
 unfold inT
 rw [if_neg om,if_pos ⟨h1,h2,om⟩,h3]
theorem zHH {k:Nat} (h:k < lent):inT e e2 rows k = ⟨0,.dead⟩:=by
 unfold inT
 rw [if_neg om,if_neg om]
theorem zCG [zae] {k:Nat} (h:(inT e e2 rows k).kind.nd = true):k = lent \/ ∃ i,i < rows.length/\k = sid lent i:=by
 unfold inT at h
 split at h
 ·exact .inl ‹_›
 ·split at h
  ·rename_i h1 h2
   exact .inr ⟨_,h2.2.2,by rw [zbN];omega⟩
  ·cases h
theorem zMp [zae]:TabIs (inT e e2 rows) lent 1 e e2 (List.range rows.length) rows :=
 ⟨zga,sp,fun i hi=>by
  have hi':i < rows.length:=by simpa using hi
  have:(List.range rows.length).getD i 0 = i:=by simp [List.getD,hi']
  rw [this];exact zjd hi'⟩
end
inductive TR where
 | self
 | selfx (x:Value)
 | rv (r:RV)
def TR.ok (N:Nat) (x0:Value) (w':World) (v:Value) (lv:List (Value × Option Nat)):TR->Prop
 | .self=>v = x0
 | .selfx x=>v = .tuple #[x0,x]
 | .rv r=>OutR w' (Env.out N (blk lv)) r v lv/\(blk lv).Nodup
def AT [zae] (P:Program) (f:FuncId) (args:List PV) (e e2:Nat) (rows rows':List (List PV)) (res:TR):Prop :=
 zmq P f/\zmj rows/\zmj rows'/\rows'.length = rows.length /\
  ∀ (w:World) (M:Nat->Nat->Prop) (E:Env) (vals:List Value),WOk ⟨w,M,0,E.R,E.rm,E.rv,E.X⟩ E w->E.R = inT e e2 rows->zbu w E 0 args vals ->
   Calls P f vals.toArray w fun en w'=>∃ (E':Env) (q:List Nat) (v:Value) (lv:List (Value × Option Nat)),en = .returned v/\WOk ⟨w,M,0,E.R,E.rm,E.rv,E.X⟩ E' w' /\
    TabIs E'.R lent 1 e e2 q rows'/\q.Perm (List.range rows.length)/\res.ok w.heap.size (E.rv lent) w' v lv
def ziX (R:Nat->Row) (k v e e2:Nat) (p:List Nat) (rows:List (List PV)) (j:Nat):Row :=
 if j = k then ⟨v,.tab e (zaJ k p)⟩ else match p.findIdx? (fun x=>sid k x == j) with | some i=>⟨1,.sli e2 1 false (rows.getD i [])⟩ | none=>R j
def St.tabbed (s:St) (k v e e2:Nat) (p:List Nat) (rows:List (List PV)):St:={ s with rw:=ziX s.rw k v e e2 p rows }
section
variable {R:Nat->Row} {k v e e2:Nat} {p:List Nat} {rows:List (List PV)}
theorem zfz [zae] (k x:Nat):sid k x ≠ k:=by rw [zbN];omega
theorem ze7 [zae] {k x y:Nat} (h:sid k x = sid k y):x = y:=by rw [zbN,zbN] at h;omega
theorem ziq:ziX R k v e e2 p rows k = ⟨v,.tab e (zaJ k p)⟩:=by unfold ziX;rw [if_pos rfl]
theorem zir [zae] (hn:p.Nodup) {i:Nat} (h:i < p.length):ziX R k v e e2 p rows (sid k (p.getD i 0)) = ⟨1,.sli e2 1 false (rows.getD i [])⟩:=by
 have hg:p.getD i 0 = p[i]:=by simp [List.getD,h]
 have hf:p.findIdx? (fun x=>sid k x == sid k (p.getD i 0)) = some i:=by
  rw [List.findIdx?_eq_some_iff_getElem]
  refine ⟨h,by rw [hg];exact beq_self_eq_true _,fun j hj=>?_⟩
  have hp:=List.pairwise_iff_getElem.1 hn j i om h hj
  simp only [hg,beq_iff_eq]
  exact fun e=>hp (ze7 e)
 unfold ziX
 rw [if_neg (zfz k _),hf]
theorem zje {j:Nat} (h1:j ≠ k) (h2:∀ x ∈ p,j ≠ sid k x):ziX R k v e e2 p rows j = R j:=by
 have hf:p.findIdx? (fun x=>sid k x == j) = none:=by
  rw [List.findIdx?_eq_none_iff]
  intro x hx
  have:=h2 x hx
  simp only [beq_eq_false_iff_ne,ne_eq]
  exact fun e=>this e.symm
 unfold ziX
 rw [if_neg h1,hf]
end
def TR.next (s:St) (k v:Nat) (dst:Option Nat) (K:St->Prop):TR->Prop
 | .self=>K (s.put dst (.own k v))
 | .selfx x=>K (s.put dst (.tup [.own k v,.v x]))
 | .rv r=>match dst with | some d=>d % 1000 ≠ k % 1000/\K (zal s d r) | none=>K s
def zNg [zae] (P:Program) (s:St) (g:FuncId) (raw:List PV) (dst:Option Nat) (K:St->Prop):Prop :=
 ∃ (k v e e2:Nat) (p:List Nat) (rows rows':List (List PV)) (args:List PV) (res:TR),
  AT P g args e e2 rows rows' res/\GiveL [(k,v)] raw args/\TabIs s.rw k v e e2 p rows/\p.Nodup /\
  ∀ p':List Nat,p'.Perm p->res.next (s.tabbed k v e e2 p' rows') k v dst K
def zzU (k:Nat) (p:List Nat) (j:Nat):Nat:=if j = lent then k else sid k (p.getD ((j - lent) / 1000 - 1) 0)
theorem zqn (k:Nat) (p:List Nat):zzU k p lent = k:=by unfold zzU;rw [if_pos rfl]
theorem zqo [zae] (k:Nat) (p:List Nat) (i:Nat):zzU k p (sid lent i) = sid k (p.getD i 0):=by
 obtain ⟨h1,h2,h3⟩:=ztj i
 unfold zzU;rw [if_neg om,h3]
def Env.giveT (E:Env) (k:Nat) (p:List Nat) (R:Nat->Row) (B:Nat):Env :=
 { R:=R,rm:=fun j=>if lent <= j then E.rm (zzU k p j) else none,rv:=fun j=>if lent <= j then E.rv (zzU k p j) else default,L:=mkL (fun _=>False) R (fun j=>if lent <= j then E.rm (zzU k p j) else none),B:=B,X:=fun _=>False }
def zpa (E:Env) (k:Nat) (p:List Nat) (j b:Nat):Prop:=(j = lent/\E.rm k = some b) \/ ∃ i,i < p.length/\j = sid lent i/\E.rm (sid k (p.getD i 0)) = some b
section
variable {P:Program} {G:Ghost} {s:St} {E:Env} {w:World} {k v e e2 B:Nat} {p:List Nat} {rows rows':List (List PV)} {R:Nat->Row}
theorem zuJ:(E.giveT k p R B).R = R:=rfl
theorem zdU [zae]:(E.giveT k p R B).rm lent = E.rm k/\(E.giveT k p R B).rv lent = E.rv k:=by
 simp only [Env.giveT,Nat.le_refl,if_true,zqn,and_self]
theorem zgb [zae] (i:Nat):(E.giveT k p R B).rm (sid lent i) = E.rm (sid k (p.getD i 0))/\(E.giveT k p R B).rv (sid lent i) = E.rv (sid k (p.getD i 0)):=by
 have h:=(ztj i).1
 simp only [Env.giveT,Nat.le_of_lt h,if_true,zqo,and_self]
theorem zmk {l:List Nat} {i:Nat} (h:i < l.length):l.getD i 0 ∈ l:=by
 have:l.getD i 0 = l[i]:=by simp [List.getD,h]
 rw [this];exact List.getElem_mem h
theorem zeN {l:List Nat} {x:Nat} (h:x ∈ l):∃ i,i < l.length/\l.getD i 0 = x:=by
 obtain ⟨i,hi,rfl⟩:=List.getElem_of_mem h
 exact ⟨i,hi,by simp [List.getD,hi]⟩
theorem zFj [zae] (hw:WOk G E w) (ht:TabIs E.R k v e e2 p rows) (hn:p.Nodup) (hp:zmj rows) :
 WOk ⟨w,zpa E k p,0,(E.giveT k p (inT e e2 rows) w.heap.size).R,(E.giveT k p (inT e e2 rows) w.heap.size).rm,(E.giveT k p (inT e e2 rows) w.heap.size).rv,(E.giveT k p (inT e e2 rows) w.heap.size).X⟩ (E.giveT k p (inT e e2 rows) w.heap.size) w:=by
 have hnd:∀ j,(inT e e2 rows j).kind.nd = true->(E.R (zzU k p j)).kind.nd = true/\lent <= j/\((j = lent/\zzU k p j = k) \/ ∃ i,i < rows.length/\j = sid lent i/\zzU k p j = sid k (p.getD i 0)):=fun j hj=>by
  rcases zCG hj with rfl | ⟨i,hi,rfl⟩
  ·exact ⟨by rw [zqn,ht.top];rfl,Nat.le_refl _,.inl ⟨rfl,zqn k p⟩⟩
  ·exact ⟨by rw [zqo,ht.row i (by rw [ht.len];exact hi)];rfl,Nat.le_of_lt (ztj i).1,.inr ⟨i,hi,rfl,zqo k p i⟩⟩
 have hmx:∀ j b,zpa E k p j b->¬ zae.Gl b:=fun j b h=>by
  rcases h with ⟨_,h⟩ | ⟨i,hi,_,h⟩
  ·exact hw.ngl h (by rw [ht.top];rfl)
  ·exact hw.ngl h (by rw [ht.row i hi];rfl)
 refine ⟨fun j=>?_,fun j j' b n1 n2 e1 e2=>?_,fun b=>Iff.rfl,fun j h=>?_,rfl,rfl,⟨fun b h=>h.elim,hmx,hw.held⟩,fun k b _ _ h=>h,⟨rfl,rfl,OutLe.refl _,Nat.le_refl _,fun _ _ _=>rfl⟩,fun j=>⟨Nat.le_refl _,fun _ h=>⟨h,rfl,fun h=>⟨h,rfl⟩⟩⟩⟩
 ·by_cases hj:(inT e e2 rows j).kind.nd = true
  ·rcases zCG hj with rfl | ⟨i,hi,rfl⟩
   ·have hrow:=hw.rows k
    unfold zav at hrow ⊢
    rw [ht.top] at hrow
    have eR:(E.giveT k p (inT e e2 rows) w.heap.size).R lent = ⟨1,.tab e (zaJ lent (List.range rows.length))⟩:=zga (e2:=e2)
    rw [eR,zdU.1,zdU.2]
    rcases hrow with ⟨h1,h2,h3⟩ | ⟨b,n,cap,vs,rest,h1,h2,h3,h4,h5,h6,h7,h8,h9⟩
    ·refine .inl ⟨h1,h2,List.eq_nil_of_length_eq_zero ?_⟩
     rw [zaq,List.length_range,<- ht.len,<- zaq k p,h3];rfl
    ·refine .inr ⟨b,n,cap,vs,rest,h1,.inr ⟨Nat.le_refl _,.inl ⟨rfl,h1⟩⟩,h3,h4,h5,h6,h7,h8,?_,fun i a' b'=>?_⟩
     ·rw [zaq,List.length_range,<- ht.len,<- zaq k p];exact h9.1
     ·have hi:i < rows.length:=by simpa [zaq] using a'
      have hip:i < p.length:=by rw [ht.len];exact hi
      have h0:=h9.2 i (by rw [zaq];exact hip) b'
      have q1:(zaJ k p)[i]'(by rw [zaq];exact hip) = .own (sid k (p.getD i 0)) 1:=by simp [zaJ,List.getD,hip]
      have q2:(zaJ lent (List.range rows.length))[i] = .own (sid lent i) 1:=by simp [zaJ]
      rw [q1] at h0
      rw [q2]
      cases h0 with
      | own hv hx =>
        have hr:=ht.row i hip
        refine .own ?_ fun _ _=>?_
        ·have h1:1 <= (inT e e2 rows (sid lent i)).ver:=by rw [zjd hi];exact Nat.le_refl _
         exact h1
        ·rw [(zgb i).2]
         exact hx (by rw [hr]) (by rw [hr];rfl)
   ·have hip:i < p.length:=by rw [ht.len];exact hi
    have hrow:=hw.rows (sid k (p.getD i 0))
    unfold zav at hrow ⊢
    rw [ht.row i hip] at hrow
    have eR:(E.giveT k p (inT e e2 rows) w.heap.size).R (sid lent i) = ⟨1,.sli e2 1 false (rows.getD i [])⟩:=by rw [zuJ];exact zjd hi
    rw [eR,(zgb i).1,(zgb i).2]
    rcases hrow with h | ⟨b,n,cap,vs,rest,h1,h2,h3,h4,h5,h6,h7,h8,h9⟩
    ·exact .inl h
    ·have hM:zpa E k p (sid lent i) b:=.inr ⟨i,hip,rfl,h1⟩
     have hle:lent <= sid lent i:=Nat.le_of_lt (ztj i).1
     have h9':=zdr (w':=w) (E':=(E.giveT k p (inT e e2 rows) w.heap.size).bare) (lo':=(E.giveT k p (inT e e2 rows) w.heap.size).B) (hp i hi) h9
     refine Or.inr ⟨b,n,cap,vs,rest,h1,?_,h3,h4,h5,h6,h7,h8,h9'⟩
     exact Or.inr ⟨hle,hM⟩
  ·unfold zav
   have:(E.giveT k p (inT e e2 rows) w.heap.size).R j = inT e e2 rows j:=rfl
   rw [this]
   cases hk:(inT e e2 rows j).kind with
   | dead=>trivial
   | _=>rw [hk] at hj;exact absurd rfl hj
 ·obtain ⟨a1,a2,a3⟩:=hnd j n1
  obtain ⟨b1,b2,b3⟩:=hnd j' n2
  have e1':E.rm (zzU k p j) = some b:=by simpa [Env.giveT,a2] using e1
  have e2':E.rm (zzU k p j') = some b:=by simpa [Env.giveT,b2] using e2
  have heq:=hw.inj _ _ b a1 b1 e1' e2'
  rcases a3 with ⟨rfl,c1⟩ | ⟨i,hi,rfl,c1⟩
  ·rcases b3 with ⟨rfl,d1⟩ | ⟨i',hi',rfl,d1⟩
   ·rfl
   ·rw [c1,d1] at heq;exact absurd heq.symm (zfz k _)
  ·rcases b3 with ⟨rfl,d1⟩ | ⟨i',hi',rfl,d1⟩
   ·rw [c1,d1] at heq;exact absurd heq (zfz k _)
   ·rw [c1,d1] at heq
    have h3:=ze7 heq
    have hip:i < p.length:=by rw [ht.len];exact hi
    have hip':i' < p.length:=by rw [ht.len];exact hi'
    have e1:p.getD i 0 = p[i]:=by simp [List.getD,hip]
    have e2:p.getD i' 0 = p[i']:=by simp [List.getD,hip']
    rw [e1,e2] at h3
    rw [(List.getElem_inj (h₀:=hip) (h₁:=hip') hn).1 h3]
 ·show 0 < (inT e e2 rows j).ver
  rcases zCG h with rfl | ⟨i,hi,rfl⟩
  ·rw [zga];exact Nat.one_pos
  ·rw [zjd hi];exact Nat.one_pos
theorem zCH [zae] (ht:TabIs E.R k v e e2 p rows) (B:Nat) {raw args:List PV} (hg:GiveL [(k,v)] raw args):∀ {vals:List Value},zbu w E 0 raw vals->zbu w (E.giveT k p (inT e e2 rows) B) 0 args vals:=by
 induction hg with
 | nil=>intro vals h;exact ⟨h.1,fun i a=>absurd a sp⟩
 | @v x l l' _ ih =>
   intro vals h
   cases vals with
   | nil=>simp [zbu] at h
   | cons y ys =>
     have h0:=h.2 0 sp sp
     simp only [List.getElem_cons_zero] at h0
     have:=h0.v_eq;subst this
     have ht:=ih (vals:=ys) ⟨by simpa using h.1,fun i a b=>h.2 (i + 1) (by simpa using a) (by simpa using b)⟩
     refine ⟨by simp [ht.1],fun i a b=>?_⟩
     cases i with
     | zero=>exact .v _
     | succ i=>exact ht.2 i (by simpa using a) (by simpa using b)
 | @clo f l l' _ ih =>
   intro vals h
   cases vals with
   | nil=>simp [zbu] at h
   | cons y ys =>
     have h0:=h.2 0 sp sp
     simp only [List.getElem_cons_zero] at h0
     have ht:=ih (vals:=ys) ⟨by simpa using h.1,fun i a b=>h.2 (i + 1) (by simpa using a) (by simpa using b)⟩
     refine ⟨by simp [ht.1],fun i a b=>?_⟩
     cases i with
     | zero=>cases h0 with | clo hl _=>exact .clo hl (fun i h=>absurd h sp)
     | succ i=>exact ht.2 i (by simpa using a) (by simpa using b)
 | @own k' ver l l' i hj _ ih =>
   intro vals h
   cases vals with
   | nil=>simp [zbu] at h
   | cons y ys =>
     have h0:=h.2 0 sp sp
     simp only [List.getElem_cons_zero] at h0
     have hr:=ih (vals:=ys) ⟨by simpa using h.1,fun i a b=>h.2 (i + 1) (by simpa using a) (by simpa using b)⟩
     refine ⟨by simp [hr.1],fun i' a b=>?_⟩
     cases i' with
     | zero =>
       have hi:i = 0:=by
        have:=(List.getElem?_eq_some_iff.1 hj).1
        simp at this;exact this
       subst hi
       simp only [List.getElem?_cons_zero,Option.some.injEq,Prod.mk.injEq] at hj
       obtain ⟨rfl,rfl⟩:=hj
       cases h0 with
       | own hv hx =>
         refine .own ?_ fun _ _=>?_
         ·show 1 <= (inT e e2 rows lent).ver
          rw [zga];exact Nat.le_refl _
         ·show y = _
          rw [Nat.add_zero,zdU.2]
          exact hx (by rw [ht.top]) (by rw [ht.top];rfl)
     | succ i'=>exact hr.2 i' (by simpa using a) (by simpa using b)
 | @ag c c' l l' _ _ ih1 ih2 =>
   intro vals h
   cases vals with
   | nil=>simp [zbu] at h
   | cons y ys =>
     have h0:=h.2 0 sp sp
     simp only [List.getElem_cons_zero] at h0
     have hr:=ih2 (vals:=ys) ⟨by simpa using h.1,fun i a b=>h.2 (i + 1) (by simpa using a) (by simpa using b)⟩
     refine ⟨by simp [hr.1],fun i a b=>?_⟩
     cases i with
     | zero =>
       cases h0 with
       | @ag _ _ _ vs hl hh =>
         have h1:=ih1 (vals:=vs) ⟨hl,hh⟩
         exact .ag h1.1 h1.2
     | succ i=>exact hr.2 i (by simpa using a) (by simpa using b)
end
theorem zxU {p q:List Nat} (hq:q.Perm (List.range p.length)):(q.map fun i=>p.getD i 0).Perm p:=by
 have h1:=hq.map fun i=>p.getD i 0
 have h2:(List.range p.length).map (fun i=>p.getD i 0) = p:=by
  refine List.ext_getElem sp fun i a b=>?_
  simp [List.getD,b]
 rw [h2] at h1
 exact h1
section
variable {P:Program} {G:Ghost} {s:St} {E E':Env} {w w':World} {k v e e2 B:Nat} {p q:List Nat} {rows rows':List (List PV)}
def InT (k:Nat) (p:List Nat) (j:Nat):Prop:=j = k \/ ∃ x ∈ p,j = sid k x
theorem zti [zae] (hw:WOk G E w) (ht:TabIs E.R k v e e2 p rows) (hn:p.Nodup) (hpl:zmj rows')
 (hw':WOk ⟨w,zpa E k p,0,(E.giveT k p (inT e e2 rows) w.heap.size).R,(E.giveT k p (inT e e2 rows) w.heap.size).rm,(E.giveT k p (inT e e2 rows) w.heap.size).rv,(E.giveT k p (inT e e2 rows) w.heap.size).X⟩ E' w')
 (hE:TabIs E'.R lent 1 e e2 q rows') (hq:q.Perm (List.range rows.length)) {E3:Env}
 (hR:∀ j,InT k p j->E3.R j = ziX E.R k v e e2 (q.map fun i=>p.getD i 0) rows' j/\E3.rm j = E.rm j/\E3.rv j = E.rv j) :
 ∀ j,InT k p j->zav w' E3 G.C j:=by
 have hlq:q.length = rows.length:=by have:=hq.length_eq;simpa using this
 have hqlt:∀ i,i < q.length->q.getD i 0 < rows.length:=fun i hi=>by
  have:=hq.mem_iff.1 (zmk hi)
  simpa using this
 have hp':(q.map fun i=>p.getD i 0).Perm p:=zxU (by rw [ht.len];exact hq)
 have hn':(q.map fun i=>p.getD i 0).Nodup:=hp'.nodup_iff.2 hn
 have hl':(q.map fun i=>p.getD i 0).length = rows'.length:=by rw [List.length_map,hE.len]
 have hget:∀ i,i < q.length->(q.map fun i=>p.getD i 0).getD i 0 = p.getD (q.getD i 0) 0:=fun i hi=>by simp [List.getD,hi]
 have pin:∀ j,(E'.R j).ver = ((E.giveT k p (inT e e2 rows) w.heap.size).R j).ver->(E'.R j).kind.slice = true->E'.rm j = (E.giveT k p (inT e e2 rows) w.heap.size).rm j/\E'.rv j = (E.giveT k p (inT e e2 rows) w.heap.size).rv j:=fun j h1 h2=>by
  obtain ⟨_,q1,q2⟩:=(hw'.pin j).2 h1 (RK.nd_of_slice h2)
  exact ⟨q1,(q2 h2).2⟩
 have pinTop:E'.rm lent = E.rm k/\E'.rv lent = E.rv k:=by
  have h:=pin lent (by rw [hE.top,zuJ,zga]) (by rw [hE.top];rfl)
  rw [zdU.1,zdU.2] at h
  exact h
 have pinRow:∀ i,i < q.length->E'.rm (sid lent (q.getD i 0)) = E.rm (sid k (p.getD (q.getD i 0) 0))/\E'.rv (sid lent (q.getD i 0)) = E.rv (sid k (p.getD (q.getD i 0) 0)):=fun i hi=>by
  have h:=pin (sid lent (q.getD i 0)) (by rw [hE.row i hi,zuJ,zjd (hqlt i hi)]) (by rw [hE.row i hi];rfl)
  rw [(zgb _).1,(zgb _).2] at h
  exact h
 intro j hj
 obtain ⟨r1,r2,r3⟩:=hR j hj
 rcases hj with rfl | ⟨x,hx,rfl⟩
 ·have hrow:=hw'.rows lent
  unfold zav at hrow ⊢
  rw [hE.top] at hrow
  rw [r1,ziq,r2,r3]
  rw [pinTop.1,pinTop.2] at hrow
  rcases hrow with ⟨h1,h2,h3⟩ | ⟨b,n,cap,vs,rest,h1,h2,h3,h4,h5,h6,h7,h8,h9⟩
  ·refine .inl ⟨h1,h2,List.eq_nil_of_length_eq_zero ?_⟩
   rw [zaq,List.length_map,<- zaq lent q,h3];rfl
  ·refine .inr ⟨b,n,cap,vs,rest,h1,(hw.block h1 (by rw [ht.top];rfl)).2,h3,h4,h5,h6,h7,h8,?_,fun i a' b'=>?_⟩
   ·rw [zaq,List.length_map,<- zaq lent q];exact h9.1
   ·have hi:i < q.length:=by simpa [zaq] using a'
    have h0:=h9.2 i (by rw [zaq];exact hi) b'
    have q1:(zaJ lent q)[i]'(by rw [zaq];exact hi) = .own (sid lent (q.getD i 0)) 1:=by simp [zaJ,List.getD,hi]
    have q2:(zaJ j (q.map fun i=>p.getD i 0))[i] = .own (sid j ((q.map fun i=>p.getD i 0).getD i 0)) 1:=by simp [zaJ,List.getD,hi]
    rw [q1] at h0
    rw [q2]
    have hmem:(q.map fun i=>p.getD i 0).getD i 0 ∈ p:=hp'.mem_iff.1 (zmk (by rw [List.length_map];exact hi))
    obtain ⟨s1,s2,s3⟩:=hR (sid j ((q.map fun i=>p.getD i 0).getD i 0)) (.inr ⟨_,hmem,rfl⟩)
    cases h0 with
    | own hv hx =>
      refine .own ?_ fun _ _=>?_
      ·rw [s1,zir hn' (by rw [List.length_map];exact hi)];exact Nat.le_refl _
      ·rw [s3,hget i hi,<- (pinRow i hi).2]
       exact hx (by rw [hE.row i hi]) (by rw [hE.row i hi];rfl)
 ·obtain ⟨i,hi,rfl⟩:=zeN (hp'.mem_iff.2 hx)
  have hi':i < q.length:=by simpa using hi
  have hrow:=hw'.rows (sid lent (q.getD i 0))
  unfold zav at hrow ⊢
  rw [hE.row i hi',(pinRow i hi').1,(pinRow i hi').2] at hrow
  rw [r1,zir hn' hi,r2,r3,hget i hi']
  rcases hrow with h | ⟨b,n,cap,vs,rest,h1,h2,h3,h4,h5,h6,h7,h8,h9⟩
  ·exact .inl h
  ·have hb:=(hw.block h1 (by rw [ht.row _ (by rw [ht.len];exact hqlt i hi')];rfl)).2
   rw [<- hget i hi'] at hb
   have h9':=zdr (w':=w') (E':=E3.bare) (lo':=E3.B) (hpl i (by rw [<- hE.len];exact hi')) h9
   refine Or.inr ⟨b,n,cap,vs,rest,h1,?_,h3,h4,h5,h6,h7,h8,h9'⟩
   rw [<- hget i hi'];exact hb
theorem zCF [zae] (hw:WOk G E w) (ht:TabIs E.R k v e e2 p rows) (hn:p.Nodup) {p':List Nat} (hp':p'.Perm p) {pv:Nat->Row} {px':Nat->Prop} {pm:Nat->Option Nat} {px:Nat->Value}
 (hw':WOk ⟨w,zpa E k p,0,pv,pm,px,px'⟩ E' w') :
 Turn G E { R:=ziX E.R k v e e2 p' rows',rm:=E.rm,rv:=E.rv,L:=mkL E.X (ziX E.R k v e e2 p' rows') E.rm,B:=E.B,X:=E.X } w w' (InT k p):=by
 have hn':p'.Nodup:=hp'.nodup_iff.2 hn
 have hin:∀ j,InT k p j->((E.R j).kind.slice = true/\(E.R j).kind.nd = true/\(E.R j).kind.live = true)/\(ziX E.R k v e e2 p' rows' j).ver = (E.R j).ver/\(ziX E.R k v e e2 p' rows' j).kind.nd = true:=by
  intro j hj
  rcases hj with rfl | ⟨x,hx,rfl⟩
  ·rw [ht.top,ziq];exact ⟨⟨rfl,rfl,rfl⟩,rfl,rfl⟩
  ·obtain ⟨i,hi,rfl⟩:=zeN hx
   rw [ht.row i hi]
   obtain ⟨i',hi',he⟩:=zeN (hp'.mem_iff.2 hx)
   rw [<- he,zir hn' hi']
   exact ⟨⟨rfl,rfl,rfl⟩,rfl,rfl⟩
 refine ⟨rfl,rfl,rfl,fun j hj=>⟨zje (fun h=>hj (.inl h)) fun x hx h=>hj (.inr ⟨x,hp'.mem_iff.1 hx,h⟩),rfl,rfl⟩,fun b hb hD=>?_,fun j b hD hb hnd=>?_,fun j hD=>?_,fun j hD _ hs=>?_,fun j hD _ hs=>?_,fun j hD hs=>?_,fun j j' b hD hD' h1 h2 e1 e2=>?_,hw'.kept.size,hw'.kept.os,hw'.kept.tape,hw'.kept.output⟩
 ·refine hw'.kept.block b hb fun k0 hM=>?_
  rcases hM with ⟨_,hM⟩ | ⟨i,hi,_,hM⟩
  ·have:=hD k (.inl rfl) hM
   rw [ht.top] at this;cases this
  ·have hx:=zmk hi
   have:=hD (sid k (p.getD i 0)) (.inr ⟨_,hx,rfl⟩) hM
   rw [(hin _ (.inr ⟨_,hx,rfl⟩)).1.2.2] at this;cases this
 ·exact .inr ⟨hb,(hin j hD).1.2.1,fun _=>(hin j hD).1.2.2⟩
 ·exact Nat.le_of_eq (hin j hD).2.1.symm
 ·exact ⟨(hin j hD).1.1,rfl⟩
 ·exact ⟨(hin j hD).1.2.1,rfl⟩
 ·have:=hw.pos j (hin j hD).1.2.1
  show 0 < (ziX E.R k v e e2 p' rows' j).ver
  rw [(hin j hD).2.1];exact this
 ·exact hw.inj j j' b (hin j hD).1.2.1 (hin j' hD').1.2.1 e1 e2
theorem zy2 [zae] {D:Nat->Prop} {E2:Env} (hw:WOk G E w) (h:Turn G E E2 w w' D) (hsame:E2.rm = E.rm/\E2.B = E.B/\E2.X = E.X) (hDnd:∀ j,D j->(E.R j).kind.nd = true) {d:Nat} {ls:List (TypeId × Option Nat × List PV)} {lv:List (Value × Option Nat)}
 (hd:∀ j i,D j->j ≠ zak d i) (hls:LeafsAt w' (Env.out w.heap.size (blk lv)) ls lv) (hlk:zfN w' ls lv) (hn:(blk lv).Nodup) :
 Turn G E (E2.adopt d ls lv) w w' (fun j=>D j \/ ∃ i,i < ls.length/\j = zak d i) /\
  (∀ j,(∃ i,i < ls.length/\j = zak d i)->zav w' (E2.adopt d ls lv) G.C j)/\Agr (E2.adopt d ls lv) (fun j=>(E2.R j).ver) d 0 lv /\
  (∀ j,D j->(E2.adopt d ls lv).R j = E2.R j/\(E2.adopt d ls lv).rm j = E2.rm j/\(E2.adopt d ls lv).rv j = E2.rv j) /\
  Lasts w' w' (Env.out w.heap.size (blk lv)).bare (E2.adopt d ls lv).bare:=by
 have hlen:=hls.length
 have atR:∀ j (h:j < ls.length),(E2.adopt d ls lv).R (zak d j) = ⟨(E2.R (zak d j)).ver + 1,zbV E2.R d j ls[j].1 ls[j].2.1 ls[j].2.2⟩:=fun j h=>by
  have h':j < (zbt E2.R d ls 0).length:=by rw [zbg];exact h
  have:=zdV E2.R d (zbt E2.R d ls 0) 0 j h'
  rw [Nat.zero_add] at this
  show zjf E2.R d (zbt E2.R d ls 0) 0 (zak d j) = _
  rw [this,zdP E2.R d ls 0 j h h',Nat.zero_add]
 have atM:∀ j (h:j < ls.length) (h':j < lv.length),(E2.adopt d ls lv).rm (zak d j) = lv[j].2:=fun j h h'=>by
  have:=zdV E2.rm d (lv.map (·.2)) 0 j (by simpa using h')
  rw [Nat.zero_add] at this
  show zjf E2.rm d (lv.map (·.2)) 0 (zak d j) = _
  rw [this];simp
 have atV:∀ j (h:j < ls.length) (h':j < lv.length),(E2.adopt d ls lv).rv (zak d j) = lv[j].1:=fun j h h'=>by
  have:=zdV E2.rv d (lv.map (·.1)) 0 j (by simpa using h')
  rw [Nat.zero_add] at this
  show zjf E2.rv d (lv.map (·.1)) 0 (zak d j) = _
  rw [this];simp
 have off:∀ j,¬ (∃ i,i < ls.length/\j = zak d i)->(E2.adopt d ls lv).R j = E2.R j/\(E2.adopt d ls lv).rm j = E2.rm j/\(E2.adopt d ls lv).rv j = E2.rv j:=fun j hk=>by
  refine ⟨zcN _ d j _ 0 fun i hj e=>hk ⟨i,by rwa [zbg] at hj,by simpa using e⟩,zcN _ d j _ 0 fun i hj e=>hk ⟨i,by simp at hj;omega,by simpa using e⟩,zcN _ d j _ 0 fun i hj e=>hk ⟨i,by simp at hj;omega,by simpa using e⟩⟩
 have offD:∀ j,D j->¬ (∃ i,i < ls.length/\j = zak d i):=fun j hj ⟨i,_,e⟩=>hd j i hj e
 have back:∀ j b,(E2.R j).kind.nd = true->E2.rm j = some b->b < w.heap.size:=fun j b hnd hb=>by
  rw [hsame.1] at hb
  by_cases hD:D j
  ·exact (hw.block hb (hDnd j hD)).1
  ·rw [(h.keep j hD).1] at hnd;exact (hw.block hb hnd).1
 have hturn:Turn G E (E2.adopt d ls lv) w w' (fun j=>D j \/ ∃ i,i < ls.length/\j = zak d i):=by
  refine ⟨rfl,?_,hsame.2.2,fun j hj=>?_,fun b hb hD=>h.blocks b hb fun j hj=>hD j (.inl hj),?_,?_,?_,?_,?_,?_,h.size,h.os,h.tape,h.output⟩
  ·exact h.B
  ·obtain ⟨o1,o2,o3⟩:=off j fun hi=>hj (.inr hi)
   obtain ⟨k1,k2,k3⟩:=h.keep j fun hi=>hj (.inl hi)
   exact ⟨o1.trans k1,o2.trans k2,o3.trans k3⟩
  ·intro j b hD hb hnd
   by_cases hi:∃ i,i < ls.length/\j = zak d i
   ·obtain ⟨i,hi,rfl⟩:=hi
    rw [atM i hi om] at hb
    exact .inl ((hls.get i hi om).blk b hb).1
   ·have hD:=hD.resolve_right hi
    obtain ⟨o1,o2,o3⟩:=off j hi
    rw [o2] at hb;rw [o1] at hnd ⊢
    exact h.fresh j b hD hb hnd
  ·intro j hD
   by_cases hi:∃ i,i < ls.length/\j = zak d i
   ·obtain ⟨i,hi,rfl⟩:=hi
    rw [atR i hi]
    by_cases hD':D (zak d i)
    ·exact absurd rfl (hd _ i hD')
    ·rw [(h.keep _ hD').1];exact Nat.le_succ _
   ·rw [(off j hi).1];exact h.ver j (hD.resolve_right hi)
  ·intro j hD he hs
   by_cases hi:∃ i,i < ls.length/\j = zak d i
   ·obtain ⟨i,hi,rfl⟩:=hi
    by_cases hD':D (zak d i)
    ·exact absurd rfl (hd _ i hD')
    ·rw [atR i hi,(h.keep _ hD').1] at he;simp at he
   ·obtain ⟨o1,o2,o3⟩:=off j hi
    rw [o1] at he hs;rw [o3]
    exact h.same1 j (hD.resolve_right hi) he hs
  ·intro j hD he hs
   by_cases hi:∃ i,i < ls.length/\j = zak d i
   ·obtain ⟨i,hi,rfl⟩:=hi
    by_cases hD':D (zak d i)
    ·exact absurd rfl (hd _ i hD')
    ·rw [atR i hi,(h.keep _ hD').1] at he;simp at he
   ·obtain ⟨o1,o2,o3⟩:=off j hi
    rw [o1] at he hs;rw [o2]
    exact h.same2 j (hD.resolve_right hi) he hs
  ·intro j hD hnd
   by_cases hi:∃ i,i < ls.length/\j = zak d i
   ·obtain ⟨i,hi,rfl⟩:=hi
    rw [atR i hi];exact Nat.succ_pos _
   ·rw [(off j hi).1] at hnd ⊢;exact h.pos j (hD.resolve_right hi) hnd
  ·intro j j' b hD hD' h1 h2 e1 e2
   have leafb:∀ i (hi:i < ls.length),(E2.adopt d ls lv).rm (zak d i) = some b->w.heap.size <= b:=fun i hi he=>by
    rw [atM i hi om] at he
    exact ((hls.get i hi om).blk b he).1
   by_cases hi:∃ i,i < ls.length/\j = zak d i
   ·by_cases hi':∃ i,i < ls.length/\j' = zak d i
    ·obtain ⟨i,hi,rfl⟩:=hi
     obtain ⟨i',hi',rfl⟩:=hi'
     rw [atM i hi om] at e1
     rw [atM i' hi' om] at e2
     rw [zCQ hn om om e1 e2]
    ·obtain ⟨i,hi,rfl⟩:=hi
     have g:=leafb i hi e1
     obtain ⟨o1,o2,o3⟩:=off j' hi'
     rw [o1] at h2;rw [o2] at e2
     have:=back j' b h2 e2
     omega
   ·obtain ⟨o1,o2,o3⟩:=off j hi
    rw [o1] at h1;rw [o2] at e1
    by_cases hi':∃ i,i < ls.length/\j' = zak d i
    ·obtain ⟨i',hi',rfl⟩:=hi'
     have g:=leafb i' hi' e2
     have:=back j b h1 e1
     omega
    ·obtain ⟨p1,p2,p3⟩:=off j' hi'
     rw [p1] at h2;rw [p2] at e2
     exact h.inj j j' b (hD.resolve_right hi) (hD'.resolve_right hi') h1 h2 e1 e2
 have hbare:Lasts w' w' (Env.out w.heap.size (blk lv)).bare (E2.adopt d ls lv).bare:=by
  refine ⟨fun b hb hL=>⟨rfl,fun hL'=>?_⟩,fun _=>Nat.le_refl _,fun _ _ h=>absurd h (by simp [Env.bare,RK.slice]),fun _ _ h=>absurd h (by simp [Env.bare,RK.nd]),Nat.le_refl _⟩
  rcases hL' with ⟨j,hj,hlv⟩ | hX
  rotate_left
  ·exact hL (.inl (by have:=hw.fx.low b (by rw [<- hw.xs,<- hsame.2.2];exact hX);have:=hw.kept.size;omega))
  have hnot:¬ (b < w.heap.size \/ b ∈ blk lv):=hL
  by_cases hi:∃ i,i < ls.length/\j = zak d i
  ·obtain ⟨i,hi,rfl⟩:=hi
   have hk':(E2.adopt d ls lv).rm (zak d i) = some b:=hj
   rw [atM i hi om] at hk'
   refine hnot (.inr ?_)
   simp only [blk,List.mem_filterMap]
   exact ⟨_,List.getElem_mem om,hk'⟩
  ·obtain ⟨o1,o2,_⟩:=off j hi
   have hk':(E2.adopt d ls lv).rm j = some b:=hj
   have hlv':((E2.adopt d ls lv).R j).kind.live = true:=hlv
   rw [o2] at hk';rw [o1] at hlv'
   exact hnot (.inl (back j b (RK.nd_of_live hlv') hk'))
 refine ⟨hturn,?_,fun j hj=>?_,fun j hj=>off j (offD j hj),hbare⟩
 ·rintro j ⟨i,hi,rfl⟩
  have hleaf:=hls.get i hi om
  unfold zav
  rw [atR i hi,atM i hi om,atV i hi om]
  generalize hx1:ls[i] = lx at hleaf
  generalize hy1:lv[i] = ly at hleaf
  cases hleaf with
  | nil=>exact .inl ⟨rfl,rfl,rfl⟩
  | tbn=>exact .inl ⟨rfl,rfl,by simp [zaX]⟩
  | @tb e b n cap cells vs rest hB hh hnn hc hm hll hr =>
    have hlink:=hlk i e cells b n cap (by rw [List.getElem?_eq_getElem hi,hx1]) (by rw [List.getElem?_eq_getElem om,hy1]) vs rest hh hnn
    refine .inr ⟨b,n,cap,vs,rest,rfl,.inl (Nat.le_trans hw.kept.size hB),rfl,hh,hnn,hc,hm,hll,by simp [zaX,hr,hnn],fun i' a b'=>?_⟩
    have hi':i' < cells.length:=by simpa [zaX] using a
    have h0:=hlink i' b'
    have hlt:i + 1 + i' < lv.length:=by
     cases hq:lv[i + 1 + i']? with
     | none=>rw [hq] at h0;cases h0
     | some x=>exact (List.getElem?_eq_some_iff.1 hq).1
    rw [List.getElem?_eq_getElem hlt] at h0
    have h0:lv[i + 1 + i'].1 = vs[i']:=by simpa using h0
    show Rep w' (E2.adopt d ls lv) 0 (zaX E2.R d i cells.length)[i'] vs[i']
    simp only [zaX,List.getElem_map,List.getElem_range]
    refine .own ?_ fun _ _=>?_
    ·rw [atR (i + 1 + i') om];exact Nat.le_refl _
    ·rw [atV (i + 1 + i') om hlt,h0]
  | @fr e sz b n cap cells vs rest hB hh hnn hc hm hll hr =>
    refine .inr ⟨b,n,cap,vs,rest,rfl,.inl ?_,rfl,hh,hnn,hc,hm,hll,hr.mono hbare ?_⟩
    ·exact Nat.le_trans hw.kept.size hB
    ·show E2.B <= w.heap.size
     rw [hsame.2.1,hw.base];exact hw.kept.size
 ·rw [Nat.zero_add]
  have hj':j < ls.length:=om
  rw [atR j hj',atV j hj' hj]
  exact ⟨rfl,rfl⟩
theorem zmi [zae] {o:Oper} {c:Call} {f:Operand} {K:St->Prop} (ho:o.op = .call c) (hc:c.callee = .value f) (hd:∀ d,o.dst = some d->d < G.n)
 (hk:match s.ev f with | .clo g caps=>zNg P s g (c.args.toList.map s.ev ++ caps) o.dst K | _=>False) {a:Act} (hs:Sim G s a w) {K':Act->World->Prop} {Q:Exit->Act->World->Prop}
 (hK:∀ s' a' w',K s'->Sim G s' a' w'->K' a' w'):o.wp P a w K' Q:=by
 split at hk
 ·rename_i g caps hev
  obtain ⟨k,v,e,e2,p,rows,rows',args,res,hat,hg,ht,hn,hk⟩:=hk
  obtain ⟨E,hs⟩:=hs
  have hfx:=zaB hs.slots f
  rw [hev] at hfx
  generalize hvf:a.eval f = vf at hfx
  cases hfx with
  | @clo _ _ _ _ vs hl hh' =>
    obtain ⟨hent,hpi,hpo,hlo,hcall⟩:=hat
    have ht2:TabIs E.R k v e e2 p rows:=by rw [hs.rw];exact ht
    have hraw:zbu w E 0 (c.args.toList.map s.ev ++ caps) (c.args.toList.map a.eval ++ vs) :=
     zbu.append (zbu.map fun x _=>zaB hs.slots x) ⟨hl,hh'⟩
    have hcall:=hcall w (zpa E k p) (E.giveT k p (inT e e2 rows) w.heap.size) _ (zFj hs.wok ht2 hn hpi) rfl (zCH ht2 w.heap.size hg hraw)
    unfold Oper.wp
    rw [zkU ho hc hvf hent]
    show Calls P g _ w _
    refine hcall.mono fun en w' ⟨E',q,vr,lv,he,hw',hE',hq,hres⟩=>?_
    subst he
    have hp':(q.map fun i=>p.getD i 0).Perm p:=zxU (by rw [ht.len];exact hq)
    have hk:=hk _ hp'
    let E2:Env:={ R:=ziX E.R k v e e2 (q.map fun i=>p.getD i 0) rows',rm:=E.rm,rv:=E.rv,L:=mkL E.X (ziX E.R k v e e2 (q.map fun i=>p.getD i 0) rows') E.rm,B:=E.B,X:=E.X }
    have hturn:Turn G E E2 w w' (InT k p):=zCF hs.wok ht2 hn hp' hw'
    have hself:∀ x,Rep w' E2 0 x (E.rv k)->True:=fun _ _=>trivial
    have own:Rep w' E2 0 (.own k v) (E.rv k):=by
     refine .own ?_ fun _ _=>rfl
     show v <= (ziX E.R k v e e2 _ rows' k).ver
     rw [ziq];exact Nat.le_refl _
    have hsim2:SimE G E2 (s.tabbed k v e e2 (q.map fun i=>p.getD i 0) rows') a w':=by
     have:=hturn.sim hs (zti hs.wok ht2 hn hpo hw' hE' hq fun j _=>⟨rfl,rfl,rfl⟩)
     have e1:({ s with rw:=E2.R }:St) = s.tabbed k v e e2 (q.map fun i=>p.getD i 0) rows':=by
      show ({ s with rw:=ziX E.R k v e e2 _ rows' }:St) = _
      rw [hs.rw];rfl
     rw [<- e1];exact this
    cases res with
    | self =>
      simp only [TR.ok,TR.next] at hres hk
      subst hres
      rw [zdU.2]
      exact hK _ _ _ hk ⟨E2,hsim2.put hd own⟩
    | selfx x =>
      simp only [TR.ok,TR.next] at hres hk
      subst hres
      rw [zdU.2]
      refine hK _ _ _ hk ⟨E2,hsim2.put hd ?_⟩
      refine .tup (cells:=[.own k v,.v x]) (vs:=[E.rv k,x]) rfl fun i a' b'=>?_
      match i,a' with
      | 0,_=>exact own
      | 1,_=>exact .v _
    | rv r =>
      simp only [TR.ok,TR.next] at hres hk
      obtain ⟨hout,hnd⟩:=hres
      cases hdst:o.dst with
      | none=>rw [hdst] at hk;exact hK _ _ _ hk ⟨E2,hsim2⟩
      | some d =>
      rw [hdst] at hk
      obtain ⟨hdk,hk⟩:=hk
      have hneq:∀ j i,InT k p j->j ≠ zak d i:=fun j i hj he=>by
       rcases hj with rfl | ⟨x,_,rfl⟩
       ·unfold zak at he;omega
       ·rw [zbN] at he;unfold zak at he;omega
      have hDnd:∀ j,InT k p j->(E.R j).kind.nd = true:=fun j hj=>by
       rcases hj with rfl | ⟨x,hx,rfl⟩
       ·rw [ht2.top];rfl
       ·obtain ⟨i,hi,rfl⟩:=zeN hx
        rw [ht2.row i hi];rfl
      obtain ⟨a1,a2,a3,a4,a5⟩:=zy2 (d:=d) hs.wok hturn ⟨rfl,rfl,rfl⟩ hDnd hneq hout.leafs hout.links hnd
      have hrows3:∀ j,(InT k p j \/ ∃ i,i < (leaves r).length/\j = zak d i)->zav w' (E2.adopt d (leaves r) lv) G.C j:=fun j hj=>by
       rcases hj with hj | hj
       ·exact zti hs.wok ht2 hn hpo hw' hE' hq (fun j hj=>a4 j hj) j hj
       ·exact a2 j hj
      have hsim:=a1.sim hs hrows3
      have hER:(E2.adopt d (leaves r) lv).R = zaw (s.tabbed k v e e2 (q.map fun i=>p.getD i 0) rows').rw d (leaves r) 0:=by
       rw [zc7]
       show zjf E2.R d (zbt E2.R d (leaves r) 0) 0 = _
       have:E2.R = (s.tabbed k v e e2 (q.map fun i=>p.getD i 0) rows').rw:=by
        show ziX E.R k v e e2 _ rows' = ziX s.rw k v e e2 _ rows'
        rw [hs.rw]
       rw [this]
      have hrep:Rep w' (E2.adopt d (leaves r) lv) 0 (zaY (fun j=>((s.tabbed k v e e2 (q.map fun i=>p.getD i 0) rows').rw j).ver) d r 0) vr:=by
       have:(fun j=>(E2.R j).ver) = fun j=>((s.tabbed k v e e2 (q.map fun i=>p.getD i 0) rows').rw j).ver:=by
        show (fun j=>(ziX E.R k v e e2 _ rows' j).ver) = fun j=>(ziX s.rw k v e e2 _ rows' j).ver
        rw [hs.rw]
       rw [this] at a3
       exact zpf a5 (by show E.B <= w.heap.size;rw [hs.wok.base];exact hs.wok.kept.size) r vr lv 0 hout a3
      have:=hsim.put (d:=some d) (by rintro x h;cases h;exact hd d hdst) hrep
      rw [hER] at this
      exact hK _ _ _ hk ⟨_,this⟩
 ·exact hk.elim
end
def zy0 (rw:Nat->Row) (y:PV) (K:List PV->Prop):Prop :=
 match y with
 | .own j v=>(rw j).ver = v/\(match (rw j).kind with
  | .sli _ sz _ c=>sz = 1/\(∀ p ∈ c,isV p = true)/\K c
  | .tab _ c=>(∀ p ∈ c,zj1 rw p)/\K c
  | _=>False)
 | _=>False
def zNf (T:Tab) (s:St) (d:Nat) (t t2:TypeId) (k ver e:Nat) (c:List PV) (y:PV) (K:St->Prop):Prop :=
 t = t2/\0 < (T t).size/\(T t).k = .sli e/\(T e).size = 1/\0 < (T e).bytes/\(s.rw k).ver = ver /\
  zy0 s.rw y fun news=>(c.length + news.length) * (T e).bytes <= 140737488355328/\K (zdG s d k (.tab e (c ++ news)))
def zmh (T:Tab) (s:St) (d:Nat) (t:TypeId) (n i:Nat) (k ver:Nat) (K:St->Prop):Prop :=
 0 < (T t).size/\n = 1/\i = 0/\(s.rw k).ver = ver/\(s.rw k).kind.slice = true/\d ≠ k/\(match (T t).k with
  | .sli e=>(T e).size = 1/\K ((s.row d ⟨(s.rw d).ver + 1,.tab e [.own k ver]⟩).put (some d) (.own d ((s.rw d).ver + 1)))
  | _=>False)
section
variable {P:Program} {T:Tab} {G:Ghost} {s:St} {E:Env} {a:Act} {w w':World} {o:Oper}
theorem zjX [zae] {lo sz:Nat} {c:List PV} {vs:List Value} {b n cap e:Nat} {rest:List Value} (hh:w.heap[b]? = some (.cells (vs ++ rest).toArray e (0,0))):∀ i u,vs[i]? = some u->∃ b' o,(some ⟨b,0,none⟩:Option Addr) = some ⟨b',o,none⟩/\w.cell? ⟨b',o + i,none⟩ = some u:=by
 intro i u hu
 obtain ⟨hi,rfl⟩:=List.getElem?_eq_some_iff.1 hu
 refine ⟨b,0,rfl,?_⟩
 rw [Nat.zero_add,zaL hh (by simp;omega)]
 simp [List.getElem_append_left hi]
theorem zuI [zae] {y:PV} {K:List PV->Prop} {x:Value} (hk:zy0 E.R y K) (hw:WOk G E w) (hp:Rep w E 0 y x) :
 ∃ news,K news/\∃ ax n cap vs,x = .slice ax n cap/\vs.length = n/\(∀ u ∈ vs,u.oneCell' = true)/\(∀ i u,vs[i]? = some u->∃ b o,ax = some ⟨b,o,none⟩/\w.cell? ⟨b,o + i,none⟩ = some u)/\zbu w E 0 news vs:=by
 unfold zy0 at hk
 split at hk
 ·rename_i j v
  obtain ⟨hv,hk⟩:=hk
  have hrow:=hw.rows j
  unfold zav at hrow
  cases hp with
  | own _ hx =>
    cases hkd:(E.R j).kind with
    | mp f=>simp only [hkd] at hk
    | sli e sz fz c =>
      simp only [hkd] at hk hrow
      obtain ⟨rfl,hone,hk⟩:=hk
      have hx:=hx hv (by rw [hkd];rfl)
      refine ⟨_,hk,?_⟩
      rcases hrow with ⟨h1,h2,h3⟩ | ⟨b,n,cap,vs,rest,h1,h2,h3,h4,h5,h6,h7,h8,h9⟩
      ·exact ⟨none,0,0,[],hx.trans h2,rfl,sp,sp,by subst h3;exact ⟨rfl,fun i a=>absurd a sp⟩⟩
      ·refine ⟨_,n,cap,vs,hx.trans h3,by rw [h5,Nat.mul_one],fun u hu=>?_,zjX (lo:=0) (sz:=0) (c:=[]) (n:=0) (cap:=0) h4,zdr hone h9⟩
       obtain ⟨i,hi,rfl⟩:=List.getElem_of_mem hu
       have hi':i < c.length:=by rw [h9.1];exact hi
       exact (zmn (w':=w) (E':=E) (lo':=0) (hone _ (List.getElem_mem hi')) (h9.2 i hi' hi)).2
    | tab e c =>
      simp only [hkd] at hk hrow
      obtain ⟨hone,hk⟩:=hk
      have hx:=hx hv (by rw [hkd];rfl)
      refine ⟨_,hk,?_⟩
      rcases hrow with ⟨h1,h2,h3⟩ | ⟨b,n,cap,vs,rest,h1,h2,h3,h4,h5,h6,h7,h8,h9⟩
      ·exact ⟨none,0,0,[],hx.trans h2,rfl,sp,sp,by subst h3;exact ⟨rfl,fun i a=>absurd a sp⟩⟩
      ·refine ⟨_,n,cap,vs,hx.trans h3,h5,fun u hu=>?_,zjX (lo:=0) (sz:=0) (c:=[]) (n:=0) (cap:=0) h4,h9⟩
       obtain ⟨i,hi,rfl⟩:=List.getElem_of_mem hu
       have hi':i < c.length:=by rw [h9.1];exact hi
       exact zjg (hone _ (List.getElem_mem hi')) hw (h9.2 i hi' hi)
    | dead=>simp only [hkd] at hk
    | nil=>simp only [hkd] at hk
    | box t c=>simp only [hkd] at hk
 ·exact hk.elim
theorem zy1 [zae] (hT:T.Ok P) {d:Nat} {t t2:TypeId} {x y:Operand} {k ver e:Nat} {c:List PV} {K:St->Prop} (ho:o.op = .call ⟨.builtin .append,#[x,y],#[t,t2]⟩) (hdst:o.dst = some d) (hd:d < G.n)
 (hev:s.ev x = .own k ver) (hkind:(s.rw k).kind = .tab e c) (hk:zNf T s d t t2 k ver e c (s.ev y) K) {a:Act} (hs:Sim G s a w) {K':Act->World->Prop} {Q:Exit->Act->World->Prop}
 (hK:∀ s' a' w',K s'->Sim G s' a' w'->K' a' w'):o.wp P a w K' Q:=by
 obtain ⟨rfl,ht,hte,he1,hby,hver,hk⟩:=hk
 obtain ⟨E,hs⟩:=hs
 have hR:=hs.rw
 rw [<- hR] at hk
 obtain ⟨news,⟨hlen,hk⟩,ax,n,cap,ws,h1,h2,h3,h4,h5⟩:=zuI hk hs.wok (zaB hs.slots y)
 have hx:=zaB hs.slots x
 rw [hev] at hx
 have hkindE:(E.R k).kind = .tab e c:=by rw [hR];exact hkind
 have hslice:(E.R k).kind.slice = true:=by rw [hkindE];rfl
 have hnd:=RK.nd_of_slice hslice
 obtain ⟨vs,hphys,hrepc⟩:∃ vs,zKp w e (T e).size (E.rm k) (E.rv k) vs/\zbu w E 0 c vs:=by
  have hrow:=hs.wok.rows k
  unfold zav at hrow
  simp only [hkindE] at hrow
  rw [he1]
  rcases hrow with ⟨g1,g2,g3⟩ | ⟨b,n,cap,vs,rest,g1,g2,g3,g4,g5,g6,g7,g8,g9⟩
  ·subst g3;exact ⟨[],.inl ⟨g1,g2,rfl⟩,⟨rfl,fun i p=>absurd p sp⟩⟩
  ·exact ⟨vs,.inr ⟨b,n,cap,rest,g1,g3,g4,by rw [Nat.mul_one];exact g5,g6,g7,by rw [Nat.mul_one];exact g8⟩,g9⟩
 have hxe:a.eval x = E.rv k:=by cases hx with | own hv hx=>exact hx (by rw [hR];exact hver) hslice
 obtain ⟨v',w',m',hrun,hap⟩:=zht (P:=P) hT o.type ht hte om hby hphys (mx:=n) (cx:=cap) (by rw [h2,he1,Nat.mul_one]) h4 h3 (by rw [<- hrepc.1,<- h5.1];exact hlen)
 rw [<- hxe,<- h1] at hrun
 have hver':(E.R k).ver = (s.rw k).ver:=by rw [hR]
 have hturn:OneTurn E w w' k ⟨(s.rw k).ver + 1,.tab e (c ++ news)⟩ m' v' :=
  ⟨fun b hb hne=>hap.block b hb fun h=>(by
   have:=hne h
   rw [hkindE] at this;cases this),
   fun b hb _=>(by
    rcases hap.fresh b hb with h | h
    ·exact .inr ⟨h,hnd,fun _=>by rw [hkindE];rfl⟩
    ·exact .inl h),
   by rw [hver'];exact Nat.le_succ _,fun h=>by rw [hver'] at h;simp at h,fun h=>by rw [hver'] at h;simp at h,fun _=>Nat.succ_pos _,hap.size,hap.os,hap.tape,hap.output⟩
 refine zgE (fz:=[]) (p:=.own k ((s.rw k).ver + 1)) hs (zcW ho hrun) hturn sp (fun hl=>?_) ?_ (by simp [hdst,hd]) (fun a' w' h=>hK _ a' w' hk ?_)
 ·unfold zav
  simp only [Env.turn,zaf]
  have hrep:zbu w' (E.turn [] k ⟨(s.rw k).ver + 1,.tab e (c ++ news)⟩ m' v') 0 (c ++ news) (vs ++ ws):=(hrepc.mono hl (Nat.le_refl _)).append (h5.mono hl (Nat.le_refl _))
  rcases hap.phys with ⟨q1,q2,q3⟩ | ⟨b,n,cap,rest,q1,q2,q3,q4,q5,q6,q7⟩
  ·refine .inl ⟨q1,q2,?_⟩
   have:=hrep.1
   rw [q3] at this
   exact List.eq_nil_of_length_eq_zero this
  ·rw [he1,Nat.mul_one] at q4 q7
   refine .inr ⟨b,n,cap,vs ++ ws,rest,q1,?_,q2,q3,q4,q5,q6,q7,hrep⟩
   rcases hap.fresh b q1 with hf | hf
   ·exact (hs.wok.block hf hnd).2
   ·exact .inl (Nat.le_trans hs.wok.kept.size hf)
 ·exact .own (by simp [Env.turn,zaf]) fun _ _=>by simp [Env.turn,zaf]
 ·rw [St.freeze_nil,hdst] at h;exact h
theorem zjY [zae] (hT:T.Ok P) {d:Nat} {t:TypeId} {n i:Nat} {x:Operand} {k ver:Nat} {K:St->Prop} (ho:o.op = .buildSlice t n #[(i,x)]) (hdst:o.dst = some d) (hd:d < G.n)
 (hev:s.ev x = .own k ver) (hk:zmh T s d t n i k ver K) {a:Act} (hs:Sim G s a w) {K':Act->World->Prop} {Q:Exit->Act->World->Prop}
 (hK:∀ s' a' w',K s'->Sim G s' a' w'->K' a' w'):o.wp P a w K' Q:=by
 obtain ⟨ht,rfl,rfl,hver,hsl,hdk,hk⟩:=hk
 split at hk
 ·rename_i e hte
  obtain ⟨he1,hk⟩:=hk
  have hu:P.underlying t = some (.slice e):=by have:=(hT t ht).k;rw [hte] at this;exact this
  obtain ⟨ii,zz,hi,hsz,hby,hz',hzl⟩:=(hT e om).info
  have hzs:zz.cells.size = 1:=by rw [<- Array.length_toList,hzl,(hT e om).zlen,he1]
  obtain ⟨E,hs⟩:=hs
  have hx:=zaB hs.slots x
  rw [hev] at hx
  have hslE:(E.R k).kind.slice = true:=by rw [hs.rw];exact hsl
  have hxe:a.eval x = E.rv k:=by cases hx with | own hv hx=>exact hx (by rw [hs.rw];exact hver) hslE
  have h1:(a.eval x).oneCell' = true:=by rw [hxe];exact zmp hs.wok hslE
  have hc1:=zcO h1
  have hrun:(execOp a.eval o).run P w = .ok (.value (.slice (some ⟨w.heap.size,0,none⟩) 1 1)) (w.alloc (.cells [a.eval x].toArray e)):=by
   have hsz1:ii.size = 1:=by rw [hsz,he1]
   simp [execOp,ho,Instr.buildSlice,run_underlying hu,sizeOf,typeInfo,zeroValue,hi,hz',hsz1,newRow,Instr.fill,hc1]
   congr 2
   refine Array.ext sp fun j p q=>?_
   have hj:j = 0:=by simp at q;omega
   subst hj
   simp
  have hturn:OneTurn E w (w.alloc (.cells ([a.eval x] ++ []).toArray e)) d ⟨(s.rw d).ver + 1,.tab e [.own k ver]⟩ (some w.heap.size) (.slice (some ⟨w.heap.size,0,none⟩) 1 1) :=
   ⟨fun b hb _=>(Ext.alloc w _).block b hb,fun b hb _=>.inl (by simp at hb;omega),by rw [hs.rw];exact Nat.le_succ _,fun h=>by rw [hs.rw] at h;simp at h,fun h=>by rw [hs.rw] at h;simp at h,fun _=>Nat.succ_pos _,sp,rfl,rfl,⟨rfl,fun _=>by first | exact Nat.le_refl _ | exact Nat.le_succ _⟩⟩
  rw [<- List.append_nil [a.eval x]] at hrun
  refine zgE (fz:=[]) (p:=.own d ((s.rw d).ver + 1)) hs hrun hturn sp (fun hl=>?_) ?_ (by simp [hdst,hd]) (fun a' w' h=>hK _ a' w' hk (by rw [hdst,St.freeze_nil] at h;exact h))
  ·unfold zav
   simp only [Env.turn,zaf]
   refine .inr ⟨w.heap.size,1,1,[a.eval x],[],rfl,.inl hs.wok.kept.size,rfl,heap_alloc_new w _,rfl,Nat.le_refl _,by simp [maxLen],rfl,?_⟩
   refine ⟨rfl,fun j p q=>?_⟩
   have hj:j = 0:=by simp at p;omega
   subst hj
   simp only [List.getElem_cons_zero]
   have:=hx.mono hl (Nat.le_refl 0)
   simpa [Env.turn] using this
  ·exact .own (by simp [Env.turn,zaf]) fun _ _=>by simp [Env.turn,zaf]
 ·exact hk.elim
end
end Go.Abs

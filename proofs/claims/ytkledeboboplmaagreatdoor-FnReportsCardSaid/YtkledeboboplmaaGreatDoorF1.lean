/- DERIVED by an AI agent. The frame of a row's proof: the arguments' readings, opened; the post of a law that returns true and has left old memory alone. No program in sight. -/
import Derived.Test.YtkledeboboplmaaGreatDoorA10
import Derived.OpenShut
import Derived.Carry
import Derived.Deep.Slices
namespace Go.Abs
set_option linter.unusedVariables false
open Go.ChangeShapes Go.WideShapes Go.RowKit
def zyx (w:World) (p:PV) (v:Value):Prop:=∀ E:Env,(∀ b,¬ E.L b)->Rep w E 0 p v
section
variable {H:Type} {enc:TypeId × Value->H} {P:Program} {w:World} {sp:Nat->Bool} {held:Bool} {t e:TypeId} {fuel:Nat} {cs:List Value} {x:DataW H × List MemPlace}
theorem zEu {a:Addr} {i:Nat} {v:Value} (h:w.cell? (a.add i) = some v) (hi:i = 0 \/ True):∃ b o,a.add i = ⟨b,o + i,none⟩/\a.block = b/\a.off = o:=by
 refine ⟨a.block,a.off,?_,rfl,rfl⟩
 by_cases h0:i = 0
 ·subst h0
  simp only [Addr.add,if_pos] at h ⊢
  have:a.spot = none:=by
   unfold World.cell? at h
   split at h
   ·split at h
    ·cases h
    ·rename_i hs;simpa using hs
   ·cases h
  cases a;simp_all
 ·simp [Addr.add,h0]
theorem zEv {V:Nat->Value} {a:Addr} {len cap:Nat} {c:List PV} (hlen:c.length = len) (hl:len <= cap) (hm:cap <= maxLen) (hc:∀ i,i < len->w.cell? (a.add i) = some (V i))
 (hr:∀ i (h:i < c.length),zyx w c[i] (V i)):zyx w (.sl false 1 c) (.slice (some a) len cap):=by
 intro E hE
 refine .sl V (by omega) hl hm (fun i hi=>?_) (fun i hi=>?_)
 ·have h0:=hc 0 (by omega)
  obtain ⟨b,o,h1,h2,h3⟩:=zEu h0 (.inl rfl)
  have ha:a = ⟨b,o,none⟩:=by simpa [Addr.add] using h1
  refine ⟨b,o,by rw [ha],by simp [Env.lo],hE b,?_⟩
  have:=hc i (by omega)
  rw [ha] at this
  by_cases hi0:i = 0
  ·subst hi0;simpa [Addr.add] using this
  ·simpa [Addr.add,hi0] using this
 ·have:E.lo 0 false = 0:=by simp [Env.lo]
  rw [this]
  exact hr i hi E.bare hE
theorem zGs {k:IntKind} (ht:P.underlying t = some (.int k)) (h:DataW.trod enc P w 0 sp held fuel t cs = some x):∃ n,cs = [.int k n]/\(Lit.int k n).wf = true:=by
 obtain ⟨n,h1,_,h3⟩:=DataW.trod_int ht h
 exact ⟨n,h1,h3⟩
theorem zzQ (ht:P.underlying t = some (.slice e)) (hc:P.cellsOf e = 1) {α:Type} [Inhabited α] (f:α->PV) (hel:∀ {n:Nat} {v:Value} {y:DataW H × List MemPlace},DataW.trod enc P w 0 sp held n e [v] = some y->∃ a,zyx w (f a) v)
 (h:DataW.trod enc P w 0 sp held fuel t cs = some x):∃ (as:List α) (v:Value),cs = [v]/\zyx w (.sl false 1 (as.map f)) v:=by
 rcases Deep.open_slice1 ht hc h with ⟨h0,_⟩ | ⟨a,len,cap,m,n,V,D,Pl,rfl,_,hl,hm,hmm,_,hx⟩
 ·refine ⟨[],_,h0,fun E hE=>?_⟩
  exact .sl (fun _=>undef) rfl (Nat.le_refl _) (Nat.zero_le _) (fun i hi=>absurd hi (by simp)) (fun i hi=>absurd hi (by simp))
 ·have hlm:len <= m:=by rw [hmm];split <;> omega
  obtain ⟨A,hA⟩:=Deep.choose_lt (α:=α) (n:=len) (p:=fun i a=>zyx w (f a) (V i)) fun i hi=>hel (hx i (by omega)).2
  refine ⟨(List.range len).map A,_,rfl,?_⟩
  refine zEv (V:=V) (by simp) hl hm (fun i hi=>(hx i (by omega)).1) (fun i hi=>?_)
  simp at hi
  simpa using hA i hi
theorem zzR {k:IntKind} (ht:P.underlying t = some (.slice e)) (hc:P.cellsOf e = 1) (he:P.underlying e = some (.int k)) (h:DataW.trod enc P w 0 sp held fuel t cs = some x):∃ (xs:List Int) (v:Value),cs = [v]/\zyx w (.sl false 1 (kL k xs)) v :=
 zzQ ht hc (fun n=>.v (.int k n)) (fun h=>by
  obtain ⟨n,h1,_⟩:=zGs he h
  simp only [List.cons.injEq,and_true] at h1
  exact ⟨n,fun E hE=>by rw [h1];exact .v _⟩) h
theorem zyx.int (k:IntKind) (n:Int):zyx w (.v (.int k n)) (.int k n):=fun E _=>.v _
theorem zyx.val (v:Value):zyx w (.v v) v:=fun E _=>.v _
theorem zyx.ag {ps:List PV} {vs:List Value} (hl:ps.length = vs.length) (h:∀ i (a:i < ps.length) (b:i < vs.length),zyx w ps[i] vs[i]):zyx w (.ag ps) (.agg vs.toArray) :=
 fun E hE=>.ag hl fun i a b=>h i a b E hE
def zEw (w:World):List PV->List Value->Prop
 | [],[]=>True
 | p :: ps,v :: vs=>zyx w p v/\zEw w ps vs
 | _,_=>False
theorem zEw.repL {E:Env} (hE:∀ b,¬ E.L b):∀ {ps:List PV} {vs:List Value},zEw w ps vs->zbu w E 0 ps vs
 | [],[],_=>⟨rfl,fun i h=>absurd h (by simp)⟩
 | p :: ps,v :: vs,h=>by
   have ih:=zEw.repL hE h.2
   refine ⟨by simp [ih.1],fun i a b=>?_⟩
   match i,a,b with
   | 0,_,_=>exact h.1 E hE
   | i + 1,a,b=>exact ih.2 i (by simpa using a) (by simpa using b)
 | [],_ :: _,h=>h.elim
 | _ :: _,[],h=>h.elim
theorem znv [zae] (hl:laidOutB P = true) {W W':World} (hx:Ext W W') {sp':Nat->Bool}:∀ {ts:List TypeId} {vs:List Value} {ds:List (DataW H)} {ps:List MemPlace},(∀ t ∈ ts,P.readableRec t = true/\t < P.types.size) ->
 (∀ p ∈ ps,p.block < W.heap.size)->(∀ p ∈ ps,sp' p.block = true)->DataW.TrodAll enc P W 0 (fun _=>true) true ts vs ds ps->DataW.TrodAll enc P W' 0 sp' true ts vs ds ps
 | [],[],[],ps,_,_,_,h=>h
 | t :: ts,v :: vs,d :: ds,ps,ht,hlt,hs,h=>by
   obtain ⟨p,q,h1,h2,rfl⟩:=h
   have hb:Below W.heap.size W W':=⟨hx.os,hx.tape,hx.output.same,hx.size,hx.block⟩
   refine ⟨p,q,?_,znv hl hx (fun t ht'=>ht t (by simp [ht'])) (fun p hp=>hlt p (by simp [hp])) (fun p hp=>hs p (by simp [hp])) h2,rfl⟩
   exact WideElems.Trod_stays hl (ht t (by simp)).1 (ht t (by simp)).2 h1 (fun p hp=>hb.same (hlt p (by simp [hp]))) (fun p hp=>hs p (by simp [hp]))
 | [],[],_ :: _,_,_,_,_,h=>h.elim
 | [],_ :: _,_,_,_,_,_,h=>h.elim
 | _ :: _,[],_,_,_,_,_,h=>h.elim
 | _ :: _,_ :: _,[],_,_,_,_,h=>h.elim
theorem zEx [zae] {f:Func} {s:ChangeSpec} {apart fresh handsOn znE:Bool} {W W':World} {args:Array Value} {ds:List (DataW H)} {before:List MemPlace} {t4:TypeId}
 (hl:laidOutB P = true) (hr:∀ t ∈ f.params.toList,P.readableRec t = true/\t < P.types.size) (hv:s.vars = []) (hW:DataW.Whole enc P f.params.toList s.vars apart W args.toList ds [] before)
 (hres:(s.fn H ds).results = [.lit (.bool true)]) (harg:(s.fn H ds).args = ds) (hvars:(s.fn H ds).vars = []) (ht:f.resultTypes = #[t4]) (hb4:P.underlying t4 = some .bool) (hx:Ext W W') :
 s.post enc P f apart fresh handsOn znE W args (.bool true) W':=by
 have hlt:=hW.lt
 have hW0:=hW
 obtain ⟨p,q,hA,hV,hp,hz,hn⟩:=hW
 rw [hv] at hV
 have hq:q = []:=hV
 have hpq:before = p:=by rw [hp,hq,List.append_nil]
 have hbel:Below W.heap.size W W':=⟨hx.os,hx.tape,hx.output.same,hx.size,hx.block⟩
 have hargs:∀ sp:Nat->Bool,(∀ x ∈ before,sp x.block = true)->DataW.TrodAll enc P W' 0 sp true f.params.toList args.toList ds p:=fun sp hsp =>
  znv hl hx hr (fun x hx=>hlt x (hpq ▸ hx)) (fun x hx=>hsp x (hpq ▸ hx)) hA
 have hr2:f.resultTypes.toList = [t4]:=by rw [ht]
 have hr3:(Value.bool true).resultList f.resultTypes.size = [.bool true]:=by rw [ht];rfl
 have hresT:∀ (b:Nat) (sp:Nat->Bool) (hd:Bool),DataW.TrodAll enc P W' b sp hd f.resultTypes.toList ((Value.bool true).resultList f.resultTypes.size) (s.fn H (ds ++ [])).results []:=fun b sp hd=>by
  rw [hr2,hr3,List.append_nil,hres]
  exact trodAll_cons_mk (shut_bool hb4 _) trodAll_mk0
 have hvT:∀ sp:Nat->Bool,DataW.TrodVars enc P W' sp s.vars (s.fn H (ds ++ [])).vars []:=fun sp=>by rw [List.append_nil,hvars,hv];rfl
 have hargT:∀ sp:Nat->Bool,(∀ x ∈ before,sp x.block = true)->DataW.TrodAll enc P W' 0 sp true f.params.toList args.toList (s.fn H (ds ++ [])).args p:=fun sp hsp=>by rw [List.append_nil,harg];exact hargs sp hsp
 refine ⟨ds,[],before,[],p,[],hW0,hresT _ _ _,?_,?_,World.keptBut_mono (fun x hx=>⟨hx,.inr (by rw [hpq] at hx;simpa using hx)⟩) (hbel.frame (· ∈ before)),fun _=>?_⟩
 ·exact hargT _ fun x hx=>by simpa using hlt x hx
 ·exact hvT _
 ·refine ⟨ok_one ht rfl (okWide_bool_mk hb4 _),_,_,([] ++ p) ++ [],⟨[] ++ p,[],trodAll_append (hargT _ (fun _ _=>rfl)) (hresT _ _ _),hvT _,rfl,?_,?_⟩,?_⟩
  ·intro b off hp
   have hp':MemPlace.cell b off ∈ before:=by rw [hpq];simpa using hp
   have:=hz b off hp'
   have hb:=hlt _ hp'
   rw [<- this]
   unfold World.frozen?
   have e:=hx.block b hb
   simp only [e]
  ·intro ha
   have:=hn ha
   rw [hpq] at this
   simpa using this
  ·intro x hx _
   rw [hpq]
   simpa using hx
end
theorem AC.law [zae] {P:Program} {f:FuncId} {ps:List PV} {b:Bool} (h:AC P f ps (.im (bool b))) {W:World} (hp:zae.Φ W) {vals:List Value} (hr:zEw W ps vals) :
 Calls P f vals.toArray W fun e W'=>e = .returned (.bool b)/\Ext W W':=by
 refine (h.2 W vals hp (hr.repL fun b hb=>hb)).mono fun e W' ⟨v,lv,he,hx,ho,_⟩=>⟨?_,hx⟩
 cases ho with
 | im h=>cases h;exact he
end Go.Abs

/- DERIVED by an AI agent. The frame of a row's proof: the arguments' readings, opened; the post of a law that returns true and has left old memory alone. No program in sight. -/
import Derived.Test.YtijabbemjaioeaaGreatDoorA10
import Derived.OpenShut
import Derived.Carry
import Derived.Deep.Slices
set_option linter.all false
namespace Go.Abs
open Go.ChangeShapes Go.WideShapes Go.RowKit
def qL (w:World) (p:PV) (v:Value):Prop:=∀E:Env,(∀b,¬E.L b)->Rep w E 0 p v
section
variable {H:Type} {enc:TypeId×Value->H} {P:Program} {w:World} {sp:Nat->Bool} {held:Bool} {t e:TypeId} {fuel:Nat} {cs:List Value} {x:DataW H×List MemPlace}
theorem zkg {a:Addr} {i:Nat} {v:Value} (h:w.cell? (a.add i)=some v) (e:i=0\/True):∃b o,a.add i=⟨b,o+i,none⟩/\a.block=b/\a.off=o:=by
 refine⟨a.block,a.off,?_,rfl,rfl⟩
 by_cases c:i=0
 ·subst c
  simp only[Addr.add,ae]at h ⊢
  have:a.spot=none:=by
   unfold World.cell? at h
   split at h
   ·split at h
    ·cases h
    ·rename_i d;simpa using d
   ·cases h
  cases a;simp_all
 ·simp[Addr.add,c]
theorem zkh {V:Nat->Value} {a:Addr} {len cap:Nat} {c:List PV} (e:c.length=len) (l:len<=cap) (m:cap<=maxLen) (f:∀i,i<len->w.cell? (a.add i)=some (V i))
 (n:∀i (h:i<c.length),qL w c[i] (V i)):qL w (.sl false 1 c) (.slice (some a) len cap):=by
 intro E g
 refine .sl V (by omega) l m (λi j=>?_) (λi j=>?_)
 ·have p:=f 0 (by omega)
  obtain⟨b,o,q,r,s⟩:=zkg p (.inl rfl)
  have k:a=⟨b,o,none⟩:=by simpa[Addr.add]using q
  refine⟨b,o,by rw[k],by simp[Env.lo],g b,?_⟩
  have:=f i (by omega)
  rw[k]at this
  by_cases d:i=0
  ·subst d;simpa[Addr.add]using this
  ·simpa[Addr.add,d]using this
 ·have:E.lo 0 false=0:=by simp[Env.lo]
  rw[this]
  exact n i j E.bare g
theorem PN {k:IntKind} (a:P.underlying t=some (.int k)) (h:DataW.trod enc P w 0 sp held fuel t cs=some x):∃n,cs=[.int k n]/\(Lit.int k n).wf=true:=by
 obtain⟨n,b,_,c⟩:=DataW.trod_int a h
 exact⟨n,b,c⟩
theorem zeS (k:P.underlying t=some (.slice e)) (l:P.cellsOf e=1) {c:Type} [Inhabited c] (f:c->PV) (d:∀{n:Nat} {v:Value} {y:DataW H×List MemPlace},DataW.trod enc P w 0 sp held n e [v]=some y->∃a,qL w (f a) v)
 (h:DataW.trod enc P w 0 sp held fuel t cs=some x):∃(as:List c) (v:Value),cs=[v]/\qL w (.sl false 1 (as.map f)) v:=by
 rcases Deep.open_slice1 k l h with⟨o,_⟩|⟨a,len,cap,m,n,V,D,z,rfl,_,q,r,g,_,j⟩
 ·refine⟨[],_,o,λE B=>?_⟩
  exact .sl (λ_=>undef) rfl (ab _) (aB _) (λi b=>absurd b (by simp)) (λi b=>absurd b (by simp))
 ·have s:len<=m:=by rw[g];split<;>omega
  obtain⟨A,u⟩:=Deep.choose_lt (α:=c) (n:=len) (p:=λi a=>qL w (f a) (V i)) λi b=>d (j i (by omega)).2
  refine⟨(List.range len).map A,_,rfl,?_⟩
  refine zkh (V:=V) (by simp) q r (λi b=>(j i (by omega)).1) (λi b=>?_)
  simp at b
  simpa using u i b
theorem zcF {k:IntKind} (b:P.underlying t=some (.slice e)) (c:P.cellsOf e=1) (d:P.underlying e=some (.int k)) (h:DataW.trod enc P w 0 sp held fuel t cs=some x):∃(f:List Int) (v:Value),cs=[v]/\qL w (.sl false 1 (kL k f)) v :=
 zeS b c (λn=>.v (.int k n)) (λh=>by
  obtain⟨n,a,_⟩:=PN d h
  simp only[List.cons.injEq,dF]at a
  exact⟨n,λE g=>by rw[a];exact .v _⟩) h
theorem qL.int (k:IntKind) (n:Int):qL w (.v (.int k n)) (.int k n):=λE _=>.v _
theorem qL.val (v:Value):qL w (.v v) v:=λE _=>.v _
theorem qL.ag {c:List PV} {vs:List Value} (d:c.length=vs.length) (h:∀i (a:i<c.length) (b:i<vs.length),qL w c[i] vs[i]):qL w (.ag c) (.agg vs.toArray) :=
 λE e=>.ag d λi a b=>h i a b E e
def zcy (w:World):List PV->List Value->Prop
 | [],[]=>True
 | p::a,v::b=>qL w p v/\zcy w a b
 | _,_=>False
theorem zcy.repL {E:Env} (e:∀b,¬E.L b):∀{c:List PV} {d:List Value},zcy w c d->ex w E 0 c d
 | [],[],_=>⟨rfl,λi h=>absurd h (by simp)⟩
 | p::c,v::d,h=>by
   have f:=zcy.repL e h.2
   refine⟨by simp[f.1],λi a b=>?_⟩
   match i,a,b with
   | 0,_,_=>exact h.1 E e
   | i+1,a,b=>exact f.2 i (by simpa using a) (by simpa using b)
 | [],_::_,h=>h.elim
 | _::_,[],h=>h.elim
theorem JM [aw] (n:laidOutB P=true) {W i:World} (b:Ext W i) {e:Nat->Bool}:∀{g:List TypeId} {j:List Value} {k:List (DataW H)} {c:List MemPlace},(∀t∈g,P.readableRec t=true/\t<P.types.size) ->
 (∀p∈c,p.block<W.heap.size)->(∀p∈c,e p.block=true)->DataW.TrodAll enc P W 0 (λ_=>true) true g j k c->DataW.TrodAll enc P i 0 e true g j k c
 | [],[],[],c,_,_,_,h=>h
 | t::g,v::j,d::k,c,l,f,o,h=>by
   obtain⟨p,q,r,s,rfl⟩:=h
   have u:Below W.heap.size W i:=⟨b.os,b.tape,b.output.same,b.size,b.block⟩
   refine⟨p,q,?_,JM n b (λt m=>l t (by simp[m])) (λp a=>f p (by simp[a])) (λp a=>o p (by simp[a])) s,rfl⟩
   exact WideElems.Trod_stays n (l t (by simp)).1 (l t (by simp)).2 r (λp a=>u.same (f p (by simp[a]))) (λp a=>o p (by simp[a]))
 | [],[],_::_,_,_,_,_,h=>h.elim
 | [],_::_,_,_,_,_,_,h=>h.elim
 | _::_,[],_,_,_,_,_,h=>h.elim
 | _::_,_::_,[],_,_,_,_,h=>h.elim
theorem zki [aw] {f:Func} {s:ChangeSpec} {g fresh h np:Bool} {W l:World} {args:Array Value} {k:List (DataW H)} {a:List MemPlace} {D:TypeId}
 (N:laidOutB P=true) (O:∀t∈f.params.toList,P.readableRec t=true/\t<P.types.size) (L:s.vars=[]) (E:DataW.Whole enc P f.params.toList s.vars g W args.toList k [] a)
 (u:(s.fn H k).results=[.lit (.bool true)]) (w:(s.fn H k).args=k) (m:(s.fn H k).vars=[]) (F:f.resultTypes=#[D]) (y:P.underlying D=some .bool) (c:Ext W l) :
 s.post enc P f g fresh h np W args (.bool true) l:=by
 have n:=E.lt
 have G:=E
 obtain⟨p,q,Q,hV,I,R,S⟩:=E
 rw[L]at hV
 have U:q=[]:=hV
 have d:a=p:=by rw[I,U,bh]
 have z:Below W.heap.size W l:=⟨c.os,c.tape,c.output.same,c.size,c.block⟩
 have o:∀sp:Nat->Bool,(∀x∈a,sp x.block=true)->DataW.TrodAll enc P l 0 sp true f.params.toList args.toList k p:=λsp r =>
  JM N c O (λx c=>n x (d ▸ c)) (λx c=>r x (d ▸ c)) Q
 have J:f.resultTypes.toList=[D]:=by rw[F]
 have K:(Value.bool true).resultList f.resultTypes.size=[.bool true]:=by rw[F];rfl
 have i:∀(b:Nat) (sp:Nat->Bool) (M:Bool),DataW.TrodAll enc P l b sp M f.resultTypes.toList ((Value.bool true).resultList f.resultTypes.size) (s.fn H (k++[])).results []:=λb sp M=>by
  rw[J,K,bh,u]
  exact trodAll_cons_mk (shut_bool y _) trodAll_mk0
 have A:∀sp:Nat->Bool,DataW.TrodVars enc P l sp s.vars (s.fn H (k++[])).vars []:=λsp=>by rw[bh,m,L];rfl
 have j:∀sp:Nat->Bool,(∀x∈a,sp x.block=true)->DataW.TrodAll enc P l 0 sp true f.params.toList args.toList (s.fn H (k++[])).args p:=λsp r=>by rw[bh,w];exact o sp r
 refine⟨k,[],a,[],p,[],G,i _ _ _,?_,?_,World.keptBut_mono (λx c=>⟨c,.inr (by rw[d]at c;simpa using c)⟩) (z.frame (·∈a)),λ_=>?_⟩
 ·exact j _ λx c=>by simpa using n x c
 ·exact A _
 ·refine⟨ok_one F rfl (okWide_bool_mk y _),_,_,([]++p)++[],⟨[]++p,[],trodAll_append (j _ (λ_ _=>rfl)) (i _ _ _),A _,rfl,?_,?_⟩,?_⟩
  ·intro b B I
   have C:MemPlace.cell b B∈a:=by rw[d];simpa using I
   have:=R b B C
   have V:=n _ C
   rw[<- this]
   unfold World.frozen?
   have e:=c.block b V
   simp only[e]
  ·intro X
   have:=S X
   rw[d]at this
   simpa using this
  ·intro x c _
   rw[d]
   simpa using c
end
theorem AC.law [aw] {P:Program} {f:FuncId} {a:List PV} {b:Bool} (h:AC P f a (.im (aU b))) {W:World} (d:aw.Φ W) {vals:List Value} (g:zcy W a vals) :
 Calls P f vals.toArray W λe c=>e=.returned (.bool b)/\Ext W c:=by
 refine(h.2 W vals d (g.repL λb i=>i)).mono λe c ⟨v,m,j,k,l,_⟩=>⟨?_,k⟩
 cases l with
 | im h=>cases h;exact j
end Go.Abs

/- DERIVED by an AI agent. -/
import Derived.Test.YtkledeboboplmaaGreatDoorA3
import Derived.Test.YtkledeboboplmaaGreatDoorA1
namespace Go.Abs
set_option linter.unusedSimpArgs false
def leaves:RV->List (TypeId × Option Nat × List PV)
 | .im _=>[]
 | .fr e sz c=>[(e,some sz,c)]
 | .tb e e2 rows=>(e,none,List.replicate rows.length .junk) :: rows.map fun r=>(e2,some 1,r)
 | .ag l=>(l.attach.map fun ⟨x,_⟩=>leaves x).flatten
 | .tup l=>(l.attach.map fun ⟨x,_⟩=>leaves x).flatten
theorem zce (l:List RV):leaves (.ag l) = (l.map leaves).flatten:=by rw [leaves];simp
theorem zby (l:List RV):leaves (.tup l) = (l.map leaves).flatten:=by rw [leaves];simp
def zak (d i:Nat):Nat:=d + 1000 * i
def zbl (f:RV->Nat->PV):List RV->Nat->List PV
 | [],_=>[]
 | x :: xs,i=>f x i :: zbl f xs (i + (leaves x).length)
def zbI (vr:Nat->Nat) (d:Nat):RV->Nat->PV
 | .im p,_=>zhv true p
 | .fr _ _ _,i=>.own (zak d i) (vr (zak d i) + 1)
 | .tb _ _ _,i=>.own (zak d i) (vr (zak d i) + 1)
 | .ag _,_=>.junk
 | .tup _,_=>.junk
def zbO (vr:Nat->Nat) (d:Nat):RV->Nat->PV
 | .ag l,i=>.ag (zbl (zbI vr d) l i)
 | .tup l,i=>.tup (zbl (zbI vr d) l i)
 | x,i=>zbI vr d x i
def zaY (vr:Nat->Nat) (d:Nat):RV->Nat->PV
 | .ag l,i=>.ag (zbl (zbO vr d) l i)
 | .tup l,i=>.tup (zbl (zbO vr d) l i)
 | x,i=>zbI vr d x i
def zaX (rw:Nat->Row) (d i n:Nat):List PV:=(List.range n).map fun j=>.own (zak d (i + 1 + j)) ((rw (zak d (i + 1 + j))).ver + 1)
def zbV (rw:Nat->Row) (d i:Nat) (e:TypeId) (sz:Option Nat) (c:List PV):RK :=
 match sz with
 | some z=>.sli e z false c
 | none=>.tab e (zaX rw d i c.length)
def zaw (rw:Nat->Row) (d:Nat):List (TypeId × Option Nat × List PV)->Nat->Nat->Row
 | [],_=>rw
 | (e,sz,c) :: ls,i=>zcR (zaw rw d ls (i + 1)) (zak d i) ⟨(rw (zak d i)).ver + 1,zbV rw d i e sz c⟩
def zal (s:St) (d:Nat) (rv:RV):St :=
 (St.mk s.sl (zaw s.rw d (leaves rv) 0)).put (some d) (zaY (fun k=>(s.rw k).ver) d rv 0)
inductive LeafAt (w:World) (E:Env):(TypeId × Option Nat × List PV)->Value × Option Nat->Prop
 | nil {e sz:Nat}:LeafAt w E (e,some sz,[]) (.slice none 0 0,none)
 | tbn {e:Nat}:LeafAt w E (e,none,[]) (.slice none 0 0,none)
 | tb {e b n cap:Nat} {cells:List PV} {vs rest:List Value} (hB:E.B <= b) (hh:w.heap[b]? = some (.cells (vs ++ rest).toArray e (0,0)))
  (hn:vs.length = n) (hc:n <= cap) (hm:cap <= maxLen) (hl:(vs ++ rest).length = cap) (hr:cells.length = n) :
  LeafAt w E (e,none,cells) (.slice (some ⟨b,0,none⟩) n cap,some b)
 | fr {e sz b n cap:Nat} {cells:List PV} {vs rest:List Value} (hB:E.B <= b) (hh:w.heap[b]? = some (.cells (vs ++ rest).toArray e (0,0)))
  (hn:vs.length = n * sz) (hc:n <= cap) (hm:cap <= maxLen) (hl:(vs ++ rest).length = cap * sz) (hr:zbu w E.bare E.B cells vs) :
  LeafAt w E (e,some sz,cells) (.slice (some ⟨b,0,none⟩) n cap,some b)
inductive LeafsAt (w:World) (E:Env):List (TypeId × Option Nat × List PV)->List (Value × Option Nat)->Prop
 | nil:LeafsAt w E [] []
 | cons {x:TypeId × Option Nat × List PV} {y:Value × Option Nat} {xs:List (TypeId × Option Nat × List PV)} {ys:List (Value × Option Nat)} (h:LeafAt w E x y) (hs:LeafsAt w E xs ys):LeafsAt w E (x :: xs) (y :: ys)
theorem LeafsAt.append {w:World} {E:Env} {a c:List (TypeId × Option Nat × List PV)} {b d:List (Value × Option Nat)} (h:LeafsAt w E a b) (k:LeafsAt w E c d):LeafsAt w E (a ++ c) (b ++ d):=by
 induction h with
 | nil=>exact k
 | cons h _ ih=>exact .cons h ih
theorem LeafsAt.length {w:World} {E:Env} {a:List (TypeId × Option Nat × List PV)} {b:List (Value × Option Nat)} (h:LeafsAt w E a b):b.length = a.length:=by
 induction h with
 | nil=>rfl
 | cons h _ ih=>simp [ih]
theorem OutR.leafs [zae] {w:World} {E:Env} {rv:RV} {v:Value} {lv:List (Value × Option Nat)} (h:OutR w E rv v lv):LeafsAt w E (leaves rv) lv:=by
 have flat:∀ (l:List RV) (bss:List (List (Value × Option Nat))),l.length = bss.length->(∀ i (a:i < l.length) (c:i < bss.length),LeafsAt w E (leaves l[i]) bss[i])->LeafsAt w E (l.map leaves).flatten bss.flatten:=by
  intro l
  induction l with
  | nil=>intro bss h _;cases bss with | nil=>exact .nil | cons x y=>simp at h
  | cons x xs ih =>
    intro bss h hh
    cases bss with
    | nil=>simp at h
    | cons y ys =>
      simp only [List.map_cons,List.flatten_cons]
      exact (hh 0 sp sp).append (ih ys (by simpa using h) fun i a c=>hh (i + 1) (by simpa using a) (by simpa using c))
 induction h with
 | im h=>rw [leaves];exact .nil
 | nil=>rw [leaves];exact .cons .nil .nil
 | fr hB hh hn hc hm hl hr=>rw [leaves];exact .cons (.fr hB hh hn hc hm hl hr) .nil
 | tbn=>rw [leaves];exact .cons .tbn .nil
 | @tb e e2 b n cap rows vs rest lvs hB hh hn hc hm hl h1 h2 hv hin ih =>
   rw [leaves]
   refine .cons (.tb hB hh hn hc hm hl (by simpa using h1)) ?_
   have key:∀ (rows:List (List PV)) (vs:List Value) (lvs:List (Value × Option Nat)),rows.length = vs.length->rows.length = lvs.length ->
    (∀ i (a:i < rows.length) (b:i < vs.length) (c:i < lvs.length),LeafsAt w E (leaves (.fr e2 1 rows[i])) [lvs[i]])->LeafsAt w E (rows.map fun r=>(e2,some 1,r)) lvs:=by
    intro rows
    induction rows with
    | nil=>intro vs lvs _ h _;cases lvs with | nil=>exact .nil | cons x y=>simp at h
    | cons r rs ih =>
      intro vs lvs g1 g2 g3
      cases lvs with
      | nil=>simp at g2
      | cons x xs =>
        cases vs with
        | nil=>simp at g1
        | cons v vs =>
          have h0:=g3 0 sp sp sp
          rw [leaves] at h0
          simp only [List.getElem_cons_zero] at h0
          cases h0 with
          | cons h0 _=>exact .cons h0 (ih vs xs (by simpa using g1) (by simpa using g2) fun i a b c=>g3 (i + 1) (by simpa using a) (by simpa using b) (by simpa using c))
   exact key rows vs lvs om om ih
 | @ag l vs bss e1 e2 hh ih=>rw [zce];exact flat l bss e2 fun i a c=>ih i a om c
 | @tup l vs bss e1 e2 hh ih=>rw [zby];exact flat l bss e2 fun i a c=>ih i a om c
def zfN (w:World) (ls:List (TypeId × Option Nat × List PV)) (lv:List (Value × Option Nat)):Prop :=
 ∀ (i:Nat) (e:TypeId) (c:List PV) (b n cap:Nat),ls[i]? = some (e,none,c)->lv[i]? = some (.slice (some ⟨b,0,none⟩) n cap,some b) ->
  ∀ vs rest:List Value,w.heap[b]? = some (.cells (vs ++ rest).toArray e (0,0))->vs.length = n->∀ j (h:j < vs.length),(lv[i + 1 + j]?).map (·.1) = some vs[j]
theorem zfN.append {w:World} {a c:List (TypeId × Option Nat × List PV)} {b d:List (Value × Option Nat)} (hl:a.length = b.length) (h:zfN w a b) (k:zfN w c d):zfN w (a ++ c) (b ++ d):=by
 intro i e cc bb n cap h1 h2 vs rest hh hn j hj
 by_cases hi:i < a.length
 ·rw [List.getElem?_append_left hi] at h1
  rw [List.getElem?_append_left om] at h2
  have:=h i e cc bb n cap h1 h2 vs rest hh hn j hj
  cases hb:b[i + 1 + j]? with
  | none=>rw [hb] at this;cases this
  | some x =>
    rw [List.getElem?_append_left (List.getElem?_eq_some_iff.1 hb).1]
    exact this
 ·rw [List.getElem?_append_right om] at h1
  rw [List.getElem?_append_right om] at h2
  have:=k (i - a.length) e cc bb n cap h1 (by rw [hl];exact h2) vs rest hh hn j hj
  rw [List.getElem?_append_right om]
  rw [show i - a.length + 1 + j = i + 1 + j - b.length by omega] at this
  exact this
theorem zfN.nil (w:World):zfN w [] []:=fun i e c b n cap h=>by simp at h
theorem zfN.one {w:World} {e:TypeId} {sz:Nat} {c:List PV} {x:Value × Option Nat}:zfN w [(e,some sz,c)] [x]:=fun i e c b n cap h=>by
 cases i <;> simp at h
theorem OutR.links [zae] {w:World} {E:Env} {rv:RV} {v:Value} {lv:List (Value × Option Nat)} (h:OutR w E rv v lv):zfN w (leaves rv) lv:=by
 have flat:∀ (l:List RV) (bss:List (List (Value × Option Nat))),l.length = bss.length->(∀ i (a:i < l.length) (c:i < bss.length),(leaves l[i]).length = bss[i].length/\zfN w (leaves l[i]) bss[i])->zfN w (l.map leaves).flatten bss.flatten:=by
  intro l
  induction l with
  | nil=>intro bss h _;cases bss with | nil=>exact zfN.nil w | cons x y=>simp at h
  | cons x xs ih =>
    intro bss h hh
    cases bss with
    | nil=>simp at h
    | cons y ys =>
      simp only [List.map_cons,List.flatten_cons]
      have h0:=hh 0 sp sp
      exact zfN.append h0.1 h0.2 (ih ys (by simpa using h) fun i a c=>hh (i + 1) (by simpa using a) (by simpa using c))
 induction h with
 | im h=>rw [leaves];exact zfN.nil w
 | nil=>rw [leaves];exact zfN.one
 | fr=>rw [leaves];exact zfN.one
 | tbn=>rw [leaves];intro i e c b n cap h1 h2;cases i <;> simp at h1 h2
 | @tb e e2 b n cap rows vs rest lvs hB hh hn hc hm hl h1 h2 hv hin ih =>
   rw [leaves]
   intro i e' c' b' n' cap' g1 g2 vs' rest' g3 g4 j hj
   cases i with
   | zero =>
     simp only [List.getElem?_cons_zero,Option.some.injEq,Prod.mk.injEq,Value.slice.injEq] at g1 g2
     obtain ⟨rfl,_,_⟩:=g1
     obtain ⟨⟨e1,e2',e3⟩,e4⟩:=g2
     subst e2' e4
     rw [hh] at g3
     simp only [Option.some.injEq,Obj.cells.injEq,and_true] at g3
     have e5:vs ++ rest = vs' ++ rest':=by simpa using congrArg Array.toList g3
     obtain ⟨rfl,_⟩:=List.append_inj e5 om
     rw [show 0 + 1 + j = j + 1 by omega,List.getElem?_cons_succ,List.getElem?_eq_getElem om]
     simp [hv j hj om]
   | succ i =>
     exfalso
     rw [List.getElem?_cons_succ,List.getElem?_map] at g1
     cases hr:rows[i]? with
     | none=>rw [hr] at g1;cases g1
     | some r=>rw [hr] at g1;simp at g1
 | @ag l vs bss e1 e2 hh ih=>rw [zce];exact flat l bss e2 fun i a c=>⟨(hh i a om c).leafs.length.symm,ih i a om c⟩
 | @tup l vs bss e1 e2 hh ih=>rw [zby];exact flat l bss e2 fun i a c=>⟨(hh i a om c).leafs.length.symm,ih i a om c⟩
def Agr (E:Env) (vr:Nat->Nat) (d i:Nat) (lv:List (Value × Option Nat)):Prop:=∀ j (h:j < lv.length),(E.R (zak d (i + j))).ver = vr (zak d (i + j)) + 1/\E.rv (zak d (i + j)) = lv[j].1
theorem Agr.left {E:Env} {vr:Nat->Nat} {d i:Nat} {x y:List (Value × Option Nat)} (h:Agr E vr d i (x ++ y)):Agr E vr d i x:=fun j hj=>by
 have:=h j (by simp;omega)
 rwa [List.getElem_append_left hj] at this
theorem Agr.right {E:Env} {vr:Nat->Nat} {d i:Nat} {x y:List (Value × Option Nat)} (h:Agr E vr d i (x ++ y)):Agr E vr d (i + x.length) y:=fun j hj=>by
 have:=h (x.length + j) (by simp;omega)
 rw [List.getElem_append_right om] at this
 simpa [Nat.add_assoc] using this
section
variable {w:World} {E E':Env} {vr:Nat->Nat} {d:Nat}
def zxW (w:World) (E E':Env) (vr:Nat->Nat) (d:Nat) (f:RV->Nat->PV):Prop :=
 ∀ (rv:RV) (v:Value) (lv:List (Value × Option Nat)) (i:Nat),OutR w E rv v lv->Agr E' vr d i lv->Rep w E' 0 (f rv i) v
theorem zgD [zae] {f:RV->Nat->PV} (hf:zxW w E E' vr d f):∀ (l:List RV) (vs:List Value) (bss:List (List (Value × Option Nat))) (i:Nat),l.length = vs.length->l.length = bss.length ->
 (∀ j (a:j < l.length) (b:j < vs.length) (c:j < bss.length),OutR w E l[j] vs[j] bss[j])->Agr E' vr d i bss.flatten->zbu w E' 0 (zbl f l i) vs:=by
 intro l
 induction l with
 | nil=>intro vs bss i h1 _ _ _;cases vs with | nil=>exact ⟨rfl,fun i a=>absurd a (by simp [zbl])⟩ | cons x y=>simp at h1
 | cons x xs ih =>
   intro vs bss i h1 h2 hh hag
   cases vs with
   | nil=>simp at h1
   | cons v vs =>
     cases bss with
     | nil=>simp at h2
     | cons b bss =>
       have h0:=hh 0 sp sp sp
       simp only [List.getElem_cons_zero] at h0
       rw [List.flatten_cons] at hag
       have hx:=hf x v b i h0 hag.left
       have hlen:b.length = (leaves x).length:=h0.leafs.length
       have hrest:=ih vs bss (i + (leaves x).length) (by simpa using h1) (by simpa using h2) (fun j a b c=>hh (j + 1) (by simpa using a) (by simpa using b) (by simpa using c)) (by rw [<- hlen];exact hag.right)
       refine ⟨by simp [zbl,hrest.1],fun j a b=>?_⟩
       cases j with
       | zero=>exact hx
       | succ j=>exact hrest.2 j (by simpa [zbl] using a) (by simpa using b)
theorem zpe [zae] (hl:Lasts w w E.bare E'.bare) (hB:E'.B <= E.B):zxW w E E' vr d (zbI vr d):=by
 intro rv v lv i h hag
 have own:∀ {v':Value} {m:Option Nat} {lvs:List (Value × Option Nat)},Agr E' vr d i ((v',m) :: lvs)->Rep w E' 0 (.own (zak d i) (vr (zak d i) + 1)) v':=fun hag=>by
  have:=hag 0 sp
  simp at this
  exact .own (by rw [this.1];exact Nat.le_refl _) fun _ _=>this.2.symm
 cases h with
 | im h=>exact zmv (h.mono hl (Nat.le_refl _)) (by simpa [Env.lo] using hB)
 | nil=>exact own hag
 | fr=>exact own hag
 | tbn=>exact own hag
 | tb=>exact own hag
 | ag=>exact .junk _
 | tup=>exact .junk _
theorem zy6 [zae] (hl:Lasts w w E.bare E'.bare) (hB:E'.B <= E.B):zxW w E E' vr d (zbO vr d):=by
 intro rv v lv i h hag
 have h0:=zpe (vr:=vr) (d:=d) hl hB
 cases h with
 | @im p _ h=>exact h0 (.im p) _ _ i (.im h) hag
 | @nil e sz=>exact h0 (.fr e sz []) _ _ i .nil hag
 | @fr e sz _ _ _ cells _ _ a b c k f g j=>exact h0 (.fr e sz cells) _ _ i (.fr a b c k f g j) hag
 | @tbn e e2=>exact h0 (.tb e e2 []) _ _ i .tbn hag
 | @tb e e2 _ _ _ rows _ _ _ a b c k f g j l m=>exact h0 (.tb e e2 rows) _ _ i (.tb a b c k f g j l m ‹_›) hag
 | ag e1 e2 hh=>have:=zgD h0 _ _ _ i e1 e2 hh hag;exact .ag this.1 this.2
 | tup e1 e2 hh=>have:=zgD h0 _ _ _ i e1 e2 hh hag;exact .tup this.1 this.2
theorem zpf [zae] (hl:Lasts w w E.bare E'.bare) (hB:E'.B <= E.B):zxW w E E' vr d (zaY vr d):=by
 intro rv v lv i h hag
 have h0:=zpe (vr:=vr) (d:=d) hl hB
 have h1:=zy6 (vr:=vr) (d:=d) hl hB
 cases h with
 | @im p _ h=>exact h0 (.im p) _ _ i (.im h) hag
 | @nil e sz=>exact h0 (.fr e sz []) _ _ i .nil hag
 | @fr e sz _ _ _ cells _ _ a b c k f g j=>exact h0 (.fr e sz cells) _ _ i (.fr a b c k f g j) hag
 | @tbn e e2=>exact h0 (.tb e e2 []) _ _ i .tbn hag
 | @tb e e2 _ _ _ rows _ _ _ a b c k f g j l m=>exact h0 (.tb e e2 rows) _ _ i (.tb a b c k f g j l m ‹_›) hag
 | ag e1 e2 hh=>have:=zgD h1 _ _ _ i e1 e2 hh hag;exact .ag this.1 this.2
 | tup e1 e2 hh=>have:=zgD h1 _ _ _ i e1 e2 hh hag;exact .tup this.1 this.2
end
theorem zpc {d i j:Nat} (h:zak d i = zak d j):i = j:=by unfold zak at h;omega
def zjf {α:Type} (f:Nat->α) (d:Nat):List α->Nat->Nat->α
 | [],_=>f
 | x :: xs,i=>zcR (zjf f d xs (i + 1)) (zak d i) x
theorem zcN [zae] {α:Type} (f:Nat->α) (d k:Nat):∀ (l:List α) (i:Nat),(∀ j,j < l.length->k ≠ zak d (i + j))->zjf f d l i k = f k:=by
 intro l
 induction l with
 | nil=>intro i _;rfl
 | cons x xs ih =>
   intro i h
   have h0:=h 0 sp
   rw [zjf,zam _ _ (by simpa using h0)]
   exact ih (i + 1) fun j hj=>by have:=h (j + 1) (by simpa using hj);rwa [show i + (j + 1) = i + 1 + j by omega] at this
theorem zdV [zae] {α:Type} (f:Nat->α) (d:Nat):∀ (l:List α) (i j:Nat) (h:j < l.length),zjf f d l i (zak d (i + j)) = l[j]:=by
 intro l
 induction l with
 | nil=>intro i j h;simp at h
 | cons x xs ih =>
   intro i j h
   cases j with
   | zero=>simp [zjf,zcR]
   | succ j =>
     rw [zjf,zam _ _ (fun e=>by have:=zpc e;omega)]
     have:=ih (i + 1) j (by simpa using h)
     rw [show i + (j + 1) = i + 1 + j by omega]
     exact this
def zbt (rw:Nat->Row) (d:Nat):List (TypeId × Option Nat × List PV)->Nat->List Row
 | [],_=>[]
 | (e,sz,c) :: ls,i=>⟨(rw (zak d i)).ver + 1,zbV rw d i e sz c⟩ :: zbt rw d ls (i + 1)
theorem zc7 (rw:Nat->Row) (d:Nat):∀ (ls:List (TypeId × Option Nat × List PV)) (i:Nat),zaw rw d ls i = zjf rw d (zbt rw d ls i) i:=by
 intro ls
 induction ls with
 | nil=>intro i;rfl
 | cons x xs ih=>intro i;obtain ⟨e,sz,c⟩:=x;simp only [zaw,zbt,zjf,ih]
theorem zbg (rw:Nat->Row) (d:Nat):∀ (ls:List (TypeId × Option Nat × List PV)) (i:Nat),(zbt rw d ls i).length = ls.length:=by
 intro ls
 induction ls with
 | nil=>intro i;rfl
 | cons x xs ih=>intro i;obtain ⟨e,sz,c⟩:=x;simp [zbt,ih]
theorem zdP [zae] (rw:Nat->Row) (d:Nat):∀ (ls:List (TypeId × Option Nat × List PV)) (i j:Nat) (h:j < ls.length) (h':j < (zbt rw d ls i).length),
 (zbt rw d ls i)[j] = ⟨(rw (zak d (i + j))).ver + 1,zbV rw d (i + j) ls[j].1 ls[j].2.1 ls[j].2.2⟩:=by
 intro ls
 induction ls with
 | nil=>intro i j h;simp at h
 | cons x xs ih =>
   intro i j h h'
   obtain ⟨e,sz,c⟩:=x
   cases j with
   | zero=>simp [zbt]
   | succ j =>
     have:=ih (i + 1) j (by simpa using h) (by rw [zbg];simpa using h)
     simp only [zbt,List.getElem_cons_succ]
     rw [this]
     rw [show i + (j + 1) = i + 1 + j by omega]
theorem LeafsAt.get {w:World} {E:Env} {a:List (TypeId × Option Nat × List PV)} {b:List (Value × Option Nat)} (h:LeafsAt w E a b):∀ i (p:i < a.length) (q:i < b.length),LeafAt w E a[i] b[i]:=by
 induction h with
 | nil=>intro i p;simp at p
 | cons h _ ih =>
   intro i p q
   cases i with
   | zero=>exact h
   | succ i=>exact ih i (by simpa using p) (by simpa using q)
theorem LeafAt.blk [zae] {w:World} {E:Env} {x:TypeId × Option Nat × List PV} {y:Value × Option Nat} (h:LeafAt w E x y):∀ b,y.2 = some b->E.B <= b/\b < w.heap.size:=by
 cases h with
 | nil=>intro b hb;cases hb
 | tbn=>intro b hb;cases hb
 | tb hB hh=>intro b hb;simp at hb;subst hb;exact ⟨hB,zfB hh⟩
 | fr hB hh=>intro b hb;simp at hb;subst hb;exact ⟨hB,zfB hh⟩
theorem zCQ {lv:List (Value × Option Nat)} (hn:(blk lv).Nodup) {i j b:Nat} (hi:i < lv.length) (hj:j < lv.length) (h1:lv[i].2 = some b) (h2:lv[j].2 = some b):i = j:=by
 induction lv generalizing i j with
 | nil=>simp at hi
 | cons x xs ih =>
   have mem:∀ k (hk:k < xs.length),xs[k].2 = some b->b ∈ blk xs:=fun k hk he=>by
    simp only [blk,List.mem_filterMap];exact ⟨_,List.getElem_mem hk,he⟩
   have hn':(blk xs).Nodup:=by
    unfold blk at hn ⊢
    cases hx:x.2 with
    | none=>rw [List.filterMap_cons_none hx] at hn;exact hn
    | some y=>rw [List.filterMap_cons_some hx] at hn;exact hn.of_cons
   have out:x.2 = some b->b ∉ blk xs:=fun hx=>by
    unfold blk at hn ⊢
    rw [List.filterMap_cons_some hx] at hn
    exact (List.nodup_cons.1 hn).1
   cases i with
   | zero =>
     cases j with
     | zero=>rfl
     | succ j=>exact absurd (mem j (by simpa using hj) h2) (out h1)
   | succ i =>
     cases j with
     | zero=>exact absurd (mem i (by simpa using hi) h1) (out h2)
     | succ j=>rw [ih hn' (by simpa using hi) (by simpa using hj) h1 h2]
section
variable {P:Program} {T:Tab} {G:Ghost} {s:St} {E:Env} {a:Act} {w w':World} {o:Oper}
def Env.adopt (E:Env) (d:Nat) (ls:List (TypeId × Option Nat × List PV)) (lv:List (Value × Option Nat)):Env :=
 { R:=zjf E.R d (zbt E.R d ls 0) 0,rm:=zjf E.rm d (lv.map (·.2)) 0,rv:=zjf E.rv d (lv.map (·.1)) 0,
   L:=mkL E.X (zjf E.R d (zbt E.R d ls 0) 0) (zjf E.rm d (lv.map (·.2)) 0),B:=E.B,X:=E.X }
theorem zy5 [zae] (hw:WOk G E w) (hx:Ext w w') {d:Nat} {ls:List (TypeId × Option Nat × List PV)} {lv:List (Value × Option Nat)} (hls:LeafsAt w' (Env.out w.heap.size (blk lv)) ls lv) (hlk:zfN w' ls lv) (hn:(blk lv).Nodup) :
 Turn G E (E.adopt d ls lv) w w' (fun k=>∃ j,j < ls.length/\k = zak d j) /\
  (∀ k,(∃ j,j < ls.length/\k = zak d j)->zav w' (E.adopt d ls lv) G.C k)/\Agr (E.adopt d ls lv) (fun k=>(E.R k).ver) d 0 lv:=by
 have hlen:=hls.length
 have atR:∀ j (h:j < ls.length),(E.adopt d ls lv).R (zak d j) = ⟨(E.R (zak d j)).ver + 1,zbV E.R d j ls[j].1 ls[j].2.1 ls[j].2.2⟩:=fun j h=>by
  have h':j < (zbt E.R d ls 0).length:=by rw [zbg];exact h
  have:=zdV E.R d (zbt E.R d ls 0) 0 j h'
  rw [Nat.zero_add] at this
  show zjf E.R d (zbt E.R d ls 0) 0 (zak d j) = _
  rw [this,zdP E.R d ls 0 j h h',Nat.zero_add]
 have atM:∀ j (h:j < ls.length) (h':j < lv.length),(E.adopt d ls lv).rm (zak d j) = lv[j].2:=fun j h h'=>by
  have:=zdV E.rm d (lv.map (·.2)) 0 j (by simpa using h')
  rw [Nat.zero_add] at this
  show zjf E.rm d (lv.map (·.2)) 0 (zak d j) = _
  rw [this];simp
 have atV:∀ j (h:j < ls.length) (h':j < lv.length),(E.adopt d ls lv).rv (zak d j) = lv[j].1:=fun j h h'=>by
  have:=zdV E.rv d (lv.map (·.1)) 0 j (by simpa using h')
  rw [Nat.zero_add] at this
  show zjf E.rv d (lv.map (·.1)) 0 (zak d j) = _
  rw [this];simp
 have off:∀ k,¬ (∃ j,j < ls.length/\k = zak d j)->(E.adopt d ls lv).R k = E.R k/\(E.adopt d ls lv).rm k = E.rm k/\(E.adopt d ls lv).rv k = E.rv k:=fun k hk=>by
  refine ⟨zcN _ d k _ 0 fun j hj e=>hk ⟨j,by rwa [zbg] at hj,by simpa using e⟩,zcN _ d k _ 0 fun j hj e=>hk ⟨j,by simp at hj;omega,by simpa using e⟩,zcN _ d k _ 0 fun j hj e=>hk ⟨j,by simp at hj;omega,by simpa using e⟩⟩
 have hturn:Turn G E (E.adopt d ls lv) w w' (fun k=>∃ j,j < ls.length/\k = zak d j):=by
  refine ⟨rfl,rfl,rfl,off,fun b hb _=>hx.block b hb,?_,?_,?_,?_,?_,?_,hx.size,hx.os,hx.tape,hx.output⟩
  ·rintro k b ⟨j,hj,rfl⟩ hb _
   rw [atM j hj om] at hb
   exact .inl ((hls.get j hj om).blk b hb).1
  ·rintro k ⟨j,hj,rfl⟩;rw [atR j hj];exact Nat.le_succ _
  ·rintro k ⟨j,hj,rfl⟩ h;rw [atR j hj] at h;simp at h
  ·rintro k ⟨j,hj,rfl⟩ h;rw [atR j hj] at h;simp at h
  ·rintro k ⟨j,hj,rfl⟩ _;rw [atR j hj];exact Nat.succ_pos _
  ·rintro k k' b ⟨j,hj,rfl⟩ ⟨j',hj',rfl⟩ _ _ h1 h2
   rw [atM j hj om] at h1
   rw [atM j' hj' om] at h2
   rw [zCQ hn om om h1 h2]
 have hl:=hturn.lasts hw
 refine ⟨hturn,?_,fun j hj=>?_⟩
 ·rintro k ⟨j,hj,rfl⟩
  have hleaf:=hls.get j hj om
  unfold zav
  rw [atR j hj,atM j hj om,atV j hj om]
  have hbare:Lasts w' w' (Env.out w.heap.size (blk lv)).bare (E.adopt d ls lv).bare:=by
   refine ⟨fun b hb hL=>⟨rfl,fun hL'=>?_⟩,fun _=>Nat.le_refl _,fun _ _ h=>absurd h (by simp [Env.bare,RK.slice]),fun _ _ h=>absurd h (by simp [Env.bare,RK.nd]),Nat.le_refl _⟩
   rcases hL' with ⟨k,hk,hlv⟩ | hX
   rotate_left
   ·exact hL (.inl (by have:=hw.fx.low b (by rw [<- hw.xs];exact hX);have:=hw.kept.size;omega))
   have hnot:¬ (b < w.heap.size \/ b ∈ blk lv):=hL
   by_cases hD:∃ j,j < ls.length/\k = zak d j
   ·obtain ⟨j',hj',rfl⟩:=hD
    have hk':(E.adopt d ls lv).rm (zak d j') = some b:=hk
    rw [atM j' hj' om] at hk'
    refine hnot (.inr ?_)
    simp only [blk,List.mem_filterMap]
    exact ⟨_,List.getElem_mem om,hk'⟩
   ·obtain ⟨e1,e2,_⟩:=off k hD
    have hk':(E.adopt d ls lv).rm k = some b:=hk
    have hlv':((E.adopt d ls lv).R k).kind.live = true:=hlv
    rw [e2] at hk';rw [e1] at hlv'
    exact hnot (.inl (hw.block hk' (RK.nd_of_live hlv')).1)
  generalize hx1:ls[j] = lx at hleaf
  generalize hy1:lv[j] = ly at hleaf
  cases hleaf with
  | nil=>exact .inl ⟨rfl,rfl,rfl⟩
  | tbn=>exact .inl ⟨rfl,rfl,by simp [zaX]⟩
  | @tb e b n cap cells vs rest hB hh hnn hc hm hll hr =>
    have hlink:=hlk j e cells b n cap (by rw [List.getElem?_eq_getElem hj,hx1]) (by rw [List.getElem?_eq_getElem om,hy1]) vs rest hh hnn
    refine .inr ⟨b,n,cap,vs,rest,rfl,.inl (Nat.le_trans hw.kept.size hB),rfl,hh,hnn,hc,hm,hll,by simp [zaX,hr,hnn],fun i a b'=>?_⟩
    have hi:i < cells.length:=by simpa [zaX] using a
    have h0:=hlink i b'
    have hlt:j + 1 + i < lv.length:=by
     cases hq:lv[j + 1 + i]? with
     | none=>rw [hq] at h0;cases h0
     | some x=>exact (List.getElem?_eq_some_iff.1 hq).1
    rw [List.getElem?_eq_getElem hlt] at h0
    have h0:lv[j + 1 + i].1 = vs[i]:=by simpa using h0
    show Rep w' (E.adopt d ls lv) 0 (zaX E.R d j cells.length)[i] vs[i]
    simp only [zaX,List.getElem_map,List.getElem_range]
    refine .own ?_ fun _ _=>?_
    ·rw [atR (j + 1 + i) om];exact Nat.le_refl _
    ·rw [atV (j + 1 + i) om hlt,h0]
  | @fr e sz b n cap cells vs rest hB hh hnn hc hm hll hr =>
    refine .inr ⟨b,n,cap,vs,rest,rfl,.inl ?_,rfl,hh,hnn,hc,hm,hll,hr.mono hbare ?_⟩
    ·exact Nat.le_trans hw.kept.size hB
    ·show E.B <= w.heap.size
     rw [hw.base];exact hw.kept.size
 ·rw [Nat.zero_add]
  have hj':j < ls.length:=om
  rw [atR j hj',atV j hj' hj]
  exact ⟨rfl,rfl⟩
theorem zpd [zae] {c:Call} {f:Operand} {d:Nat} {K:St->Prop} (ho:o.op = .call c) (hc:c.callee = .value f) (hdst:o.dst = some d) (hd:d < G.n)
 (hk:ze8 P s.rw s.ev f c.args fun rv=>K (zal s d rv)):∃ s',K s'/\za9 P G s o s':=by
 obtain ⟨rv,hk,h⟩:=zCS (G:=G) ho hc hk
 refine ⟨_,hk,fun a w hs K' Q hK=>?_⟩
 obtain ⟨E,hs⟩:=hs
 refine h E a w hs.rw hs.wok (fun x _=>zaB hs.slots x) K' Q fun v w' lv hx hout hn=>?_
 obtain ⟨hturn,hrows,hag⟩:=zy5 (d:=d) hs.wok hx hout.leafs hout.links hn
 have hsim:=hturn.sim hs hrows
 have hE:(E.adopt d (leaves rv) lv).R = zaw s.rw d (leaves rv) 0:=by
  rw [zc7,<- hs.rw];rfl
 rw [hdst]
 refine hK _ _ ⟨E.adopt d (leaves rv) lv,?_⟩
 have hbare:Lasts w' w' (Env.out w.heap.size (blk lv)).bare (E.adopt d (leaves rv) lv).bare:=by
  refine ⟨fun b hb hL=>⟨rfl,fun hL'=>?_⟩,fun _=>Nat.le_refl _,fun _ _ h=>absurd h (by simp [Env.bare,RK.slice]),fun _ _ h=>absurd h (by simp [Env.bare,RK.nd]),Nat.le_refl _⟩
  rcases hL' with ⟨k,hk,hlv⟩ | hX
  rotate_left
  ·exact hL (.inl (by have:=hs.wok.fx.low b (by rw [<- hs.wok.xs];exact hX);have:=hs.wok.kept.size;omega))
  have hnot:¬ (b < w.heap.size \/ b ∈ blk lv):=hL
  have hwok':=hturn.wok hs.wok hrows
  by_cases hD:∃ j,j < (leaves rv).length/\k = zak d j
  ·obtain ⟨j',hj',rfl⟩:=hD
   have hk':(E.adopt d (leaves rv) lv).rm (zak d j') = some b:=hk
   have hjl:j' < lv.length:=by rw [hout.leafs.length];exact hj'
   have:=zdV E.rm d (lv.map (·.2)) 0 j' (by simpa using hjl)
   rw [Nat.zero_add] at this
   have e:(E.adopt d (leaves rv) lv).rm (zak d j') = lv[j'].2:=by
    show zjf E.rm d (lv.map (·.2)) 0 (zak d j') = _
    rw [this];simp
   rw [e] at hk'
   refine hnot (.inr ?_)
   simp only [blk,List.mem_filterMap]
   exact ⟨_,List.getElem_mem hjl,hk'⟩
  ·obtain ⟨e1,e2,_⟩:=hturn.keep k hD
   have hk':(E.adopt d (leaves rv) lv).rm k = some b:=hk
   have hlv':((E.adopt d (leaves rv) lv).R k).kind.live = true:=hlv
   rw [e2] at hk';rw [e1] at hlv'
   exact hnot (.inl (hs.wok.block hk' (RK.nd_of_live hlv')).1)
 have hrep:Rep w' (E.adopt d (leaves rv) lv) 0 (zaY (fun k=>(s.rw k).ver) d rv 0) v:=by
  rw [hs.rw] at hag
  exact zpf hbare (by show E.B <= w.heap.size;rw [hs.wok.base];exact hs.wok.kept.size) rv v lv 0 hout hag
 have:=hsim.put (d:=some d) (by simp [hd]) hrep
 rw [hE] at this
 exact this
end
section
variable {P:Program} {T:Tab} {G:Ghost} {s:St} {E:Env} {a:Act} {w w':World} {o:Oper}
theorem zCO [zae] {d:Nat} {t:TypeId} {x:Operand} {K:St->Prop} (ho:o.op = .box t x) (hdst:o.dst = some d) (hd:d < G.n)
 (hk:za5 s.rw (s.ev x) fun c=>K (zcX s d (.box t c) fun v=>.ref d v 0)):∃ s',K s'/\za9 P G s o s':=by
 have hdet:∃ new,za5 s.rw (s.ev x) (· = new)/\K (zcX s d (.box t new) fun v=>.ref d v 0):=by
  unfold za5 at hk ⊢
  split at hk <;> first
   | exact ⟨_,rfl,hk⟩
   | exact ⟨_,⟨hk.1,rfl⟩,hk.2⟩
   | exact ⟨_,⟨hk.1,hk.2.1,rfl⟩,hk.2.2⟩
   | exact hk.elim
 obtain ⟨new,hc,hk⟩:=hdet
 refine ⟨_,hk,fun a w hs K' Q hK=>?_⟩
 obtain ⟨E,hs⟩:=hs
 obtain ⟨c',rfl,hrep,_⟩:=zeh hc hs.rw hs.wok (zaB hs.slots x)
 refine zCR hs hdst hd hrep ?_ hK
 simp [execOp,ho,Instr.box,newVar,newRow]
theorem zuN [zae] (hT:T.Ok P) {d:Nat} {t:TypeId} {K:St->Prop} (ho:o.op = .alloc t) (hdst:o.dst = some d) (hd:d < G.n)
 (hk:0 < (T t).size/\K (zcX s d (.box t ((T t).zero.map PV.v)) fun v=>.ref d v 0)):∃ s',K s'/\za9 P G s o s':=by
 obtain ⟨hs,hk⟩:=hk
 obtain ⟨i,z,h1,h2,h3,h4,h5⟩:=(hT t hs).info
 refine ⟨_,hk,fun a w hs K' Q hK=>?_⟩
 obtain ⟨E,hs⟩:=hs
 refine zCR (vs:=(T t).zero) hs hdst hd ⟨sp,fun i p q=>by simp;exact .v _⟩ ?_ hK
 have e:(T t).zero.toArray = z.cells:=by rw [<- h5]
 simp [execOp,ho,Instr.alloc,zeroValue,typeInfo,h1,h4,newVar,newRow,e]
theorem zCP [zae] {d:Nat} {c:Value} {kd:RK} (hkd:kd = .nil \/ ∃ e sz,kd = .sli e sz false []) {K:St->Prop} (ho:o.op = .assign (.const c)) (hdst:o.dst = some d) (hd:d < G.n) (hn:zey c = true)
 (hk:K (zcX s d kd fun v=>.own d v)):∃ s',K s'/\za9 P G s o s':=by
 refine ⟨_,hk,fun a w hs K' Q hK=>?_⟩
 obtain ⟨E,hs⟩:=hs
 refine zIO hkd hs hdst hd (Ext.refl w) ?_ hK
 simp [execOp,ho,Act.eval,zfa hn]
theorem zy4 [zae] (hT:T.Ok P) {d:Nat} {t e:TypeId} {l c:Operand} {kl kc:IntKind} {nl nc:Int} {z:Value} {K:St->Prop} (ho:o.op = .makeSlice t l c) (hdst:o.dst = some d) (hd:d < G.n)
 (ht:0 < (T t).size) (hte:(T t).k = .sli e) (hl:s.ev l = .v (.int kl nl)) (hc:s.ev c = .v (.int kc nc)) (he:(T e).size = 1) (hz:(T e).zero = [z]) (h0:0 <= nl) (h1:nl <= nc) (hb:((T e).bytes:Int) * nc <= 281474976710656)
 (h63:nc <= 9223372036854775807) (hk:K (zcX s d (.sli e 1 false (List.replicate nl.toNat (.v z))) fun v=>.own d v)):∃ s',K s'/\za9 P G s o s':=by
 have hu:P.underlying t = some (.slice e):=by have:=(hT t ht).k;rw [hte] at this;exact this
 obtain ⟨i,zz,hi,hsz,hby,hz',hzl⟩:=(hT e om).info
 refine ⟨_,hk,fun a w hs K' Q hK=>?_⟩
 obtain ⟨E,hs⟩:=hs
 have el:=zaB hs.slots l
 have ec:=zaB hs.slots c
 rw [hl] at el;rw [hc] at ec
 have hrun:=run_make (P:=P) w t e i zz hu hi hz' kl kc nl nc h0 h1 (by rw [hby];exact hb) h63
 have hzc:zz.cells = #[z]:=by apply Array.toList_inj.1;rw [hzl,hz]
 have hmade:madeCells zz.cells (nc.toNat * i.size) = (List.replicate nl.toNat z ++ List.replicate (nc.toNat - nl.toNat) z).toArray:=by
  rw [List.replicate_append_replicate,hsz,he,Nat.mul_one,show nl.toNat + (nc.toNat - nl.toNat) = nc.toNat by omega]
  unfold madeCells
  apply Array.ext sp
  intro j h1 h2
  simp [hzc,Nat.mod_one]
 rw [hmade] at hrun
 refine zIN (vs:=List.replicate nl.toNat z) (rest:=List.replicate (nc.toNat - nl.toNat) z) (n:=nl.toNat) (cap:=nc.toNat) (sz:=1) (e:=e) hs hdst hd ⟨sp,fun j p q=>by simp;exact .v _⟩ sp om (by simp [maxLen];omega) (by simp;omega) (Ext.alloc _ _) (heap_alloc_new w _) ?_ hK
 simp [execOp,ho,el.v_eq,ec.v_eq,hrun]
theorem ztl:∀ (l:List Value) (n off:Nat) (arr:Array Value),off + n + l.length <= arr.size ->
 ((l.zipIdx n).foldl (fun cs (x:Value × Nat)=>cs.setIfInBounds (off + x.2) x.1) arr).toList = arr.toList.take (off + n) ++ l ++ arr.toList.drop (off + n + l.length):=by
 intro l
 induction l with
 | nil=>intro n off arr h;simp
 | cons x xs ih =>
   intro n off arr h
   simp only [List.zipIdx_cons,List.foldl_cons]
   rw [ih (n + 1) off _ (by simp at h ⊢;omega)]
   have e:=list_seg_step arr.toList (off + n) x xs (by simp at h ⊢;omega)
   simpa [Array.toList_setIfInBounds,Nat.add_assoc] using e
def zqq:Nat->List (Nat × Operand)->Bool
 | _,[]=>true
 | k,(i,_) :: r=>(i == k) && zqq (k + 1) r
theorem zIM [zae] (sz:Nat):∀ (vs:List Value) (ps:List (Nat × Value)) (k:Nat) (cells:Array Value),ps.map (·.2) = vs->(∀ j (h:j < ps.length),ps[j].1 = k + j)->(∀ v ∈ vs,v.cells.size = sz)->(k + vs.length) * sz <= cells.size ->
 ∃ out,Instr.fill (fun i=>some (i * sz,sz)) cells ps = some out/\out.toList = cells.toList.take (k * sz) ++ (vs.map (·.cells.toList)).flatten ++ cells.toList.drop ((k + vs.length) * sz):=by
 intro vs
 induction vs with
 | nil =>
   intro ps k cells h1 _ _ _
   have:ps = []:=by simpa using h1
   subst this
   exact ⟨cells,rfl,sp⟩
 | cons v vs ih =>
   intro ps k cells h1 h2 h3 h4
   cases ps with
   | nil=>simp at h1
   | cons p ps =>
     obtain ⟨i,u⟩:=p
     simp only [List.map_cons,List.cons.injEq] at h1
     obtain ⟨rfl,h1⟩:=h1
     have hi:i = k:=(h2 0 sp:i = k + 0)
     subst hi
     have hv:=h3 u sp
     have hle:(i + (vs.length + 1)) * sz <= cells.size:=h4
     have hmul:(i + (vs.length + 1)) * sz = i * sz + sz + vs.length * sz:=by rw [Nat.add_mul,Nat.add_mul];omega
     have hset:=ztl u.cells.toList 0 (i * sz) cells (by simp [hv];omega)
     have hfold:(u.cells.zipIdx.foldl (fun cs (x:Value × Nat)=>cs.setIfInBounds (i * sz + x.2) x.1) cells) = (u.cells.toList.zipIdx.foldl (fun cs (x:Value × Nat)=>cs.setIfInBounds (i * sz + x.2) x.1) cells):=by
      rw [<- Array.foldl_toList,Array.toList_zipIdx]
     obtain ⟨out,hf,ho⟩:=ih ps (i + 1) (u.cells.toList.zipIdx.foldl (fun cs (x:Value × Nat)=>cs.setIfInBounds (i * sz + x.2) x.1) cells) h1
      (fun j h=>by have h3:ps[j].1 = i + (j + 1):=h2 (j + 1) (by simpa using h);omega) (fun v hv=>h3 v (by simp [hv])) (by
       rw [<- Array.length_toList,hset]
       simp [hv,Nat.add_mul] at hle ⊢;omega)
     refine ⟨out,?_,?_⟩
     ·simp only [Instr.fill]
      rw [if_neg (by simp [hv];omega)]
      rw [hfold]
      exact hf
     ·rw [ho,hset]
      have hul:u.cells.toList.length = sz:=by simpa using hv
      have e1:(i + 1) * sz = i * sz + sz:=by rw [Nat.add_mul,Nat.one_mul]
      have e2:(i + 1 + vs.length) * sz = i * sz + sz + vs.length * sz:=by rw [Nat.add_mul,Nat.add_mul,Nat.one_mul]
      have hl1:(cells.toList.take (i * sz)).length = i * sz:=by simp;omega
      rw [e1,e2,List.length_cons,hmul,Nat.add_zero,hul]
      have t1:(cells.toList.take (i * sz) ++ u.cells.toList ++ cells.toList.drop (i * sz + sz)).take (i * sz + sz) = cells.toList.take (i * sz) ++ u.cells.toList:=by
       rw [List.take_append_of_le_length (by simp [hul,hl1]),List.take_of_length_le (by simp [hul];omega)]
      have t2:(cells.toList.take (i * sz) ++ u.cells.toList ++ cells.toList.drop (i * sz + sz)).drop (i * sz + sz + vs.length * sz) = cells.toList.drop (i * sz + sz + vs.length * sz):=by
       rw [List.drop_append,List.drop_of_length_le (by simp [hul];omega),List.nil_append,List.drop_drop]
       congr 1
       simp [hul];omega
      rw [t1,t2]
      simp [List.append_assoc]
end
set_option linter.unusedVariables false
def zKq (T:Tab) (s:St) (t:TypeId) (m x y:PV) (K:St->Prop):Prop :=
 match m,x,y with
 | .own k ver,.v (.int .u64 a),.v (.int .i64 v)=>(s.rw k).ver = ver/\(match (s.rw k).kind with | .mp f=>zHJ T t/\K (s.row k ⟨ver,.mp (ztv f a v)⟩) | _=>False)
 | _,_,_=>False
section
variable {P:Program} {T:Tab} {G:Ghost} {s:St} {o:Oper}
theorem zqw [zae] {d:Nat} {t:TypeId} {K:St->Prop} (ho:o.op = .makeMap t none) (hdst:o.dst = some d) (hd:d < G.n) (hk:K (zcX s d (.mp fun _=>0) fun v=>.own d v)):∃ s',K s'/\za9 P G s o s':=by
 refine ⟨_,hk,fun a w hs K' Q hK=>?_⟩
 obtain ⟨E,hs⟩:=hs
 have hx:Ext w (w.alloc (.map #[] 0)):=Ext.alloc _ _
 have ht:=zgG (G:=G) (E:=E) (k:=d) (kd:=.mp fun _=>0) (m:=some w.heap.size) (v:=.map (some w.heap.size)) hx sp
 refine zeO (E':=E.row d _ _ _) (p:=.own d ((s.rw d).ver + 1)) (v:=.map (some w.heap.size)) (w':=w.alloc (.map #[] 0)) hs ?_ ht (fun k hk=>?_) ?_ (by simp [hdst,hd]) (fun a' w' h=>hK a' w' ?_)
 ·have hm:(Instr.makeMap t none).run P w = .ok (.map (some w.heap.size)) (w.alloc (.map #[] 0)):=rfl
  simp [execOp,ho,hm]
 ·subst hk
  unfold zav
  simp only [Env.row,zaf]
  exact ⟨w.heap.size,#[],0,rfl,.inl hs.wok.kept.size,rfl,heap_alloc_new w _,fun e he=>by simp at he,fun a=>rfl⟩
 ·refine .own (by simp [Env.row,zaf,hs.rw]) fun _ _=>by simp [Env.row,zaf]
 ·have e':(E.row d ⟨(E.R d).ver + 1,.mp fun _=>0⟩ (some w.heap.size) (.map (some w.heap.size))).R = (s.row d ⟨(s.rw d).ver + 1,.mp fun _=>0⟩).rw:=by
   simp only [Env.row,hs.rw];rfl
  rw [e',hdst] at h
  exact h
theorem zC5 [zae] (hT:T.Ok P) {t:TypeId} {m x y:Operand} {K:St->Prop} (ho:o.op = .mapUpdate t m x y) (hdst:o.dst = none) (hk:zKq T s t (s.ev m) (s.ev x) (s.ev y) K):∃ s',K s'/\za9 P G s o s':=by
 unfold zKq at hk
 split at hk
 ·rename_i k ver a v hm hx hy
  obtain ⟨hver,hk⟩:=hk
  split at hk
  ·rename_i f hkd
   obtain ⟨hmt,hk⟩:=hk
   obtain ⟨kt,e,u1,u2,_⟩:=zpm hT hmt
   refine ⟨_,hk,fun ac w hs K' Q hK=>?_⟩
   obtain ⟨E,hs⟩:=hs
   have hR:=hs.rw
   have hrw:=hs.wok
   have e1:=zaB hs.slots m
   have e2:=zaB hs.slots x
   have e3:=zaB hs.slots y
   rw [hm] at e1;rw [hx] at e2;rw [hy] at e3
   have hkd':(E.R k).kind = .mp f:=by rw [hR];exact hkd
   have hver':(E.R k).ver = ver:=by rw [hR];exact hver
   have hrow:=hrw.rows k
   unfold zav at hrow
   simp only [hkd'] at hrow
   obtain ⟨b,es,ck,h1,h2,h3,h4,h5⟩:=hrow
   obtain ⟨es',ck',hrun,hok⟩:=zqu (P:=P) (w:=w) u1 u2 h4 h5 a v
   have hvm:ac.eval m = .map (some b):=by
    generalize ac.eval m = vm at e1
    cases e1 with
    | own hv hx=>rw [hx hver' (by rw [hkd'];rfl),h3]
   have hb:=zfB h4
   have hturn:OneTurn E w (ChangeMaps.setBlock w b (.map es' ck')) k ⟨ver,.mp (ztv f a v)⟩ (E.rm k) (E.rv k) :=
    ⟨fun b' hb' hne=>ChangeMaps.heap_setBlock_other h4 _ (fun e=>by
     subst e
     have:=hne h1
     rw [hkd'] at this;cases this),
     fun b' hb' _=>.inr ⟨hb',by rw [hkd'];rfl,fun _=>by rw [hkd'];rfl⟩,by rw [hver'];exact Nat.le_refl _,
     fun _ _=>⟨by rw [hkd'];rfl,rfl⟩,fun _ _=>⟨by rw [hkd'];rfl,rfl⟩,fun _=>by show 0 < ver;rw [<- hver'];exact hrw.pos k (by rw [hkd'];rfl),by simp [ChangeMaps.setBlock],rfl,rfl,⟨rfl,fun _=>Nat.le_refl _⟩⟩
   refine zdH (fz:=[]) hs ?_ hturn sp (fun hl=>?_) hdst (fun a' w' h=>hK a' w' ?_)
   ·simp [execOp,ho,hvm,e2.v_eq,e3.v_eq,hrun]
   ·unfold zav
    simp only [Env.turn,zaf]
    exact ⟨b,es',ck',h1,h2,h3,ChangeMaps.heap_setBlock_same h4 _,hok⟩
   ·rw [St.freeze_nil] at h;exact h
  ·exact hk.elim
 ·exact hk.elim
end
def znJ (rw:Nat->Row) (es:Nat):List PV->(List PV->List Nat->Prop)->Prop
 | [],K=>K [] []
 | p :: ps,K=>zds rw p fun c f=>c.length = es/\znJ rw es ps fun cs fs=>K (c ++ cs) (f ++ fs)
theorem zCK {rw:Nat->Row} {p:PV} {K:List PV->List Nat->Prop} (hk:zds rw p K):∃ c f,K c f/\zds rw p (fun a b=>a = c/\b = f):=by
 unfold zds at hk ⊢
 split at hk
 ·exact ⟨_,_,hk.2,hk.1,rfl,rfl⟩
 ·exact ⟨_,_,hk.2,hk.1,rfl,rfl⟩
 ·obtain ⟨q1,q2,hk⟩:=hk
  split at hk
  ·exact ⟨_,_,hk,q1,q2,rfl,rfl⟩
  ·exact ⟨_,_,hk,q1,q2,rfl,rfl⟩
  ·exact hk.elim
 ·exact ⟨_,_,hk.2,hk.1,rfl,rfl⟩
 ·exact hk.elim
inductive PureR (rw:Nat->Row) (es:Nat):List PV->List PV->List Nat->Prop
 | nil:PureR rw es [] [] []
 | cons {p:PV} {ps c cs:List PV} {f fs:List Nat} (h:zds rw p (fun a b=>a = c/\b = f)) (hl:c.length = es) (hs:PureR rw es ps cs fs):PureR rw es (p :: ps) (c ++ cs) (f ++ fs)
theorem zCL [zae] {rw:Nat->Row} {es:Nat}:∀ {ps:List PV} {K:List PV->List Nat->Prop},znJ rw es ps K->∃ c f,K c f/\PureR rw es ps c f:=by
 intro ps
 induction ps with
 | nil=>intro K h;exact ⟨_,_,h,.nil⟩
 | cons p ps ih =>
   intro K h
   obtain ⟨c,f,⟨hl,h⟩,hp⟩:=zCK h
   obtain ⟨cs,fs,h,hs⟩:=ih h
   exact ⟨_,_,h,.cons hp hl hs⟩
theorem PureR.sound [zae] {G:Ghost} {w:World} {E:Env} (hw:WOk G E w) {es:Nat} {ps c:List PV} {f:List Nat} (h:PureR E.R es ps c f):∀ {us:List Value},zbu w E 0 ps us ->
 c.length = ps.length * es/\(∀ u ∈ us,u.cells.size = es)/\(∀ j ∈ f,j < lent/\∃ e sz fz cc,(E.R j).kind = .sli e sz fz cc) /\
  ∀ (w':World) (E':Env),Lasts w w' E E'->E'.B = E.B->(∀ j ∈ f,∀ b,E.rm j = some b->w'.heap[b]? = w.heap[b]?/\¬ E'.L b)->zbu w' E'.bare E'.B c (us.map (·.cells.toList)).flatten:=by
 induction h with
 | nil =>
   intro us hr
   have:us = []:=List.eq_nil_of_length_eq_zero hr.1.symm
   subst this
   exact ⟨sp,sp,sp,fun _ _ _ _ _=>⟨rfl,fun i a=>absurd a sp⟩⟩
 | cons hp hl hs ih =>
   intro us hr
   cases us with
   | nil=>simp [zbu] at hr
   | cons u us =>
     have h0:Rep w E 0 _ u:=hr.2 0 sp sp
     obtain ⟨c',f',⟨rfl,rfl⟩,hlen,h1,hfz,hrep⟩:=zmo hp rfl hw h0
     obtain ⟨g1,g2,g3,g4⟩:=ih (us:=us) ⟨by simpa using hr.1,fun i a b=>hr.2 (i + 1) (by simpa using a) (by simpa using b)⟩
     refine ⟨by simp [g1,hl,Nat.add_mul];omega,fun v hv=>?_,fun j hj=>?_,fun w' E' hla hB hf=>?_⟩
     ·rcases List.mem_cons.1 hv with rfl | hv
      ·omega
      ·exact g2 v hv
     ·rcases List.mem_append.1 hj with hj | hj
      ·exact hfz j hj
      ·exact g3 j hj
     ·simp only [List.map_cons,List.flatten_cons]
      exact (hrep w' E' hla hB fun j hj=>hf j (List.mem_append.2 (.inl hj))).append (g4 w' E' hla hB fun j hj=>hf j (List.mem_append.2 (.inr hj)))
def zCM (T:Tab) (s:St) (d:Nat) (t:TypeId) (n:Nat) (parts:Array (Nat × Operand)) (K:St->Prop):Prop :=
 0 < (T t).size/\match (T t).k with
 | .sli e=>0 < (T e).size/\n = parts.size/\zqq 0 parts.toList = true/\n * (T e).size <= 16777216 /\
  znJ s.rw (T e).size (parts.toList.map fun x=>s.ev x.2) fun c f=>d ∉ f/\K (((s.freeze f).row d ⟨(s.rw d).ver + 1,.sli e (T e).size false c⟩).put (some d) (.own d ((s.rw d).ver + 1)))
 | _=>False
theorem zCN:∀ (l:List (Nat × Operand)) (k:Nat),zqq k l = true->∀ j (h:j < l.length),l[j].1 = k + j:=by
 intro l
 induction l with
 | nil=>intro k _ j h;simp at h
 | cons x xs ih =>
   intro k hk j h
   obtain ⟨i,y⟩:=x
   simp only [zqq,Bool.and_eq_true,beq_iff_eq] at hk
   cases j with
   | zero=>exact hk.1
   | succ j =>
     have hj:j < xs.length:=by simpa using h
     have:=ih (k + 1) hk.2 j hj
     show xs[j].1 = k + (j + 1)
     omega
section
variable {P:Program} {T:Tab} {G:Ghost} {s:St} {E:Env} {a:Act} {w w':World} {o:Oper}
theorem zuM [zae] (hT:T.Ok P) {d:Nat} {t:TypeId} {n:Nat} {parts:Array (Nat × Operand)} {K:St->Prop} (ho:o.op = .buildSlice t n parts) (hdst:o.dst = some d) (hd:d < G.n)
 (hk:zCM T s d t n parts K):∃ s',K s'/\za9 P G s o s':=by
 obtain ⟨ht,hk⟩:=hk
 split at hk
 ·rename_i e hte
  obtain ⟨he,rfl,hidx,hbig,hk⟩:=hk
  have hu:P.underlying t = some (.slice e):=by have:=(hT t ht).k;rw [hte] at this;exact this
  obtain ⟨i,zz,hi,hsz,hby,hz',hzl⟩:=(hT e he).info
  have hzs:zz.cells.size = (T e).size:=by rw [<- Array.length_toList,hzl];exact (hT e he).zlen
  obtain ⟨c,f,⟨hdf,hk⟩,hpure⟩:=zCL hk
  refine ⟨_,hk,fun a w hs K' Q hK=>?_⟩
  obtain ⟨E,hs⟩:=hs
  rw [<- hs.rw] at hpure
  have hreps:zbu w E 0 (parts.toList.map fun x=>s.ev x.2) (parts.toList.map fun x=>a.eval x.2):=zbu.map fun x _=>zaB hs.slots x.2
  obtain ⟨hcl,hus,hfz,hrep⟩:=hpure.sound hs.wok hreps
  let us:List Value:=parts.toList.map fun x=>a.eval x.2
  have hrun:(execOp a.eval o).run P w = .ok (.value (.slice (some ⟨w.heap.size,0,none⟩) parts.size parts.size)) (w.alloc (.cells ((us.map fun u:Value=>u.cells.toList).flatten ++ []).toArray e)):=by
   rw [List.append_nil]
   have hnb:¬ (16777216 < parts.size * i.size):=by rw [hsz];omega
   have hparts:(parts.map fun x=>(x.1,a.eval x.2)).toList = parts.toList.map fun x=>(x.1,a.eval x.2):=sp
   have hfillz:∀ zc:Array Value,Instr.fill (fun j=>some (j * i.size,i.size)) ((Array.range (parts.size * i.size)).map (zc[· % zc.size]!)) (parts.toList.map fun x=>(x.1,a.eval x.2)) = some ((us.map fun u:Value=>u.cells.toList).flatten.toArray):=by
    intro zc
    obtain ⟨out,hfill,hout⟩:=zIM (T e).size us (parts.toList.map fun x=>(x.1,a.eval x.2)) 0 ((Array.range (parts.size * i.size)).map (zc[· % zc.size]!))
     (by simp [us]) (fun j h=>by
      have hj:j < parts.toList.length:=by simpa using h
      have:=zCN parts.toList 0 hidx j hj
      simpa using this) (fun v hv=>hus v hv) (by simp [us,hsz])
    have hflat:out.toList = (us.map fun u:Value=>u.cells.toList).flatten:=by
     rw [hout];simp [us,hsz]
    simp only [hsz] at hfill ⊢
    rw [hfill,<- hflat]
   by_cases h0:parts.size * i.size = 0
   ·have:=hfillz #[]
    simp [execOp,ho,Instr.buildSlice,run_underlying hu,sizeOf,typeInfo,hi,hnb,h0,hparts,newRow] at this ⊢
    simp [this]
   ·have:=hfillz zz.cells
    simp [execOp,ho,Instr.buildSlice,run_underlying hu,sizeOf,typeInfo,zeroValue,hi,hz',hnb,h0,hparts,newRow,this]
  have hnew:∀ (o':Obj),(w.alloc o').heap[w.heap.size]? = some o':=fun o'=>heap_alloc_new w o'
  have hlen:(us.map fun u:Value=>u.cells.toList).flatten.length = parts.size * (T e).size:=by
   have h1:∀ (l:List Value),(∀ u ∈ l,u.cells.size = (T e).size)->(l.map fun u:Value=>u.cells.toList).flatten.length = l.length * (T e).size:=by
    intro l
    induction l with
    | nil=>intro _;simp
    | cons x xs ih =>
      intro h
      have:=ih fun u hu=>h u (by simp [hu])
      simp only [List.map_cons,List.flatten_cons,List.length_append,this,List.length_cons,Nat.add_mul,Nat.one_mul,Array.length_toList,h x sp]
      omega
   rw [h1 us hus];simp [us]
  have hturn:OneTurn E w (w.alloc (.cells ((us.map fun u:Value=>u.cells.toList).flatten ++ []).toArray e)) d ⟨(s.rw d).ver + 1,.sli e (T e).size false c⟩ (some w.heap.size) (.slice (some ⟨w.heap.size,0,none⟩) parts.size parts.size) :=
   ⟨fun b hb _=>(Ext.alloc w _).block b hb,fun b hb _=>.inl (by simp at hb;omega),by rw [hs.rw];exact Nat.le_succ _,fun h=>by rw [hs.rw] at h;simp at h,fun h=>by rw [hs.rw] at h;simp at h,fun _=>Nat.succ_pos _,sp,rfl,rfl,⟨rfl,fun _=>by first | exact Nat.le_refl _ | exact Nat.le_succ _⟩⟩
  have hne:∀ j ∈ f,j ≠ d:=fun j hj e=>hdf (e ▸ hj)
  have hmax:parts.size <= maxLen:=by
   have:parts.size <= parts.size * (T e).size:=Nat.le_mul_of_pos_right _ he
   simp [maxLen];omega
  refine zgE (fz:=f) (p:=.own d ((s.rw d).ver + 1)) hs hrun hturn hne (fun hl=>?_) ?_ (by simp [hdst,hd]) (fun a' w' h=>hK a' w' (by rw [hdst] at h;exact h))
  ·unfold zav
   simp only [Env.turn,zaf]
   refine .inr ⟨w.heap.size,parts.size,parts.size,_,[],rfl,.inl hs.wok.kept.size,rfl,hnew _,hlen,Nat.le_refl _,hmax,by rw [List.append_nil];exact hlen,?_⟩
   refine hrep _ _ hl rfl fun j hj b hb=>?_
   obtain ⟨q1,e',sz',fz',cc,q2⟩:=hfz j hj
   have hbs:=(hs.wok.block hb (by rw [q2];rfl)).1
   refine ⟨(Ext.alloc w _).block b hbs,fun hL=>?_⟩
   rcases hL with ⟨j',r1,r2⟩ | hX
   rotate_left
   ·exact hs.wok.apart j b (by rw [q2];rfl) hb (hs.wok.xs ▸ hX)
   by_cases hj':j' = d
   ·subst hj'
    simp only [zaf] at r1
    simp at r1;omega
   ·simp only [zam _ _ hj'] at r1 r2
    have r3:(E.R j').kind.live = true:=by
     unfold zis at r2;split at r2
     ·exact zkT _ r2
     ·exact r2
    have:=hs.wok.inj j j' b (by rw [q2];rfl) (RK.nd_of_live r3) hb r1
    subst this
    unfold zis at r2
    rw [if_pos hj] at r2
    simp [frz,q2,RK.live] at r2
  ·exact .own (by simp [Env.turn,zaf]) fun _ _=>by simp [Env.turn,zaf]
 ·exact hk.elim
end
def zdF (T:Tab) (rw:Nat->Row) (fs:List (Nat × TypeId)):List (Nat × PV)->List PV->(List PV->Prop)->Prop
 | [],cells,K=>K cells
 | (i,p) :: rest,cells,K=>match fs[i]? with
   | some (off,ft)=>za5 rw p fun c=>c.length = (T ft).size/\off + c.length <= cells.length/\zdF T rw fs rest (spl cells off c) K
   | none=>False
def zhs (T:Tab) (rw:Nat->Row) (ev:Operand->PV) (t:TypeId) (parts:Array (Nat × Operand)) (K:PV->Prop):Prop :=
 0 < (T t).size/\match (T t).k with
 | .struct fs=>(∀ x ∈ fs,0 < (T x.2).size)/\zdF T rw fs (parts.toList.map fun x=>(x.1,ev x.2)) ((T t).zero.map PV.v) fun c=>K (.ag c)
 | _=>False
section
variable {P:Program} {T:Tab} {G:Ghost} {s:St} {E:Env} {a:Act} {w w':World} {o:Oper}
theorem zuL [zae] {rw:Nat->Row} (hR:E.R = rw) (hw:WOk G E w) {fs:List (Nat × TypeId)} {places:Array (Nat × Nat)} (hpl:∀ i:Nat,places[i]? = (fs[i]?).map fun x:Nat × TypeId=>(x.1,(T x.2).size)) :
 ∀ (pp:List (Nat × PV)) (pv:List (Nat × Value)) (c:List PV) (cs:Array Value) {K:List PV->Prop},zdF T rw fs pp c K->pp.map (·.1) = pv.map (·.1)->zbu w E 0 (pp.map (·.2)) (pv.map (·.2))->zbu w E 0 c cs.toList ->
  ∃ c' out,K c'/\Instr.fill (places[·]?) cs pv = some out/\zbu w E 0 c' out.toList:=by
 intro pp
 induction pp with
 | nil =>
   intro pv c cs K hk h1 h2 h3
   have:pv = []:=by cases pv <;> simp at h1 ⊢
   subst this
   exact ⟨c,cs,hk,rfl,h3⟩
 | cons x pp ih =>
   intro pv c cs K hk h1 h2 h3
   cases pv with
   | nil=>simp at h1
   | cons y pv =>
     obtain ⟨i,p⟩:=x
     obtain ⟨j,v⟩:=y
     simp only [List.map_cons,List.cons.injEq] at h1
     obtain ⟨rfl,h1⟩:=h1
     have hp:Rep w E 0 p v:=h2.2 0 sp sp
     have h2':zbu w E 0 (pp.map (·.2)) (pv.map (·.2)):=⟨by simpa using h2.1,fun k a b=>by
      have:=h2.2 (k + 1) (by simp at a ⊢;omega) (by simp at b ⊢;omega)
      simpa using this⟩
     unfold zdF at hk
     split at hk
     ·rename_i off ft hfi
      obtain ⟨c1,⟨hl,hfit,hk⟩,hrep,_⟩:=zeh hk hR hw hp
      have hvs:v.cells.size = (T ft).size:=by rw [<- hl,hrep.1];simp
      have hcs:c.length = cs.size:=by rw [h3.1];simp
      have hset:=ztl v.cells.toList 0 off cs (by simp [hvs];omega)
      have hfold:(v.cells.zipIdx.foldl (fun cs (x:Value × Nat)=>cs.setIfInBounds (off + x.2) x.1) cs) = (v.cells.toList.zipIdx.foldl (fun cs (x:Value × Nat)=>cs.setIfInBounds (off + x.2) x.1) cs):=by
       rw [<- Array.foldl_toList,Array.toList_zipIdx]
      obtain ⟨c',out,hK,hfill,hout⟩:=ih pv (spl c off c1) (v.cells.toList.zipIdx.foldl (fun cs (x:Value × Nat)=>cs.setIfInBounds (off + x.2) x.1) cs) hk h1 h2' (by
       rw [hset]
       have:=zqr h3 hrep hfit
       simpa using this)
      refine ⟨c',out,hK,?_,hout⟩
      simp only [Instr.fill]
      rw [hpl,hfi]
      simp only [Option.map_some]
      rw [if_neg (by simp [hvs];omega)]
      rw [hfold]
      exact hfill
     ·exact hk.elim
theorem zCJ (hT:T.Ok P):∀ (flds:List Field),(∀ x ∈ flds.map (fun f=>(f.offset,f.type)),0 < (T x.2).size)->flds.mapM (fun f=>(P.info? f.type).map fun i=>(f.offset,i.size)) = some (flds.map fun f=>(f.offset,(T f.type).size)):=by
 intro flds
 induction flds with
 | nil=>intro _;rfl
 | cons f flds ih =>
   intro h
   obtain ⟨i,z,hi,hs,_⟩:=(hT f.type (h (f.offset,f.type) sp)).info
   have:=ih fun x hx=>h x (by simp at hx ⊢;exact .inr hx)
   simp [List.mapM_cons,this,hi,hs]
theorem zjZ [zae] (hT:T.Ok P) {t:TypeId} {parts:Array (Nat × Operand)} {K:PV->Prop} (ho:o.op = .build t parts) (hk:zhs T s.rw s.ev t parts K):∃ p,K p/\zhf P G s o p:=by
 obtain ⟨ht,hk⟩:=hk
 split at hk
 ·rename_i fs hfs
  obtain ⟨hsz,hk⟩:=hk
  have hu:=(hT t ht).k
  rw [hfs] at hu
  obtain ⟨flds,hu,hfl⟩:=hu
  obtain ⟨i,z,hi,hs,hb,hz,hzc⟩:=(hT t ht).info
  have hdet:∃ c',K (.ag c')/\zdF T s.rw fs (parts.toList.map fun x=>(x.1,s.ev x.2)) ((T t).zero.map PV.v) (· = c'):=by
   have:∀ (pp:List (Nat × PV)) (c:List PV) (K:List PV->Prop),zdF T s.rw fs pp c K->∃ c',K c'/\zdF T s.rw fs pp c (· = c'):=by
    intro pp
    induction pp with
    | nil=>intro c K h;exact ⟨c,h,rfl⟩
    | cons x pp ih =>
      intro c K h
      obtain ⟨i,p⟩:=x
      unfold zdF at h ⊢
      split at h
      ·rename_i off ft hfi
       unfold za5 at h ⊢
       split at h <;> first
        | exact h.elim
        | (obtain ⟨a1,a2,h⟩:=h;obtain ⟨c',h1,h2⟩:=ih _ _ h;exact ⟨c',h1,a1,a2,h2⟩)
        | (obtain ⟨q,a1,a2,h⟩:=h;obtain ⟨c',h1,h2⟩:=ih _ _ h;exact ⟨c',h1,q,a1,a2,h2⟩)
        | (obtain ⟨q,q2,a1,a2,h⟩:=h;obtain ⟨c',h1,h2⟩:=ih _ _ h;exact ⟨c',h1,q,q2,a1,a2,h2⟩)
      ·exact h.elim
   exact this _ _ _ hk
  obtain ⟨c',hK,hfill⟩:=hdet
  refine ⟨_,hK,fun E a w hR hw hx K' Q hK'=>?_⟩
  have hops:∀ x ∈ parts.toList,Rep w E 0 (s.ev x.2) (a.eval x.2):=fun x hx'=>hx x.2 (by
   simp only [ho,Op.operands,List.mem_toArray,List.mem_map];exact ⟨x,hx',rfl⟩)
  have hplaces:(flds.toList.map fun f=>(f.offset,(T f.type).size)).toArray.toList = fs.map fun x=>(x.1,(T x.2).size):=by
   rw [<- hfl];simp
  obtain ⟨c'',out,rfl,hf,hout⟩:=zuL (T:=T) hR hw (fs:=fs) (places:=(flds.toList.map fun f=>(f.offset,(T f.type).size)).toArray) (fun j=>by
   rw [<- Array.getElem?_toList,hplaces,List.getElem?_map]) (parts.toList.map fun x=>(x.1,s.ev x.2)) (parts.toList.map fun x=>(x.1,a.eval x.2)) ((T t).zero.map PV.v) z.cells hfill sp (by
   have e1:(parts.toList.map fun x=>(x.1,s.ev x.2)).map (·.2) = parts.toList.map fun x=>s.ev x.2:=sp
   have e2:(parts.toList.map fun x=>(x.1,a.eval x.2)).map (·.2) = parts.toList.map fun x=>a.eval x.2:=sp
   rw [e1,e2]
   exact zbu.map fun x hx'=>hops x hx') (by
   rw [hzc]
   exact ⟨sp,fun j p q=>by simp;exact .v _⟩)
  have hbuilt:P.built t (parts.map fun x=>(x.1,a.eval x.2)).toList = some out:=by
   unfold Program.built
   rw [hi,hu]
   simp only [hz]
   rw [zCJ hT flds.toList (by rw [hfl];exact hsz)]
   have e:(parts.map fun x=>(x.1,a.eval x.2)).toList = parts.toList.map fun x=>(x.1,a.eval x.2):=sp
   rw [e]
   exact hf
  have hrun:(execOp a.eval o).run P w = .ok (.value (.agg out)) w:=by
   have:=run_build w t (parts.map fun x=>(x.1,a.eval x.2)) out hbuilt
   simp [execOp,ho,this]
  refine zdX hrun (hK' _ _ (Ext.refl w) ?_)
  have e:out = out.toList.toArray:=sp
  rw [e]
  exact .ag hout.1 fun i p q=>hout.2 i p q
 ·exact hk.elim
end
end Go.Abs

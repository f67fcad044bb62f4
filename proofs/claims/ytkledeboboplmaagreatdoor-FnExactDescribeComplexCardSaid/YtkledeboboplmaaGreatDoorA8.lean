/- DERIVED by an AI agent. -/
import Derived.Test.YtkledeboboplmaaGreatDoorA7
/- DERIVED by an AI agent. A function that is given a slice of its own and hands back that or another one, with a word whether it did: as a caller sees it. No program in sight. -/
namespace Go.Abs
set_option linter.unusedSimpArgs false
set_option linter.unusedVariables false
theorem zay (s:St) (d:Nat) (p:PV):(s.put (some d) p).sl d = p:=by simp [St.put]
theorem zaO (s:St) (d t:Nat) (p:PV) (h:t ≠ d):(s.put (some d) p).sl t = s.sl t:=by simp [St.put,h]
def zv4 (e:Nat) (head:List PV) (k:Nat):Row:=if k = 1000000 then ⟨1,.sli e 1 false head⟩ else ⟨0,.dead⟩
theorem zfv (e:Nat) (head:List PV):zv4 e head 1000000 = ⟨1,.sli e 1 false head⟩:=if_pos rfl
theorem zlb (e:Nat) (head:List PV) {k:Nat} (h:¬ k = 1000000):zv4 e head k = ⟨0,.dead⟩:=if_neg h
def zKX (e:Nat) (out:List PV) (ok:Bool) (R1:Nat→Row) (p:PV):Prop:=∃ k v,(k = 1000000 ∨ k < 1000000)∧p = .tup [.own k v,.v (.bool ok)]∧R1 k = ⟨v,.sli e 1 false out⟩
def AF [zae] (P:Program) (f:FuncId) (pre head:List PV) (e:Nat) (out:List PV) (ok:Bool):Prop:=AG P f (pre ++ [.own 1000000 1]) (zv4 e head) (zKX e out ok)
def zGa (pre pre':List PV):Prop:=∀ (rho:Nat→Option Nat) (Ln:Nat→Prop) (R0 R:Nat→Row),GvL rho Ln R0 R pre pre'
theorem GvL.app {rho:Nat→Option Nat} {Ln:Nat→Prop} {R0 R:Nat→Row} {c d:List PV} (t:GvL rho Ln R0 R c d):∀ {a b:List PV},GvL rho Ln R0 R a b→GvL rho Ln R0 R (a ++ c) (b ++ d)
 | _,_,.nil=>t
 | _,_,.one h r=>.one h (GvL.app t r)
 | _,_,.ag h r=>.ag h (GvL.app t r)
 | _,_,.clo h r=>.clo h (GvL.app t r)
theorem zrG (rho:Nat→Option Nat) (R1:Nat→Row) (nv:Nat→Nat) (nl:Bool) (k v:Nat) (x:Value):zFk rho R1 nv nl (.tup [.own k v,.v x]) = .tup [zxy rho R1 nv nl (.own k v),.v x]:=rfl
theorem zrH {j d k a i:Nat} (h:(if a = 1000000 then some j else if a = k then some d else none) = some i):(a = 1000000∧i = j) ∨ (a ≠ 1000000∧a = k∧i = d):=by
 by_cases ha:a = 1000000
 ·rw [if_pos ha] at h;exact .inl ⟨ha,(Option.some.inj h).symm⟩
 ·rw [if_neg ha] at h
  by_cases hb:a = k
  ·rw [if_pos hb] at h;exact .inr ⟨ha,hb,(Option.some.inj h).symm⟩
  ·rw [if_neg hb] at h;cases h
theorem zGb [zae] {j d k a b i:Nat} (hdj:d ≠ j) (h1:(if a = 1000000 then some j else if a = k then some d else none) = some i) (h2:(if b = 1000000 then some j else if b = k then some d else none) = some i):a = b:=by
 rcases zrH h1 with ⟨a1,a2⟩ | ⟨a1,a2,a3⟩ <;> rcases zrH h2 with ⟨b1,b2⟩ | ⟨b1,b2,b3⟩ <;> omega
theorem zlc {j a i:Nat} (h:(if a = 1000000 then some j else none) = some i):a = 1000000∧i = j:=by
 by_cases ha:a = 1000000
 ·rw [if_pos ha] at h;exact ⟨ha,(Option.some.inj h).symm⟩
 ·rw [if_neg ha] at h;cases h
theorem AF.askG [zae] {P:Program} {s:St} {K:St→Prop} {f:FuncId} {pre pre' head out:List PV} {e:Nat} {ok:Bool} {j vj d dst:Nat} (h:AF P f pre head e out ok)
 (hq:∀ (rho:Nat→Option Nat) (R0:Nat→Row),GvL rho (fun i=>i ≠ j) R0 s.rw pre pre') (hj:s.rw j = ⟨vj,.sli e 1 false head⟩) (hp:zbM head) (hdj:d ≠ j)
 (hk:∀ (S:St) (v r:Nat),((r = j∧(v = vj ∨ v = vj + 1)∧S.rw d = s.rw d) ∨ (r = d∧v = (s.rw d).ver + 1∧(S.rw j).ver ≤ vj + 1))→S.sl = (s.put (some dst) (.tup [.own r v,.v (.bool ok)])).sl→S.rw r = ⟨v,.sli e 1 false out⟩→(∀ i,i ≠ j→i ≠ d→S.rw i = s.rw i)→K S) :
 askG P s f (pre' ++ [.own j vj]) (some dst) K:=by
 have h0:=zfv e head
 have hnd:∀ k,(zv4 e head k).kind.nd = true→k = 1000000:=fun k hk=>by
  by_cases h:k = 1000000
  ·exact h
  ·rw [zlb e head h] at hk;cases hk
 have rho_at:(fun k:Nat=>if k = 1000000 then some j else none) 1000000 = some j:=if_pos rfl
 refine ⟨_,_,_,(fun k=>if k = 1000000 then some j else none),(fun i=>i ≠ j),h,((GvL.one ?_ .nil).app (hq _ _)),⟨fun k hk=>?_,fun k k' i h1 h2 _ _=>by rw [hnd k h1,hnd k' h2],fun k i hk hi=>?_⟩,fun R1 p hpost=>?_⟩
 ·exact .own rho_at (by rw [h0]) (by rw [hj]) (by rw [h0];rfl)
 ·have:=hnd k hk;subst this
  refine ⟨Nat.le_refl _,by rw [h0];exact Nat.one_pos,j,rho_at,?_⟩
  rw [h0,hj]
  exact ⟨rfl,rfl,rfl,hp⟩
 ·have:=hnd k hk;subst this
  have hi:some j = some i:=rho_at.symm.trans hi
  cases hi
  exact fun h=>h rfl
 ·obtain ⟨k,v,hk0,rfl,hr⟩:=hpost
  have hvk:(v == (R1 k).ver) = true:=by rw [hr];simp
  rcases hk0 with rfl | hlt
  ·refine ⟨fun k=>if k = 1000000 then some j else none,fun _=>if v = 1 then vj else vj + 1,false,⟨fun _ _=>rfl,fun a b i h1 h2=>?_,fun a i h1 h2 h3=>?_,fun a i h1 h2=>?_,fun h=>by cases h⟩,fun S hS=>?_⟩
   ·rw [(zlc h1).1,(zlc h2).1]
   ·have:=hnd a h2;subst this
    have hi:some j = some i:=rho_at.symm.trans h1
    cases hi
    rw [h0,hr] at h3
    have h3:v = 1:=h3
    rw [if_pos h3,hj]
   ·by_cases ha:a = 1000000
    ·subst ha
     have hi:some j = some i:=rho_at.symm.trans h1
     cases hi
     have:=h2 (by rw [h0];rfl)
     rw [h0,hr] at this
     have h3:¬ v = 1:=this
     rw [if_neg h3,hj];exact Nat.lt_succ_self _
    ·simp [ha] at h1
   ·have hrow:=hS.row 1000000 j rho_at
    rw [hr] at hrow
    refine hk S _ j (.inl ⟨rfl,?_,hS.off d fun a ha=>?_⟩) ?_ hrow (fun i hij _=>hS.off i fun a ha=>?_)
    ·by_cases h3:v = 1
     ·rw [if_pos h3];exact .inl rfl
     ·rw [if_neg h3];exact .inr rfl
    ·exact hdj (zlc ha).2
    ·rw [hS.sl,zrG,zeG,hvk]
     simp only [if_pos]
    ·by_cases h:a = 1000000
     ·simp only [if_pos h] at ha;exact hij (Option.some.inj ha).symm
     ·simp only [if_neg h] at ha;cases ha
  ·have hkn:¬ k = 1000000:=by omega
   refine ⟨fun i=>if i = 1000000 then some j else if i = k then some d else none,fun i=>if i = 1000000 then (if (R1 1000000).ver = 1 then vj else vj + 1) else (s.rw d).ver + 1,false,
    ⟨fun a ha=>?_,fun a b i h1 h2=>?_,fun a i h1 h2 h3=>?_,fun a i h1 h2=>?_,fun h=>by cases h⟩,fun S hS=>?_⟩
   ·have:=hnd a ha;subst this;rfl
   ·exact zGb hdj h1 h2
   ·have:=hnd a h2;subst this
    simp only [if_true] at h1
    cases h1
    rw [h0] at h3
    have h3:(R1 1000000).ver = 1:=h3
    simp only [if_true,if_pos h3,hj]
   ·by_cases ha:a = 1000000
    ·subst ha
     simp only [if_true] at h1
     cases h1
     have:=h2 (by rw [h0];rfl)
     rw [h0] at this
     have h3:¬ (R1 1000000).ver = 1:=this
     simp only [if_true,if_neg h3,hj];exact Nat.lt_succ_self _
    ·by_cases ha2:a = k
     ·simp only [if_neg ha,if_pos ha2] at h1
      cases h1
      simp only [if_neg ha];exact Nat.lt_succ_self _
     ·simp [ha,ha2] at h1
   ·have hrow:=hS.row k d (by simp [hkn])
    rw [hr] at hrow
    simp only [if_neg hkn] at hrow
    refine hk S _ d (.inr ⟨rfl,rfl,?_⟩) ?_ hrow (fun i hij hid=>hS.off i fun a ha=>?_)
    ·have:=hS.row 1000000 j (if_pos rfl)
     rw [this]
     show (if (1000000:Nat) = 1000000 then (if (R1 1000000).ver = 1 then vj else vj + 1) else (s.rw d).ver + 1) ≤ vj + 1
     rw [if_pos rfl];split <;> omega
    ·rw [hS.sl,zrG,zeG,hvk]
     simp only [if_neg hkn,if_true]
    ·by_cases h:a = 1000000
     ·simp only [if_pos h] at ha;exact hij (Option.some.inj ha).symm
     ·by_cases h2:a = k
      ·simp only [if_neg h,if_pos h2] at ha;exact hid (Option.some.inj ha).symm
      ·simp only [if_neg h,if_neg h2] at ha;cases ha
theorem Wk.moveP [zae] {s:St} {j t v N M e sz d:Nat} {c:List PV} {p p':PV} (hd:s.rw j = ⟨v,.sli e sz false c⟩) (hjt:j ≠ t) (hjl:j < lent) (hN:(s.rw t).ver < N) (hM:v ≤ M) (hsl:s.sl d = p)
 (hp:∀ (w:World) (E E':Env) (y:Value),E.R j = ⟨v,.sli e sz false c⟩→E'.R t = ⟨N,.sli e sz false c⟩→E'.rv t = E.rv j→Lasts w w E E'→Rep w E 0 p y→Rep w E' 0 p' y) :
 Wk s (((s.row j ⟨M,.dead⟩).row t ⟨N,.sli e sz false c⟩).put (some d) p'):=by
 intro G a w ⟨E,hs⟩
 have hRd:E.R j = ⟨v,.sli e sz false c⟩:=by rw [hs.rw];exact hd
 have hRt:(E.R t).ver < N:=by rw [hs.rw];exact hN
 let R':Nat→Row:=zcB (zcB E.R j ⟨M,.dead⟩) t ⟨N,.sli e sz false c⟩
 let rm':Nat→Option Nat:=zcB (zcB E.rm j none) t (E.rm j)
 let rv':Nat→Value:=zcB E.rv t (E.rv j)
 let E':Env:={ R:=R',rm:=rm',rv:=rv',L:=mkL E.X R' rm',B:=E.B,X:=E.X }
 have Rt:E'.R t = ⟨N,.sli e sz false c⟩:=zaf _ _ _
 have Rj:E'.R j = ⟨M,.dead⟩:=by show R' j = _;simp only [R'];rw [zal _ _ hjt,zaf]
 have Ro:∀ i,i ≠ j→i ≠ t→E'.R i = E.R i:=fun i h1 h2=>by show R' i = _;simp only [R'];rw [zal _ _ h2,zal _ _ h1]
 have Mt:E'.rm t = E.rm j:=zaf _ _ _
 have Mj:E'.rm j = none:=by show rm' j = _;simp only [rm'];rw [zal _ _ hjt,zaf]
 have Mo:∀ i,i ≠ j→i ≠ t→E'.rm i = E.rm i:=fun i h1 h2=>by show rm' i = _;simp only [rm'];rw [zal _ _ h2,zal _ _ h1]
 have Vt:E'.rv t = E.rv j:=zaf _ _ _
 have Vo:∀ i,i ≠ t→E'.rv i = E.rv i:=fun i h=>zal _ _ h
 have hL:∀ b,E'.L b→E.L b:=by
  intro b h
  rw [hs.wok.live]
  rcases h with ⟨i,h1,h2⟩ | hX
  rotate_left
  ·exact .inr hX
  refine .inl ?_
  have h1:E'.rm i = some b:=h1
  have h2:(E'.R i).kind.live = true:=h2
  by_cases it:i = t
  ·subst it;rw [Mt] at h1;exact ⟨j,h1,by rw [hRd];rfl⟩
  ·by_cases ij:i = j
   ·subst ij;rw [Mj] at h1;cases h1
   ·rw [Mo i ij it] at h1;rw [Ro i ij it] at h2;exact ⟨i,h1,h2⟩
 have hl:Lasts w w E E':=by
  refine ⟨fun b _ h=>⟨rfl,fun h'=>h (hL b h')⟩,fun i=>?_,fun i he hs'=>?_,fun i he hs'=>?_,Nat.le_refl _⟩
  all_goals
   by_cases it:i = t
   ·subst it
    first
     | (rw [Rt];exact Nat.le_of_lt hRt)
     | (rw [Rt] at he;have he:N = (E.R i).ver:=he;omega)
   ·by_cases ij:i = j
    ·subst ij
     first
      | (rw [Rj,hRd];exact hM)
      | (rw [Rj] at hs';cases hs')
    ·first
      | (rw [Ro i ij it];exact Nat.le_refl _)
      | (rw [Ro i ij it] at hs';exact ⟨hs',Vo i it⟩)
      | (rw [Ro i ij it] at hs';exact ⟨hs',Mo i ij it⟩)
 have hwok:WOk G E' w:=by
  refine ⟨fun i=>?_,fun i i' b n1 n2 e1 e2=>?_,fun b=>Iff.rfl,fun i hn=>?_,hs.wok.base,hs.wok.xs,hs.wok.fx,fun i b hn hb=>?_,hs.wok.kept,fun i=>?_⟩
  ·by_cases it:i = t
   ·subst it
    have hrow:=hs.wok.rows j
    unfold zav at hrow ⊢
    rw [hRd] at hrow
    rw [Rt,Mt,Vt]
    rcases hrow with h | ⟨b,n,cap,vs,rest,h1,h2,h3,h4,h5,h6,h7,h8,h9⟩
    ·exact .inl h
    ·refine .inr ⟨b,n,cap,vs,rest,h1,?_,h3,h4,h5,h6,h7,h8,h9.mono hl.bare (Nat.le_refl _)⟩
     rcases h2 with h2 | h2
     ·exact .inl h2
     ·exact absurd h2.1 (by omega)
   ·by_cases ij:i = j
    ·subst ij;unfold zav;rw [Rj];trivial
    ·have hrow:=hs.wok.rows i
     unfold zav at hrow ⊢
     rw [Ro i ij it,Mo i ij it,Vo i it]
     cases hkd:(E.R i).kind with
     | mp f=>simpa only [hkd] using hrow
     | dead=>trivial
     | nil=>simpa only [hkd] using hrow
     | box t cells =>
       simp only [hkd] at hrow ⊢
       obtain ⟨b,vs,h1,h2,h3,h4⟩:=hrow
       exact ⟨b,vs,h1,h2,h3,h4.mono hl (Nat.le_refl _)⟩
     | sli e sz fz cells =>
       simp only [hkd] at hrow ⊢
       rcases hrow with h | ⟨b,n,cap,vs,rest,h1,h2,h3,h4,h5,h6,h7,h8,h9⟩
       ·exact .inl h
       ·exact .inr ⟨b,n,cap,vs,rest,h1,h2,h3,h4,h5,h6,h7,h8,h9.mono hl.bare (Nat.le_refl _)⟩
     | tab e cells =>
       simp only [hkd] at hrow ⊢
       rcases hrow with h | ⟨b,n,cap,vs,rest,h1,h2,h3,h4,h5,h6,h7,h8,h9⟩
       ·exact .inl h
       ·exact .inr ⟨b,n,cap,vs,rest,h1,h2,h3,h4,h5,h6,h7,h8,h9.mono hl (Nat.le_refl _)⟩
  ·have back:∀ i b,(E'.R i).kind.nd = true→E'.rm i = some b→(E.R (if i = t then j else i)).kind.nd = true∧E.rm (if i = t then j else i) = some b∧i ≠ j:=by
    intro i b hn hm
    by_cases it:i = t
    ·subst it;rw [if_pos rfl];rw [Mt] at hm;exact ⟨by rw [hRd];rfl,hm,Ne.symm hjt⟩
    ·rw [if_neg it]
     have ij:i ≠ j:=fun e=>by subst e;rw [Mj] at hm;cases hm
     rw [Mo i ij it] at hm
     exact ⟨by rw [← Ro i ij it];exact hn,hm,ij⟩
   obtain ⟨a1,a2,a3⟩:=back i b n1 e1
   obtain ⟨b1,b2,b3⟩:=back i' b n2 e2
   have:=hs.wok.inj _ _ b a1 b1 a2 b2
   by_cases it:i = t
   ·by_cases it2:i' = t
    ·rw [it,it2]
    ·rw [if_pos it,if_neg it2] at this;exact absurd this.symm b3
   ·by_cases it2:i' = t
    ·rw [if_neg it,if_pos it2] at this;exact absurd this a3
    ·rw [if_neg it,if_neg it2] at this;exact this
  ·by_cases it:i = t
   ·subst it;rw [Rt];exact Nat.lt_of_le_of_lt (Nat.zero_le _) hRt
   ·by_cases ij:i = j
    ·subst ij;rw [Rj] at hn;cases hn
    ·rw [Ro i ij it] at hn ⊢;exact hs.wok.pos i hn
  ·by_cases it:i = t
   ·subst it;rw [Mt] at hb;exact hs.wok.apart j b (by rw [hRd];rfl) hb
   ·by_cases ij:i = j
    ·subst ij;rw [Mj] at hb;cases hb
    ·rw [Mo i ij it] at hb;rw [Ro i ij it] at hn;exact hs.wok.apart i b hn hb
  ·obtain ⟨p1,p2⟩:=hs.wok.pin i
   by_cases it:i = t
   ·subst it
    rw [Rt]
    exact ⟨Nat.le_trans p1 (Nat.le_of_lt hRt),fun h=>by have h:N = (G.pR i).ver:=h;omega⟩
   ·by_cases ij:i = j
    ·subst ij
     rw [Rj]
     rw [hRd] at p1
     exact ⟨Nat.le_trans p1 hM,fun h h'=>by cases h'⟩
    ·rw [Ro i ij it,Mo i ij it,Vo i it];exact ⟨p1,p2⟩
 refine ⟨E',?_,hwok,hs.size,hs.defers,fun i=>?_⟩
 ·show R' = _
  simp only [R',hs.rw]
  rfl
 ·by_cases hid:i = d
  ·subst hid
   rw [zay]
   have h:=hs.slots i
   rw [hsl] at h
   exact hp w E E' _ hRd Rt Vt hl h
  ·rw [zaO _ _ _ _ hid]
   exact (hs.slots i).mono hl (Nat.le_refl _)
theorem zAj [zae] {w:World} {E E':Env} {j t v N e sz:Nat} {c:List PV} {y:Value} (h1:E.R j = ⟨v,.sli e sz false c⟩) (h2:E'.R t = ⟨N,.sli e sz false c⟩) (h3:E'.rv t = E.rv j) (h:Rep w E 0 (.own j v) y):Rep w E' 0 (.own t N) y:=by
 cases h with
 | own hv hx =>
   refine .own (by rw [h2];exact Nat.le_refl _) fun _ _=>?_
   rw [h3]
   exact hx (by rw [h1]) (by rw [h1];rfl)
theorem Wk.move [zae] {s:St} {j t v N M e sz d:Nat} {c:List PV} {x:Value} (hd:s.rw j = ⟨v,.sli e sz false c⟩) (hjt:j ≠ t) (hjl:j < lent) (hN:(s.rw t).ver < N) (hM:v ≤ M) (hsl:s.sl d = .tup [.own j v,.v x]) :
 Wk s (((s.row j ⟨M,.dead⟩).row t ⟨N,.sli e sz false c⟩).put (some d) (.tup [.own t N,.v x])):=by
 refine Wk.moveP hd hjt hjl hN hM hsl fun w E E' y h1 h2 h3 hl h=>?_
 cases h with
 | @tup _ _ _ vs hl2 hh =>
   refine .tup hl2 fun k a b=>?_
   have hk:=hh k (by simpa using a) b
   rcases k with _ | _ | k
   ·exact zAj h1 h2 h3 hk
   ·exact hk.mono hl (Nat.le_refl _)
   ·exact absurd a (by simp)
theorem Wk.killAt [zae] {s:St} {j M:Nat} (hM:(s.rw j).ver ≤ M):Wk s (s.row j ⟨M,.dead⟩):=by
 intro G a w ⟨E,hs⟩
 have hRj:(E.R j).ver ≤ M:=by rw [hs.rw];exact hM
 have Rj:zcB E.R j ⟨M,.dead⟩ j = ⟨M,.dead⟩:=zaf _ _ _
 have Ro:∀ i,i ≠ j→zcB E.R j ⟨M,.dead⟩ i = E.R i:=fun i h=>zal _ _ h
 have ht:Turn G E { R:=zcB E.R j ⟨M,.dead⟩,rm:=E.rm,rv:=E.rv,L:=mkL E.X (zcB E.R j ⟨M,.dead⟩) E.rm,B:=E.B,X:=E.X } w w (· = j):=by
  refine ⟨rfl,rfl,rfl,fun i hi=>⟨Ro i hi,rfl,rfl⟩,fun _ _ _=>rfl,fun i b hD _ hnd=>?_,fun i hD=>?_,fun i hD he h=>?_,fun i hD he h=>?_,fun i hD hnd=>?_,fun i i' b hD hD' h1 _ _ _=>?_,Nat.le_refl _,rfl,rfl,⟨rfl,fun _=>by first | exact Nat.le_refl _ | exact Nat.le_succ _⟩⟩
  all_goals subst hD
  ·have hnd:(zcB E.R i ⟨M,.dead⟩ i).kind.nd = true:=hnd
   rw [Rj] at hnd;cases hnd
  ·show _ ≤ (zcB E.R i ⟨M,.dead⟩ i).ver
   rw [Rj];exact hRj
  ·have h:(zcB E.R i ⟨M,.dead⟩ i).kind.slice = true:=h
   rw [Rj] at h;cases h
  ·have h:(zcB E.R i ⟨M,.dead⟩ i).kind.nd = true:=h
   rw [Rj] at h;cases h
  ·have hnd:(zcB E.R i ⟨M,.dead⟩ i).kind.nd = true:=hnd
   rw [Rj] at hnd;cases hnd
  ·have h1:(zcB E.R i ⟨M,.dead⟩ i).kind.nd = true:=h1
   rw [Rj] at h1;cases h1
 have hrows:∀ i,i = j→zav w { R:=zcB E.R j ⟨M,.dead⟩,rm:=E.rm,rv:=E.rv,L:=mkL E.X (zcB E.R j ⟨M,.dead⟩) E.rm,B:=E.B,X:=E.X } G.C i:=fun i hi=>by
  subst hi
  unfold zav
  show match (zcB E.R i ⟨M,.dead⟩ i).kind with | .dead=>True | .nil=>_ | .box t cells=>_ | .sli e sz _ cells=>_ | .tab e cells=>_ | .mp f=>_
  rw [Rj];trivial
 have key:SimE G _ ({ s with rw:=zcB E.R j ⟨M,.dead⟩ }:St) a w:=ht.sim hs hrows
 have e:({ s with rw:=zcB E.R j ⟨M,.dead⟩ }:St) = s.row j ⟨M,.dead⟩:=by rw [hs.rw];rfl
 rw [e] at key
 exact ⟨_,key⟩
theorem St.ext2 {a b:St} (h1:∀ i,a.sl i = b.sl i) (h2:∀ i,a.rw i = b.rw i):a = b:=by
 cases a;cases b
 congr 1
 ·exact funext h1
 ·exact funext h2
def rvF (e:Nat) (out:List PV) (ok:Bool):RV:=.tup [.fr e 1 out,.im (.v (.bool ok))]
theorem zFg [zae] (s:St) (d e:Nat) (out:List PV) (ok:Bool):zao s d (rvF e out ok) = (s.row d ⟨(s.rw d).ver + 1,.sli e 1 false out⟩).put (some d) (.tup [.own d ((s.rw d).ver + 1),.v (.bool ok)]):=by
 unfold zao rvF
 rw [zbS]
 simp only [List.map_cons,List.map_nil,zak,List.flatten_cons,List.flatten_nil,List.append_nil,zaw,zbW,za0,zbF,zcv,zbV]
 rfl
theorem znU (s:St) (j:Nat):s.killed j [] = s.row j ⟨(s.rw j).ver + 1,.dead⟩:=by
 unfold St.killed St.row
 congr 1
 funext i
 unfold zba zJH
 by_cases h:i = j
 ·subst h;simp [zcB]
 ·have hb:(i == j) = false:=beq_eq_false_iff_ne.2 h
  simp [h,zcB,hb]
theorem zxa [zae] {P:Program} {G:Ghost} {s:St} {o:Oper} {c:Call} {f:Operand} {j vj e d:Nat} {pre pre' head out:List PV} {ok:Bool} {caps:List PV} {g:FuncId} (ho:o.op = .call c) (hc:c.callee = .value f) (hdst:o.dst = some d) (hd:d < G.n)
 (hev:s.ev f = .clo g caps) (h:AF P g pre head e out ok) (hraw:c.args.toList.map s.ev ++ caps = pre' ++ [.own j vj])
 (hq:zGa pre pre') (hj:s.rw j = ⟨vj,.sli e 1 false head⟩) (hp:zbM head) (hdj:d ≠ j) (hjl:j < lent) :
 za5 P G s o (zao (s.killed j []) d (rvF e out ok)):=by
 intro a w hs K' Q hK
 refine zgH (K:=fun S=>Wk S (zao (s.killed j []) d (rvF e out ok))) ho hc (fun y hy=>by rw [hdst] at hy;cases hy;exact hd) ?_ hs fun s1 a' w' hw hs1=>hK a' w' (hw G a' w' hs1)
 rw [hev]
 show askG P s g (c.args.toList.map s.ev ++ caps) o.dst _
 rw [hraw,hdst]
 refine h.askG (fun rho R0=>hq rho _ R0 _) hj hp hdj fun S v r hr hsl hrow hoff=>?_
 rw [zFg,znU]
 have hjv:(s.rw j).ver = vj:=by rw [hj]
 have hrd:((s.row j ⟨(s.rw j).ver + 1,.dead⟩).rw d) = s.rw d:=zal _ _ hdj
 rw [hrd,hjv]
 rcases hr with ⟨rfl,hv,hSd⟩ | ⟨rfl,rfl,hv⟩
 ·have hm:=Wk.move (s:=S) (t:=d) (N:=(s.rw d).ver + 1) (M:=vj + 1) (d:=d) hrow (Ne.symm hdj) hjl (by rw [hSd];exact Nat.lt_succ_self _) (by omega) (by rw [hsl,zay])
  have e2:(((s.row r ⟨vj + 1,.dead⟩).row d ⟨(s.rw d).ver + 1,.sli e 1 false out⟩).put (some d) (.tup [.own d ((s.rw d).ver + 1),.v (.bool ok)])) = (((S.row r ⟨vj + 1,.dead⟩).row d ⟨(s.rw d).ver + 1,.sli e 1 false out⟩).put (some d) (.tup [.own d ((s.rw d).ver + 1),.v (.bool ok)])):=by
   refine St.ext2 (fun i=>?_) fun i=>?_
   ·by_cases hi:i = d
    ·subst hi;rw [zay,zay]
    ·rw [zaO _ _ _ _ hi,zaO _ _ _ _ hi]
     show s.sl i = S.sl i
     rw [hsl,zaO _ _ _ _ hi]
   ·show zcB (zcB s.rw r _) d _ i = zcB (zcB S.rw r _) d _ i
    by_cases hi:i = d
    ·subst hi;rw [zaf,zaf]
    ·rw [zal _ _ hi,zal _ _ hi]
     by_cases hij:i = r
     ·subst hij;rw [zaf,zaf]
     ·rw [zal _ _ hij,zal _ _ hij,hoff i hij hi]
  rw [e2];exact hm
 ·have hm:=Wk.killAt (s:=S) (j:=j) (M:=vj + 1) hv
  have e2:(((s.row j ⟨vj + 1,.dead⟩).row r ⟨(s.rw r).ver + 1,.sli e 1 false out⟩).put (some r) (.tup [.own r ((s.rw r).ver + 1),.v (.bool ok)])) = S.row j ⟨vj + 1,.dead⟩:=by
   refine St.ext2 (fun i=>?_) fun i=>?_
   ·show _ = S.sl i
    rw [hsl]
    by_cases hi:i = r
    ·subst hi;rw [zay,zay]
    ·rw [zaO _ _ _ _ hi,zaO _ _ _ _ hi];rfl
   ·show zcB (zcB s.rw j _) r _ i = zcB S.rw j _ i
    by_cases hi:i = r
    ·subst hi;rw [zaf,zal _ _ hdj,hrow]
    ·rw [zal _ _ hi]
     by_cases hij:i = j
     ·subst hij;rw [zaf,zaf]
     ·rw [zal _ _ hij,zal _ _ hij,hoff i hij hi]
  rw [e2];exact hm
end Go.Abs

/- DERIVED by an AI agent. The first cells of an own row, cut off its end: the row stays the state's own. No program in sight. -/
namespace Go.Abs
set_option linter.unusedSimpArgs false
set_option linter.unusedVariables false
theorem zF9 [zae] {P:Program} {T:Tab} {G:Ghost} {s:St} {o:Oper} {t e:TypeId} {x y:Operand} {d k ver:Nat} {c:List PV} {kk:IntKind} {m:Int} (hT:T.Ok P) (ho:o.op = .slice t x none (some y) none) (hdst:o.dst = some d) (hd:d < G.n)
 (hx:s.ev x = .own k ver) (hrow:s.rw k = ⟨ver,.sli e 1 false c⟩) (hs0:0 < (T t).size) (hkt:(T t).k = .sli e) (hes:0 < (T e).size) (he1:(T e).size = 1) (hy:s.ev y = .v (.int kk m)) (h0:0 ≤ m) (hm:m ≤ (c.length:Int)) :
 za5 P G s o ((s.row k ⟨ver + 1,.sli e 1 false (c.take m.toNat)⟩).put (some d) (.own k (ver + 1))):=by
 intro a w hs K' Q hK
 obtain ⟨E,hs⟩:=hs
 have hR:=hs.rw
 have hRk:E.R k = ⟨ver,.sli e 1 false c⟩:=by rw [hR];exact hrow
 have hxr:=zaz hs.slots x
 rw [hx] at hxr
 have hyr:=zaz hs.slots y
 rw [hy] at hyr
 have hye:=hyr.v_eq
 have hxe:a.eval x = E.rv k:=by cases hxr with | own hv hx=>exact hx (by rw [hRk]) (by rw [hRk];rfl)
 have hf:=(hT t hs0).k
 rw [hkt] at hf
 have hu:P.underlying t = some (.slice e):=hf
 have hsize:=zaX (hT e hes) w
 rw [he1] at hsize
 have hrw:=hs.wok.rows k
 unfold zav at hrw
 rw [hRk] at hrw
 have fin:∀ v:Value,(execOp a.eval o).run P w = .ok (.value v) w→(Lasts w w E (E.turn [] k ⟨ver + 1,.sli e 1 false (c.take m.toNat)⟩ (E.rm k) v)→zav w (E.turn [] k ⟨ver + 1,.sli e 1 false (c.take m.toNat)⟩ (E.rm k) v) G.C k)→o.wp P a w K' Q:=fun v hrun hr=>by
  have hturn:OneTurn E w w k ⟨ver + 1,.sli e 1 false (c.take m.toNat)⟩ (E.rm k) v :=
   ⟨fun _ _ _=>rfl,fun b hb _=>.inr ⟨hb,by rw [hRk];rfl,fun _=>by rw [hRk];rfl⟩,by rw [hRk];exact Nat.le_succ _,fun h=>by rw [hRk] at h;simp at h,fun h=>by rw [hRk] at h;simp at h,fun _=>Nat.succ_pos _,Nat.le_refl _,rfl,rfl,⟨rfl,fun _=>by first | exact Nat.le_refl _ | exact Nat.le_succ _⟩⟩
  refine zfX (fz:=[]) (p:=.own k (ver + 1)) hs hrun hturn (by simp) hr ?_ (by simp [hdst,hd]) (fun a' w' h=>hK a' w' ?_)
  ·exact .own (by simp [Env.turn,zaf]) fun _ _=>by simp [Env.turn,zaf]
  ·rw [St.freeze_nil,hdst] at h;exact h
 have hmn:((m.toNat:Nat):Int) = m:=by omega
 rcases hrw with ⟨g1,g2,g3⟩ | ⟨b,n,cap,vs,rest,g1,g2,g3,g4,g5,g6,g7,g8,g9⟩
 ·subst g3
  have hm0:m = 0:=by simp at hm;omega
  subst hm0
  refine fin (.slice none 0 0) ?_ fun hl=>?_
  ·have hb:(Instr.sliceBounds true 0 0 none (some (.int kk 0)) none).run P w = .ok (0,0,0) w:=by simp [Instr.sliceBounds,run_sliceBound]
   simp [execOp,ho,hxe,g2,hye,Instr.sliceAt,run_underlying hu,Instr.slice,hb,hsize]
  ·unfold zav
   simp only [Env.turn,zaf]
   exact .inl ⟨g1,trivial,by simp⟩
 ·have hvl:c.length = vs.length:=g9.1
  have hmcap:m ≤ (cap:Int):=by omega
  refine fin (.slice (some ⟨b,0,none⟩) m.toNat cap) ?_ fun hl=>?_
  ·have hb:(Instr.sliceBounds true n cap none (some (.int kk m)) none).run P w = .ok (0,m.toNat,cap) w:=by
    simp [Instr.sliceBounds,run_sliceBound,h0,hmcap]
   simp [execOp,ho,hxe,g3,hye,Instr.sliceAt,run_underlying hu,Instr.slice,hb,hsize,zdo]
  ·unfold zav
   simp only [Env.turn,zaf]
   have hmn2:m.toNat ≤ vs.length:=by omega
   refine .inr ⟨b,m.toNat,cap,vs.take m.toNat,vs.drop m.toNat ++ rest,g1,g2,rfl,by rw [← List.append_assoc,List.take_append_drop];exact g4,by simp;omega,by omega,g7,by rw [← List.append_assoc,List.take_append_drop];exact g8,?_⟩
   have h9:=g9.mono hl.bare (Nat.le_refl _)
   refine ⟨by simp;omega,fun i ha hb=>?_⟩
   rw [List.getElem_take,List.getElem_take]
   exact h9.2 i (by simp at ha;omega) (by simp at hb;omega)
end Go.Abs

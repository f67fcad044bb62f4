/- DERIVED by an AI agent. -/
import Derived.Test.YtkledeboboplmaaGreatDoorA8
namespace Go.Abs
set_option linter.unusedSimpArgs false
set_option linter.unusedVariables false
def zs5 (rw:Nat->Row) (e2:TypeId):List PV->List (List PV)->(List Nat->Prop)->Prop
 | [],[],K=>K []
 | .own j v :: cs,r :: rs,K=>j < lent/\rw j = ⟨v,.sli e2 1 false r⟩/\zs5 rw e2 cs rs fun ids=>K (j :: ids)
 | _,_,_=>False
def RK.hand:RK->Bool | .sli _ _ false _=>true | .tab _ _=>true | _=>false
theorem RK.live_hand {k:RK} (h:k.hand = true):k.live = true:=by
 cases k with
 | sli e sz fz c=>cases fz <;> simp_all [RK.hand,RK.live]
 | tab e c=>rfl
 | _=>cases h
theorem RK.nd_hand [zae] {k:RK} (h:k.hand = true):k.nd = true:=RK.nd_of_live (RK.live_hand h)
def znF (rw:Nat->Row) (p:PV) (rv:RV) (K:List Nat->Prop):Prop :=
 match rv with
 | .im q=>(match p with
  | .v x=>q = .v x/\K []
  | .sl fr sz c=>fr = true/\(∃ f,q = .sl f sz c)/\K []
  | _=>False)
 | .tb e e2 rows=>(match p with
  | .v x=>zey x = true/\rows = []/\K []
  | .own k ver=>k < lent/\(rw k).ver = ver/\(match (rw k).kind with
   | .tab e' c=>e' = e/\zs5 rw e2 c rows fun ids=>K (k :: ids)
   | .nil=>rows = []/\K []
   | .sli e' sz' false c'=>e' = e/\sz' = 1/\c' = []/\rows = []/\K [k]
   | _=>False)
  | _=>False)
 | .fr e sz c=>(match p with
  | .v x=>zey x = true/\c = []/\K []
  | .own k ver=>k < lent/\(rw k).ver = ver/\(match (rw k).kind with
   | .nil=>c = []/\K []
   | .sli e' sz' false c'=>e' = e/\sz' = sz/\c' = c/\K [k]
   | _=>False)
  | _=>False)
 | _=>False
def zzT (f:PV->RV->(List Nat->Prop)->Prop):List PV->List RV->(List Nat->Prop)->Prop
 | [],[],K=>K []
 | p :: ps,r :: rs,K=>f p r fun a=>zzT f ps rs fun b=>K (a ++ b)
 | _,_,_=>False
def zCp (rw:Nat->Row) (p:PV) (rv:RV) (K:List Nat->Prop):Prop :=
 match rv with
 | .ag l=>(match p with | .ag ps=>zzT (znF rw) ps l K | _=>False)
 | .tup l=>(match p with | .tup ps=>zzT (znF rw) ps l K | _=>False)
 | r=>znF rw p r K
def zs6 (rw:Nat->Row) (p:PV) (rv:RV) (K:List Nat->Prop):Prop :=
 match rv with
 | .ag l=>(match p with | .ag ps=>zzT (zCp rw) ps l K | _=>False)
 | .tup l=>(match p with | .tup ps=>zzT (zCp rw) ps l K | _=>False)
 | r=>znF rw p r K
section
variable {G:Ghost} {E:Env} {w:World}
def zcB (E:Env) (ids:List Nat):List Nat:=ids.filterMap E.rm
def zNd (G:Ghost) (E:Env) (w:World) (f:PV->RV->(List Nat->Prop)->Prop):Prop :=
 ∀ (p:PV) (rv:RV) (K:List Nat->Prop) (v:Value),f p rv K->Rep w E 0 p v->∃ ids,K ids/\(∀ k ∈ ids,k < lent/\(E.R k).kind.hand = true) /\
  ∀ bs:List Nat,(∀ b ∈ bs,∃ k,E.rm k = some b/\(E.R k).kind.live = true)->∃ lv,OutR w (Env.out G.w0.heap.size bs) rv v lv/\blk lv = zcB E ids
theorem zjS [zae] (hw:WOk G E w) (e2:TypeId):∀ (cs:List PV) (rows:List (List PV)) (K:List Nat->Prop) (vs:List Value),zs5 E.R e2 cs rows K->zbu w E 0 cs vs ->
 ∃ ids,K ids/\(∀ k ∈ ids,k < lent/\(E.R k).kind.hand = true)/\rows.length = vs.length/\rows.length = ids.length /\
  ∀ i (a:i < rows.length) (b:i < vs.length) (c:i < ids.length),∃ v,E.R ids[i] = ⟨v,.sli e2 1 false rows[i]⟩/\vs[i] = E.rv ids[i]:=by
 intro cs
 induction cs with
 | nil =>
   intro rows K vs hk hr
   cases rows with
   | nil =>
     have:vs = []:=List.eq_nil_of_length_eq_zero hr.1.symm
     subst this
     exact ⟨[],hk,sp,rfl,rfl,fun i a=>absurd a sp⟩
   | cons r rs=>exact hk.elim
 | cons p cs ih =>
   intro rows K vs hk hr
   cases rows with
   | nil=>cases p <;> exact hk.elim
   | cons r rs =>
     cases p with
     | own j v =>
       obtain ⟨h1,h2,hk⟩:=hk
       cases vs with
       | nil=>simp [zbu] at hr
       | cons x vs =>
         obtain ⟨ids,k1,k2,k3,k4,k5⟩:=ih rs _ vs hk ⟨by simpa using hr.1,fun i a b=>hr.2 (i + 1) (by simpa using a) (by simpa using b)⟩
         have h0:=hr.2 0 sp sp
         simp only [List.getElem_cons_zero] at h0
         refine ⟨j :: ids,k1,fun k hk=>?_,by simp [k3],by simp [k4],fun i a b c=>?_⟩
         ·rcases List.mem_cons.1 hk with rfl | hk
          ·exact ⟨h1,by rw [h2];rfl⟩
          ·exact k2 k hk
         ·cases i with
          | zero =>
            cases h0 with
            | own hv hx=>exact ⟨v,h2,hx (by rw [h2]) (by rw [h2];rfl)⟩
          | succ i=>exact k5 i (by simpa using a) (by simpa using b) (by simpa using c)
     | _=>exact hk.elim
theorem zo4 [zae] (hw:WOk G E w):zNd G E w (znF E.R):=by
 intro p rv K v hk hp
 have hB:E.B = G.w0.heap.size:=hw.base
 have above:∀ (bs:List Nat),(∀ b ∈ bs,∃ k,E.rm k = some b/\(E.R k).kind.live = true)->∀ (q:PV) (x:Value),Rep w E.bare G.w0.heap.size q x->Rep w (Env.out G.w0.heap.size bs).bare G.w0.heap.size q x:=by
  intro bs hbs q x h
  refine h.above (fun _=>rfl) (fun _=>rfl) rfl rfl fun b hb hL hL'=>?_
  rcases hL' with h1 | h1
  ·omega
  ·obtain ⟨k,hk1,hk2⟩:=hbs b h1
   exact hL ((hw.live b).2 (.inl ⟨k,hk1,hk2⟩))
 unfold znF at hk
 cases rv with
 | im q =>
   simp only at hk
   cases hp with
   | v x=>obtain ⟨rfl,hk⟩:=hk;exact ⟨[],hk,sp,fun bs _=>⟨[],.im (.v _),rfl⟩⟩
   | @sl _ _ fr sz len cap cells a cs hl hc hm hr hh =>
     obtain ⟨rfl,⟨f,rfl⟩,hk⟩:=hk
     refine ⟨[],hk,sp,fun bs hbs=>⟨[],.im ?_,rfl⟩⟩
     have e1:E.lo 0 true = G.w0.heap.size:=by simp [Env.lo,hB]
     have e2:(Env.out G.w0.heap.size bs).bare.lo G.w0.heap.size f = G.w0.heap.size:=by simp [Env.lo,Env.bare]
     refine .sl cs hl hc hm (fun i hi=>?_) (fun i hi=>?_)
     ·obtain ⟨b,o,ha,hb,hL,hcell⟩:=hr i hi
      refine ⟨b,o,ha,?_,fun hL'=>?_,hcell⟩
      ·show (Env.out G.w0.heap.size bs).bare.lo G.w0.heap.size f <= b
       rw [e2,<- e1];exact hb
      ·rcases hL' with h1 | h1
       ·rw [e1] at hb;omega
       ·obtain ⟨k,hk1,hk2⟩:=hbs b h1
        exact hL ((hw.live b).2 (.inl ⟨k,hk1,hk2⟩))
     ·have h0:=hh i hi
      rw [e1] at h0
      show Rep w (Env.out G.w0.heap.size bs).bare.bare ((Env.out G.w0.heap.size bs).bare.lo G.w0.heap.size f) _ _
      rw [e2]
      exact above bs hbs _ _ h0
   | own=>exact hk.elim
   | ref=>exact hk.elim
   | eref=>exact hk.elim
   | ag=>exact hk.elim
   | tup=>exact hk.elim
   | clo=>exact hk.elim
   | junk=>exact hk.elim
 | fr e sz c =>
   simp only at hk
   cases hp with
   | v x=>obtain ⟨h1,rfl,hk⟩:=hk;rw [zfa h1];exact ⟨[],hk,sp,fun bs _=>⟨_,.nil,rfl⟩⟩
   | @own _ _ k ver _ hv hx =>
     obtain ⟨h0,h1,hk⟩:=hk
     have hrow:=hw.rows k
     unfold zav at hrow
     cases hkd:(E.R k).kind with
     | mp f=>simp only [hkd] at hk
     | dead=>simp only [hkd] at hk
     | box t cc=>simp only [hkd] at hk
     | tab e cc=>simp only [hkd] at hk
     | nil =>
       simp only [hkd] at hk hrow
       obtain ⟨rfl,hk⟩:=hk
       rw [hx h1 (by rw [hkd];rfl),hrow.2]
       exact ⟨[],hk,sp,fun bs _=>⟨_,.nil,rfl⟩⟩
     | sli e' sz' fz c' =>
       cases fz with
       | true=>simp only [hkd] at hk
       | false =>
         simp only [hkd] at hk hrow
         obtain ⟨rfl,rfl,rfl,hk⟩:=hk
         rw [hx h1 (by rw [hkd];rfl)]
         refine ⟨[k],hk,fun j hj=>by simp at hj;subst hj;exact ⟨h0,by rw [hkd];rfl⟩,fun bs hbs=>?_⟩
         rcases hrow with ⟨g1,g2,g3⟩ | ⟨b,n,cap,vs,rest,g1,g2,g3,g4,g5,g6,g7,g8,g9⟩
         ·rw [g2];subst g3
          exact ⟨_,.nil,by simp [blk,zcB,g1]⟩
         ·rw [g3]
          have hb:G.w0.heap.size <= b:=by
           rcases g2 with g2 | g2
           ·exact g2
           ·exact absurd g2.1 om
          refine ⟨_,.fr hb g4 g5 g6 g7 g8 ⟨g9.1,fun i a b=>?_⟩,by simp [blk,zcB,g1]⟩
          have:=g9.2 i a b
          rw [hB] at this
          exact above bs hbs _ _ this
   | sl=>exact hk.elim
   | ref=>exact hk.elim
   | eref=>exact hk.elim
   | ag=>exact hk.elim
   | tup=>exact hk.elim
   | clo=>exact hk.elim
   | junk=>exact hk.elim
 | ag l=>exact hk.elim
 | tup l=>exact hk.elim
 | tb e e2 rows =>
   simp only at hk
   cases hp with
   | v x=>obtain ⟨h1,rfl,hk⟩:=hk;rw [zfa h1];exact ⟨[],hk,sp,fun bs _=>⟨_,.tbn,rfl⟩⟩
   | @own _ _ k ver _ hv hx =>
     obtain ⟨h0,h1,hk⟩:=hk
     have hrow:=hw.rows k
     unfold zav at hrow
     cases hkd:(E.R k).kind with
     | mp f=>simp only [hkd] at hk
     | tab e' c =>
       simp only [hkd] at hk hrow
       obtain ⟨rfl,hk⟩:=hk
       rw [hx h1 (by rw [hkd];rfl)]
       rcases hrow with ⟨g1,g2,g3⟩ | ⟨b,n,cap,vs,rest,g1,g2,g3,g4,g5,g6,g7,g8,g9⟩
       ·subst g3
        obtain ⟨ids,k1,k2,k3,k4,k5⟩:=zjS hw e2 _ _ _ [] hk ⟨rfl,fun i a=>absurd a sp⟩
        have hi:ids = []:=List.eq_nil_of_length_eq_zero (by rw [<- k4,k3];rfl)
        have hr:rows = []:=List.eq_nil_of_length_eq_zero k3
        subst hi hr
        rw [g2]
        exact ⟨[k],k1,fun j hj=>by simp at hj;subst hj;exact ⟨h0,by rw [hkd];rfl⟩,fun bs _=>⟨_,.tbn,by simp [blk,zcB,g1]⟩⟩
       ·obtain ⟨ids,k1,k2,k3,k4,k5⟩:=zjS hw e2 _ _ _ vs hk g9
        rw [g3]
        have hb:G.w0.heap.size <= b:=by
         rcases g2 with g2 | g2
         ·exact g2
         ·exact absurd g2.1 om
        refine ⟨k :: ids,k1,fun j hj=>?_,fun bs hbs=>?_⟩
        ·rcases List.mem_cons.1 hj with rfl | hj
         ·exact ⟨h0,by rw [hkd];rfl⟩
         ·exact k2 j hj
        ·have inner:∀ i (a:i < rows.length) (b':i < vs.length) (c':i < ids.length),∃ m,OutR w (Env.out G.w0.heap.size bs) (.fr e2 1 rows[i]) vs[i] [(vs[i],m)]/\m = E.rm ids[i]:=by
          intro i a b' c'
          obtain ⟨v,q1,q2⟩:=k5 i a b' c'
          have hrow:=hw.rows ids[i]
          unfold zav at hrow
          rw [q1] at hrow
          simp only at hrow
          rw [q2]
          rcases hrow with ⟨f1,f2,f3⟩ | ⟨bi,ni,capi,vsi,resti,f1,f2,f3,f4,f5,f6,f7,f8,f9⟩
          ·rw [f2,f3];exact ⟨none,.nil,f1.symm⟩
          ·rw [f3]
           have hbi:G.w0.heap.size <= bi:=by
            rcases f2 with f2 | f2
            ·exact f2
            ·exact absurd f2.1 (by have:=(k2 _ (List.getElem_mem c')).1;omega)
           refine ⟨some bi,.fr hbi f4 f5 f6 f7 f8 ⟨f9.1,fun i' a' b''=>?_⟩,f1.symm⟩
           have:=f9.2 i' a' b''
           rw [hB] at this
           exact above bs hbs _ _ this
         refine ⟨_,.tb (lvs:=(List.range rows.length).map fun i=>(vs.getD i undef,E.rm (ids.getD i 0))) hb g4 g5 g6 g7 g8 (by rw [k3,g5]) (by simp [k3,g5]) (fun i b' c'=>?_) (fun i a b' c'=>?_),?_⟩
         ·simp [List.getD,b']
         ·obtain ⟨m,q1,q2⟩:=inner i a b' om
          have e1:vs.getD i undef = vs[i]:=by simp [List.getD,b']
          have e2':ids.getD i 0 = ids[i]'om:=by simp [List.getD,(by omega:i < ids.length)]
          simp only [List.getElem_map,List.getElem_range,e1,e2']
          rw [<- q2];exact q1
         ·simp only [blk,zcB,List.filterMap_cons,g1]
          congr 1
          rw [List.filterMap_map]
          have e3:ids = (List.range rows.length).map fun i=>ids.getD i 0:=by
           refine List.ext_getElem (by simp [k4]) fun i p q=>?_
           simp [List.getD,p]
          rw [e3,List.filterMap_map,<- e3]
          rfl
     | nil =>
       simp only [hkd] at hk hrow
       obtain ⟨rfl,hk⟩:=hk
       rw [hx h1 (by rw [hkd];rfl),hrow.2]
       exact ⟨[],hk,sp,fun bs _=>⟨_,.tbn,rfl⟩⟩
     | sli e' sz' fz c' =>
       cases fz with
       | true=>simp only [hkd] at hk
       | false =>
         simp only [hkd] at hk hrow
         obtain ⟨rfl,rfl,rfl,rfl,hk⟩:=hk
         rw [hx h1 (by rw [hkd];rfl)]
         refine ⟨[k],hk,fun j hj=>by simp at hj;subst hj;exact ⟨h0,by rw [hkd];rfl⟩,fun bs hbs=>?_⟩
         rcases hrow with ⟨g1,g2,g3⟩ | ⟨b,n,cap,vs,rest,g1,g2,g3,g4,g5,g6,g7,g8,g9⟩
         ·rw [g2]
          exact ⟨_,.tbn,by simp [blk,zcB,g1]⟩
         ·rw [g3]
          have hb:G.w0.heap.size <= b:=by
           rcases g2 with g2 | g2
           ·exact g2
           ·exact absurd g2.1 om
          have hn0:n = 0:=by
           have:=g9.1
           simp at this
           omega
          refine ⟨_,.tb (lvs:=[]) (e2:=e2) hb g4 om g6 g7 om (by simp [hn0]) (by simp [hn0]) (fun i b' c'=>absurd c' sp) (fun i a=>absurd a sp),by simp [blk,zcB,g1]⟩
     | dead=>simp only [hkd] at hk
     | box t c=>simp only [hkd] at hk
   | _=>exact hk.elim
theorem zgB {f:PV->RV->(List Nat->Prop)->Prop} (hf:zNd G E w f):∀ (ps:List PV) (rs:List RV) (K:List Nat->Prop) (vs:List Value),zzT f ps rs K->zbu w E 0 ps vs ->
 ∃ ids,K ids/\(∀ k ∈ ids,k < lent/\(E.R k).kind.hand = true)/\rs.length = vs.length /\
  ∀ bs:List Nat,(∀ b ∈ bs,∃ k,E.rm k = some b/\(E.R k).kind.live = true)->∃ lvs:List (List (Value × Option Nat)),rs.length = lvs.length /\
   (∀ i (a:i < rs.length) (b:i < vs.length) (c:i < lvs.length),OutR w (Env.out G.w0.heap.size bs) rs[i] vs[i] lvs[i])/\blk lvs.flatten = zcB E ids:=by
 intro ps
 induction ps with
 | nil =>
   intro rs K vs hk hr
   cases rs with
   | nil =>
     have:vs = []:=List.eq_nil_of_length_eq_zero hr.1.symm
     subst this
     exact ⟨[],hk,sp,rfl,fun bs _=>⟨[],rfl,fun i a=>absurd a sp,rfl⟩⟩
   | cons r rs=>exact hk.elim
 | cons p ps ih =>
   intro rs K vs hk hr
   cases rs with
   | nil=>exact hk.elim
   | cons r rs =>
     cases vs with
     | nil=>simp [zbu] at hr
     | cons v vs =>
       obtain ⟨a,hk,ha,hb⟩:=hf p r _ v hk (hr.2 0 sp sp)
       obtain ⟨b,hk,hc,hlen,hd⟩:=ih rs _ vs hk ⟨by simpa using hr.1,fun i x y=>hr.2 (i + 1) (by simpa using x) (by simpa using y)⟩
       refine ⟨a ++ b,hk,fun k hk=>?_,by simp [hlen],fun bs hbs=>?_⟩
       ·rcases List.mem_append.1 hk with h | h
        ·exact ha k h
        ·exact hc k h
       ·obtain ⟨lv,h1,h2⟩:=hb bs hbs
        obtain ⟨lvs,h3,h4,h5⟩:=hd bs hbs
        refine ⟨lv :: lvs,by simp [h3],fun i x y z=>?_,?_⟩
        ·cases i with
         | zero=>exact h1
         | succ i=>exact h4 i (by simpa using x) (by simpa using y) (by simpa using z)
        ·simp only [List.flatten_cons,blk,zcB,List.filterMap_append] at h2 h5 ⊢
         rw [h2,h5]
theorem zyI [zae] (hw:WOk G E w):zNd G E w (zCp E.R):=by
 intro p rv K v hk hp
 have h0:=zo4 hw
 unfold zCp at hk
 cases rv with
 | im q=>exact h0 p _ K v hk hp
 | fr e sz c=>exact h0 p _ K v hk hp
 | tb e e2 rows=>exact h0 p _ K v hk hp
 | ag l =>
   simp only at hk
   cases hp with
   | @ag _ _ ps vs hl hh =>
     obtain ⟨ids,h1,h2,h3,h4⟩:=zgB h0 ps l K vs hk ⟨hl,hh⟩
     exact ⟨ids,h1,h2,fun bs hbs=>let ⟨lvs,q1,q2,q3⟩:=h4 bs hbs;⟨_,.ag h3 q1 q2,q3⟩⟩
   | _=>exact hk.elim
 | tup l =>
   simp only at hk
   cases hp with
   | @tup _ _ ps vs hl hh =>
     obtain ⟨ids,h1,h2,h3,h4⟩:=zgB h0 ps l K vs hk ⟨hl,hh⟩
     exact ⟨ids,h1,h2,fun bs hbs=>let ⟨lvs,q1,q2,q3⟩:=h4 bs hbs;⟨_,.tup h3 q1 q2,q3⟩⟩
   | _=>exact hk.elim
theorem zyJ [zae] (hw:WOk G E w):zNd G E w (zs6 E.R):=by
 intro p rv K v hk hp
 have h0:=zo4 hw
 have h1':=zyI hw
 unfold zs6 at hk
 cases rv with
 | im q=>exact h0 p _ K v hk hp
 | fr e sz c=>exact h0 p _ K v hk hp
 | tb e e2 rows=>exact h0 p _ K v hk hp
 | ag l =>
   simp only at hk
   cases hp with
   | @ag _ _ ps vs hl hh =>
     obtain ⟨ids,h1,h2,h3,h4⟩:=zgB h1' ps l K vs hk ⟨hl,hh⟩
     exact ⟨ids,h1,h2,fun bs hbs=>let ⟨lvs,q1,q2,q3⟩:=h4 bs hbs;⟨_,.ag h3 q1 q2,q3⟩⟩
   | _=>exact hk.elim
 | tup l =>
   simp only at hk
   cases hp with
   | @tup _ _ ps vs hl hh =>
     obtain ⟨ids,h1,h2,h3,h4⟩:=zgB h1' ps l K vs hk ⟨hl,hh⟩
     exact ⟨ids,h1,h2,fun bs hbs=>let ⟨lvs,q1,q2,q3⟩:=h4 bs hbs;⟨_,.tup h3 q1 q2,q3⟩⟩
   | _=>exact hk.elim
theorem zs7 [zae] (hw:WOk G E w):∀ (ids:List Nat),ids.Nodup->(∀ k ∈ ids,k < lent/\(E.R k).kind.hand = true)->(zcB E ids).Nodup:=by
 intro ids
 induction ids with
 | nil=>intro _ _;exact List.nodup_nil
 | cons k ks ih =>
   intro hn hk
   have hn':=List.nodup_cons.1 hn
   have ih':=ih hn'.2 fun j hj=>hk j (by simp [hj])
   unfold zcB at *
   cases hm:E.rm k with
   | none=>rw [List.filterMap_cons_none hm];exact ih'
   | some b =>
     rw [List.filterMap_cons_some hm]
     refine List.nodup_cons.2 ⟨fun hb=>?_,ih'⟩
     obtain ⟨j,hj,hjb⟩:=List.mem_filterMap.1 hb
     have:=hw.inj k j b (RK.nd_hand (hk k sp).2) (RK.nd_hand (hk j (by simp [hj])).2) hm hjb
     subst this
     exact hn'.1 hj
end
def zHC (T:Tab) (s:St) (r:ResultVar) (K:PV->Prop):Prop :=
 match r with
 | .tmp t=>K (s.sl t)
 | .cell a t=>zue s.rw (s.sl a) fun m c off=>ldK T t m c off K
def zCo (T:Tab) (s:St):List ResultVar->(List PV->Prop)->Prop
 | [],K=>K []
 | r :: rs,K=>zHC T s r fun p=>zCo T s rs fun ps=>K (p :: ps)
def zyH (T:Tab) (s:St) (rs:List ResultVar) (rv:RV):Prop :=
 match rs with
 | [r]=>zHC T s r fun p=>zs6 s.rw p rv List.Nodup
 | rs=>zCo T s rs fun ps=>zs6 s.rw (.tup ps) rv List.Nodup
def St.init (args:List PV):St:=⟨fun i=>args.getD i .junk,fun _=>⟨0,.dead⟩⟩
def zMj (T:Tab) (rs:List ResultVar) (rv:RV):AX->St->Prop
 | .norm,s=>zyH T s rs rv
 | .ret,s=>zyH T s rs rv
 | .exit _,_=>False
section
variable {P:Program} {T:Tab} {G:Ghost} {E:Env} {s:St} {a:Act} {w:World}
def zl9 (tmps:Array Value):ResultVar->Sem Value
 | .tmp t=>pure (tmps.getD t undef)
 | .cell a t=>do loadVar t (<- asAddr (tmps.getD a undef))
theorem zdT [zae] (hT:T.Ok P) (hs:SimE G E s a w) {r:ResultVar} {K:PV->Prop} (hk:zHC T s r K):∃ p v,K p/\(zl9 a.tmps r).run P w = .ok v w/\Rep w E 0 p v:=by
 cases r with
 | tmp t=>exact ⟨_,_,hk,rfl,hs.slots t⟩
 | cell ad t =>
   obtain ⟨m,c,off,hk,hat⟩:=zpj (K:=fun m c off=>ldK T t m c off K) hk hs.rw hs.wok (hs.slots ad)
   obtain ⟨p,v,hp,hv,hr⟩:=zts hT hk hat
   obtain ⟨b,o,cs,hx,_⟩:=hat
   refine ⟨p,v,hp,?_,hr⟩
   rw [hx] at hv
   simp only [zl9,hx]
   simpa [Instr.loadAt,Instr.sureAddr,asAddr] using hv
theorem zo3 [zae] (hT:T.Ok P) (hs:SimE G E s a w):∀ (rs:List ResultVar) (K:List PV->Prop),zCo T s rs K->∃ ps vs,K ps/\zbu w E 0 ps vs/\vs.length = rs.length/\∀ i (h:i < rs.length) (h':i < vs.length),(zl9 a.tmps rs[i]).run P w = .ok vs[i] w:=by
 intro rs
 induction rs with
 | nil=>intro K hk;exact ⟨[],[],hk,⟨rfl,fun i h=>absurd h sp⟩,rfl,fun i h=>absurd h sp⟩
 | cons r rs ih =>
   intro K hk
   obtain ⟨p,v,hk,hv,hr⟩:=zdT hT hs hk
   obtain ⟨ps,vs,hk,hrl,hlen,hvs⟩:=ih _ hk
   refine ⟨p :: ps,v :: vs,hk,⟨by simp [hrl.1],fun i h h'=>?_⟩,by simp [hlen],fun i h h'=>?_⟩
   ·cases i with
    | zero=>exact hr
    | succ i=>exact hrl.2 i (by simpa using h) (by simpa using h')
   ·cases i with
    | zero=>exact hv
    | succ i=>exact hvs i (by simpa using h) (by simpa using h')
theorem zcd {fn:Func} {tmps:Array Value} {vs:List Value} (hl:vs.length = fn.results.toList.length) (hn:fn.results.toList.length <= 4) (h:∀ i (a:i < fn.results.toList.length) (b:i < vs.length),(zl9 tmps fn.results.toList[i]).run P w = .ok vs[i] w) :
 (results fn tmps).run P w = .ok (if h:vs.toArray.size = 1 then vs.toArray[0] else .tuple vs.toArray) w:=by
 have e:∀ (f g:ResultVar->Sem Value),f = g->(do let vs <- fn.results.mapM f;pure (if h:vs.size = 1 then vs[0] else .tuple vs):Sem Value) = (do let vs <- fn.results.mapM g;pure (if h:vs.size = 1 then vs[0] else .tuple vs)):=by
  rintro f g rfl;rfl
 have e1:results fn tmps = (do let vs <- fn.results.mapM (zl9 tmps);pure (if h:vs.size = 1 then vs[0] else .tuple vs)):=by
  unfold results
  exact e _ _ (by funext x;cases x <;> rfl)
 rw [e1]
 generalize fn.results = rs at *
 obtain ⟨l⟩:=rs
 have step:∀ (l:List ResultVar) (vs:List Value),vs.length = l.length->l.length <= 4->(∀ i (a:i < l.length) (b:i < vs.length),(zl9 tmps l[i]).run P w = .ok vs[i] w)->((⟨l⟩:Array ResultVar).mapM (zl9 tmps)).run P w = .ok vs.toArray w:=by
  intro l vs hl hn h
  match l,vs,hl,hn with
  | [],[],_,_=>simp
  | [r1],[v1],_,_ =>
    have h1:=h 0 sp sp
    simp at h1
    simp [h1]
  | [r1,r2],[v1,v2],_,_ =>
    have h1:=h 0 sp sp
    have h2:=h 1 sp sp
    simp at h1 h2
    simp [h1,h2]
  | [r1,r2,r3],[v1,v2,v3],_,_ =>
    have h1:=h 0 sp sp
    have h2:=h 1 sp sp
    have h3:=h 2 sp sp
    simp at h1 h2 h3
    simp [h1,h2,h3]
  | [r1,r2,r3,r4],[v1,v2,v3,v4],_,_ =>
    have h1:=h 0 sp sp
    have h2:=h 1 sp sp
    have h3:=h 2 sp sp
    have h4:=h 3 sp sp
    simp at h1 h2 h3 h4
    simp [h1,h2,h3,h4]
 have hmap:=step l vs hl hn h
 rw [Sem.run_bind,hmap]
 rfl
theorem zs4 [zae] (hT:T.Ok P) (hs:SimE G E s a w) {fn:Func} (hn:fn.results.toList.length <= 4) {rv:RV} (hk:zyH T s fn.results.toList rv) :
 ∃ v lv,(results fn a.tmps).run P w = .ok v w/\OutR w (Env.out G.w0.heap.size (blk lv)) rv v lv/\(blk lv).Nodup:=by
 have fin:∀ (p:PV) (v:Value),zs6 s.rw p rv List.Nodup->Rep w E 0 p v->∃ lv,OutR w (Env.out G.w0.heap.size (blk lv)) rv v lv/\(blk lv).Nodup:=fun p v hk hp=>by
  rw [<- hs.rw] at hk
  obtain ⟨ids,hnd,hids,hout⟩:=zyJ hs.wok p rv _ v hk hp
  obtain ⟨lv,h1,h2⟩:=hout (zcB E ids) fun b hb=>by
   obtain ⟨k,hk,hkb⟩:=List.mem_filterMap.1 hb
   exact ⟨k,hkb,RK.live_hand (hids k hk).2⟩
  rw [<- h2] at h1
  exact ⟨lv,h1,by rw [h2];exact zs7 hs.wok ids hnd hids⟩
 unfold zyH at hk
 split at hk
 ·rename_i r hr
  obtain ⟨p,v,hk,hv,hrep⟩:=zdT hT hs hk
  obtain ⟨lv,h1,h2⟩:=fin p v hk hrep
  refine ⟨v,lv,?_,h1,h2⟩
  rw [zcd (vs:=[v]) (by simp [hr]) hn fun i a b=>by
   have hi:i = 0:=by simp [hr] at a;omega
   subst hi
   simpa [hr] using hv]
  rfl
 ·rename_i rs hne
  obtain ⟨ps,vs,hk,hrl,hlen,hvs⟩:=zo3 hT hs _ _ hk
  obtain ⟨lv,h1,h2⟩:=fin (.tup ps) (.tuple vs.toArray) hk (.tup hrl.1 hrl.2)
  refine ⟨_,lv,?_,h1,h2⟩
  rw [zcd hlen hn hvs]
  have:¬ vs.toArray.size = 1:=by
   intro h1
   have:fn.results.toList.length = 1:=by rw [<- hlen];simpa using h1
   obtain ⟨r,hr⟩:=List.length_eq_one_iff.1 this
   exact hne r hr
  rw [dif_neg this]
end
theorem AC.of [zae] {P:Program} {T:Tab} {f:FuncId} {fn:Func} {c:Code} {args:List PV} {rv:RV} (hT:T.Ok P) (hm:P.follows .mixedOrders = true) (hf:P.funcs[f]? = some fn) (hname:(fn.name == "runtime.NumGoroutine") = false)
 (hb:fn.body = some c) (hfit:(fits fn.ntmps c && decide (args.length <= fn.ntmps) && decide (fn.results.toList.length <= 4)) = true)
 (h:cwp P T c (zMj T fn.results.toList rv) (St.init args)):AC P f args rv:=by
 simp only [Bool.and_eq_true,decide_eq_true_eq] at hfit
 obtain ⟨⟨hfit,hargs⟩,hn4⟩:=hfit
 refine ⟨⟨fn,hf,hname,by rw [hb];rfl⟩,fun w vals hphi hvals=>?_⟩
 have hlen:args.length = vals.length:=hvals.1
 let G:Ghost:=⟨w,fun _ _=>False,fn.ntmps,fun _=>⟨0,.dead⟩,fun _=>none,fun _=>default,fun _=>False⟩
 let act:Act:={ tmps:=vals.toArray ++ Array.replicate (fn.ntmps - vals.toArray.size) undef,defers:=[] }
 have hsim:Sim G (St.init args) act w:=by
  refine ⟨Env.inn w.heap.size,rfl,⟨fun k=>trivial,fun k k' b h=>(by cases h),fun b=>⟨fun h=>h.elim,fun h=>by rcases h with ⟨k,h,_⟩ | h;(cases h);exact h⟩,fun k h=>(by cases h),rfl,rfl,⟨fun b h=>h.elim,fun k b h=>h.elim,hphi⟩,fun k b h=>(by cases h),⟨rfl,rfl,OutLe.refl _,Nat.le_refl _,fun _ _ _=>rfl⟩,fun k=>⟨Nat.zero_le _,fun _ h=>(by cases h)⟩⟩,?_,rfl,fun i=>?_⟩
  ·show (vals.toArray ++ Array.replicate (fn.ntmps - vals.toArray.size) undef).size = fn.ntmps
   simp;omega
  ·show Rep w (Env.inn w.heap.size) 0 (args.getD i .junk) ((vals.toArray ++ Array.replicate (fn.ntmps - vals.toArray.size) undef).getD i undef)
   by_cases hi:i < args.length
   ·have e1:args.getD i .junk = args[i]:=by simp [List.getD,hi]
    have e2:(vals.toArray ++ Array.replicate (fn.ntmps - vals.toArray.size) undef).getD i undef = vals[i]'om:=by
     rw [Array.getD_eq_getD_getElem?,Array.getElem?_append_left (by simp;omega)]
     simp [(by omega:i < vals.length)]
    rw [e1,e2]
    exact hvals.2 i hi om
   ·have e1:args.getD i .junk = .junk:=by simp [List.getD,hi]
    rw [e1];exact .junk _
 have hwp:=zin (G:=G) hT hm c hfit _ _ h act w hsim
 refine calls_of_wp hf hb (wp_mono hwp fun e a' w' hq=>?_)
 have fin:∀ s,Sim G s a' w'->zyH T s fn.results.toList rv->a'.defers = []/\∃ v,(results fn a'.tmps).run P w' = .ok v w'/\∃ v' lv,Ending.returned v = .returned v'/\Ext w w'/\OutR w' (Env.out w.heap.size (blk lv)) rv v' lv/\(blk lv).Nodup:=fun s hs hk=>by
  obtain ⟨E,hs⟩:=hs
  obtain ⟨v,lv,h1,h2,h3⟩:=zs4 hT hs hn4 hk
  have hkept:=hs.wok.kept
  exact ⟨hs.defers,v,h1,v,lv,rfl,⟨hkept.os,hkept.tape,hkept.output,hkept.size,fun b hb=>hkept.block b hb fun _ h=>h⟩,h2,h3⟩
 cases e with
 | normal=>obtain ⟨s,hs,hk⟩:=hq;exact fin s hs hk
 | ret=>obtain ⟨s,hs,hk⟩:=hq;exact fin s hs hk
 | exit id=>obtain ⟨s,hs,hk⟩:=hq;exact hk.elim
 | goto l=>exact hq.elim
 | panic ch=>exact hq.elim
 | outgrown=>exact hq.elim
#print axioms AC.of
def zuz (rw:Nat->Row):Nat->List LR->List (List PV)->Prop
 | _,[],[]=>True
 | i,r :: ins,c :: outs=>rw (lent + i) = ⟨1,.sli r.e r.sz false c⟩/\zuz rw (i + 1) ins outs
 | _,_,_=>False
def zIz (T:Tab) (s:St) (rs:List ResultVar) (ins:List LR) (outs:List (List PV)) (x:Value):Prop :=
 zuz s.rw 0 ins outs/\match rs with
 | [r]=>zHC T s r fun p=>p = .v x
 | []=>x = .tuple #[]
 | _=>False
def zNc (T:Tab) (rs:List ResultVar) (ins:List LR) (outs:List (List PV)) (x:Value):AX->St->Prop
 | .norm,s=>zIz T s rs ins outs x
 | .ret,s=>zIz T s rs ins outs x
 | .exit _,_=>False
def St.initM (args:List PV) (ins:List LR):St:=⟨fun i=>args.getD i .junk,inR ins⟩
theorem zFe {rw:Nat->Row}:∀ (ins:List LR) (outs:List (List PV)) (n:Nat),zuz rw n ins outs->outs.length = ins.length/\∀ (i:Nat) (r:LR) (c:List PV),ins[i]? = some r->outs[i]? = some c->rw (lent + (n + i)) = ⟨1,.sli r.e r.sz false c⟩:=by
 intro ins
 induction ins with
 | nil=>intro outs n h;cases outs with
   | nil=>exact ⟨rfl,fun i r c h=>by simp at h⟩
   | cons _ _=>exact h.elim
 | cons r ins ih =>
   intro outs n h
   cases outs with
   | nil=>exact h.elim
   | cons c outs =>
     obtain ⟨h1,h2⟩:=h
     obtain ⟨a,b⟩:=ih outs (n + 1) h2
     refine ⟨by simp [a],fun i r' c' hr hc=>?_⟩
     cases i with
     | zero=>simp at hr hc;subst hr;subst hc;exact h1
     | succ i =>
       have:=b i r' c' (by simpa using hr) (by simpa using hc)
       rw [Nat.add_right_comm n 1 i] at this
       exact this
theorem AM.of [zae] {P:Program} {T:Tab} {f:FuncId} {fn:Func} {c:Code} {args:List PV} {ins:List LR} {outs:List (List PV)} {x:Value} (hT:T.Ok P) (hm:P.follows .mixedOrders = true) (hf:P.funcs[f]? = some fn) (hname:(fn.name == "runtime.NumGoroutine") = false)
 (hb:fn.body = some c) (hfit:(fits fn.ntmps c && decide (args.length <= fn.ntmps) && decide (fn.results.toList.length <= 4)) = true) (hi:∀ r ∈ ins,zbs r.c) (ho:∀ c ∈ outs,zbs c) (hlen:outs.length = ins.length)
 (h:(∀ r ∈ ins,r.c.length <= 9223372036854775807 * r.sz)->cwp P T c (zNc T fn.results.toList ins outs x) (St.initM args ins)):AM P f args ins outs x:=by
 simp only [Bool.and_eq_true,decide_eq_true_eq] at hfit
 obtain ⟨⟨hfit,hargs⟩,hn4⟩:=hfit
 refine ⟨⟨fn,hf,hname,by rw [hb];rfl⟩,hi,hlen,ho,fun w M E vals hw hR hvals=>?_⟩
 have hlen':args.length = vals.length:=hvals.1
 let G:Ghost:=⟨w,M,fn.ntmps,E.R,E.rm,E.rv,E.X⟩
 let act:Act:={ tmps:=vals.toArray ++ Array.replicate (fn.ntmps - vals.toArray.size) undef,defers:=[] }
 have hsim:Sim G (St.initM args ins) act w:=by
  refine ⟨E,hR,⟨hw.rows,hw.inj,hw.live,hw.pos,hw.base,hw.xs,hw.fx,hw.apart,⟨hw.kept.os,hw.kept.tape,hw.kept.output,hw.kept.size,hw.kept.block⟩,hw.pin⟩,?_,rfl,fun i=>?_⟩
  ·show (vals.toArray ++ Array.replicate (fn.ntmps - vals.toArray.size) undef).size = fn.ntmps
   simp;omega
  ·show Rep w E 0 (args.getD i .junk) ((vals.toArray ++ Array.replicate (fn.ntmps - vals.toArray.size) undef).getD i undef)
   by_cases hi:i < args.length
   ·have e1:args.getD i .junk = args[i]:=by simp [List.getD,hi]
    have e2:(vals.toArray ++ Array.replicate (fn.ntmps - vals.toArray.size) undef).getD i undef = vals[i]'om:=by
     rw [Array.getD_eq_getD_getElem?,Array.getElem?_append_left (by simp;omega)]
     simp [(by omega:i < vals.length)]
    rw [e1,e2]
    exact hvals.2 i hi om
   ·have e1:args.getD i .junk = .junk:=by simp [List.getD,hi]
    rw [e1];exact .junk _
 have hlens:∀ r ∈ ins,r.c.length <= 9223372036854775807 * r.sz:=fun r hr=>by
  obtain ⟨i,hi,rfl⟩:=List.getElem_of_mem hr
  have hrow:=hw.rows (lent + i)
  unfold zav at hrow
  rw [hR,ztk (List.getElem?_eq_getElem hi)] at hrow
  simp only at hrow
  rcases hrow with ⟨_,_,hc⟩ | ⟨b,n,cap,vs,rest,h1,h2,h3,h4,h5,h6,h7,h8,h9⟩
  ·rw [hc];exact Nat.zero_le _
  ·rw [h9.1,h5];exact Nat.mul_le_mul_right _ (Nat.le_trans h6 h7)
 have hwp:=zin (G:=G) hT hm c hfit _ _ (h hlens) act w hsim
 refine calls_of_wp hf hb (wp_mono hwp fun e a' w' hq=>?_)
 have fin:∀ s,Sim G s a' w'->zIz T s fn.results.toList ins outs x->a'.defers = []/\∃ v,(results fn a'.tmps).run P w' = .ok v w'/\Ending.returned v = .returned x/\∃ E',WOk ⟨w,M,0,E.R,E.rm,E.rv,E.X⟩ E' w' /\
  ∀ (i:Nat) (r:LR) (c:List PV),ins[i]? = some r->outs[i]? = some c->E'.R (lent + i) = ⟨1,.sli r.e r.sz false c⟩:=fun s hs hk=>by
  obtain ⟨E',hs⟩:=hs
  obtain ⟨hrows,hk⟩:=hk
  have hat:=(zFe _ _ _ hrows).2
  have hlast:∃ E',WOk ⟨w,M,0,E.R,E.rm,E.rv,E.X⟩ E' w' /\
   ∀ (i:Nat) (r:LR) (c:List PV),ins[i]? = some r->outs[i]? = some c->E'.R (lent + i) = ⟨1,.sli r.e r.sz false c⟩ :=
   ⟨E',⟨hs.wok.rows,hs.wok.inj,hs.wok.live,hs.wok.pos,hs.wok.base,hs.wok.xs,hs.wok.fx,hs.wok.apart,⟨hs.wok.kept.os,hs.wok.kept.tape,hs.wok.kept.output,hs.wok.kept.size,hs.wok.kept.block⟩,hs.wok.pin⟩,fun i r c h1 h2=>by
    have:=hat i r c h1 h2
    rw [Nat.zero_add] at this
    rw [hs.rw];exact this⟩
  split at hk
  ·rename_i r hr
   obtain ⟨p,v,hk,hv,hrep⟩:=zdT hT hs hk
   subst hk
   have:=hrep.v_eq;subst this
   refine ⟨hs.defers,v,?_,rfl,hlast⟩
   rw [zcd (vs:=[v]) (by simp [hr]) hn4 fun i a b=>by
    have hi:i = 0:=by simp [hr] at a;omega
    subst hi
    simpa [hr] using hv]
   rfl
  ·rename_i hr
   subst hk
   refine ⟨hs.defers,_,?_,rfl,hlast⟩
   rw [zcd (vs:=[]) (by simp [hr]) hn4 fun i a b=>absurd a (by simp [hr])]
   rfl
  ·exact hk.elim
 cases e with
 | normal=>obtain ⟨s,hs,hk⟩:=hq;exact fin s hs hk
 | ret=>obtain ⟨s,hs,hk⟩:=hq;exact fin s hs hk
 | exit id=>obtain ⟨s,hs,hk⟩:=hq;exact hk.elim
 | goto l=>exact hq.elim
 | panic ch=>exact hq.elim
 | outgrown=>exact hq.elim
def zHB (T:Tab) (s:St) (rs:List ResultVar) (e e2 n:Nat) (rows':List (List PV)) (res:TR):Prop :=
 (∃ q:List Nat,TabIs s.rw lent 1 e e2 q rows'/\q.Perm (List.range n))/\match res with
 | .self=>(match rs with | [r]=>zHC T s r fun p=>p = .own lent 1 | _=>False)
 | .selfx x=>(match rs with | [r,r2]=>zHC T s r (fun p=>p = .own lent 1)/\zHC T s r2 (fun p=>p = .v x) | _=>False)
 | .rv r=>zyH T s rs r
def zNb (T:Tab) (rs:List ResultVar) (e e2 n:Nat) (rows':List (List PV)) (res:TR):AX->St->Prop
 | .norm,s=>zHB T s rs e e2 n rows' res
 | .ret,s=>zHB T s rs e e2 n rows' res
 | .exit _,_=>False
def St.initT (args:List PV) (e e2:Nat) (rows:List (List PV)):St:=⟨fun i=>args.getD i .junk,inT e e2 rows⟩
theorem AT.of [zae] {P:Program} {T:Tab} {f:FuncId} {fn:Func} {c:Code} {args:List PV} {e e2:Nat} {rows rows':List (List PV)} {res:TR} (hT:T.Ok P) (hm:P.follows .mixedOrders = true) (hf:P.funcs[f]? = some fn) (hname:(fn.name == "runtime.NumGoroutine") = false)
 (hb:fn.body = some c) (hfit:(fits fn.ntmps c && decide (args.length <= fn.ntmps) && decide (fn.results.toList.length <= 4)) = true) (hi:zmj rows) (ho:zmj rows') (hlen:rows'.length = rows.length)
 (h:rows.length <= 9223372036854775807->(∀ i,i < rows.length->(rows.getD i []).length <= 9223372036854775807)->cwp P T c (zNb T fn.results.toList e e2 rows.length rows' res) (St.initT args e e2 rows)):AT P f args e e2 rows rows' res:=by
 simp only [Bool.and_eq_true,decide_eq_true_eq] at hfit
 obtain ⟨⟨hfit,hargs⟩,hn4⟩:=hfit
 refine ⟨⟨fn,hf,hname,by rw [hb];rfl⟩,hi,ho,hlen,fun w M E vals hw hR hvals=>?_⟩
 have hlen':args.length = vals.length:=hvals.1
 let G:Ghost:=⟨w,M,fn.ntmps,E.R,E.rm,E.rv,E.X⟩
 let act:Act:={ tmps:=vals.toArray ++ Array.replicate (fn.ntmps - vals.toArray.size) undef,defers:=[] }
 have hsim:Sim G (St.initT args e e2 rows) act w:=by
  refine ⟨E,hR,⟨hw.rows,hw.inj,hw.live,hw.pos,hw.base,hw.xs,hw.fx,hw.apart,⟨hw.kept.os,hw.kept.tape,hw.kept.output,hw.kept.size,hw.kept.block⟩,hw.pin⟩,?_,rfl,fun i=>?_⟩
  ·show (vals.toArray ++ Array.replicate (fn.ntmps - vals.toArray.size) undef).size = fn.ntmps
   simp;omega
  ·show Rep w E 0 (args.getD i .junk) ((vals.toArray ++ Array.replicate (fn.ntmps - vals.toArray.size) undef).getD i undef)
   by_cases hi:i < args.length
   ·have e1:args.getD i .junk = args[i]:=by simp [List.getD,hi]
    have e2:(vals.toArray ++ Array.replicate (fn.ntmps - vals.toArray.size) undef).getD i undef = vals[i]'om:=by
     rw [Array.getD_eq_getD_getElem?,Array.getElem?_append_left (by simp;omega)]
     simp [(by omega:i < vals.length)]
    rw [e1,e2]
    exact hvals.2 i hi om
   ·have e1:args.getD i .junk = .junk:=by simp [List.getD,hi]
    rw [e1];exact .junk _
 have hl1:rows.length <= 9223372036854775807:=by
  have hrow:=hw.rows lent
  unfold zav at hrow
  rw [hR,zga] at hrow
  simp only at hrow
  rcases hrow with ⟨_,_,hc⟩ | ⟨b,n,cap,vs,rest,h1,h2,h3,h4,h5,h6,h7,h8,h9⟩
  ·have:=congrArg List.length hc
   rw [zaq,List.length_range] at this
   rw [this];exact Nat.zero_le _
  ·have:=h9.1
   rw [zaq,List.length_range] at this
   rw [this,h5];exact Nat.le_trans h6 h7
 have hl2:∀ i,i < rows.length->(rows.getD i []).length <= 9223372036854775807:=fun i hi=>by
  have hrow:=hw.rows (sid lent i)
  unfold zav at hrow
  rw [hR,zjd hi] at hrow
  simp only at hrow
  rcases hrow with ⟨_,_,hc⟩ | ⟨b,n,cap,vs,rest,h1,h2,h3,h4,h5,h6,h7,h8,h9⟩
  ·rw [hc];exact Nat.zero_le _
  ·rw [h9.1,h5,Nat.mul_one];exact Nat.le_trans h6 h7
 have hwp:=zin (G:=G) hT hm c hfit _ _ (h hl1 hl2) act w hsim
 refine calls_of_wp hf hb (wp_mono hwp fun ee a' w' hlift=>?_)
 have fin:∀ s,Sim G s a' w'->zHB T s fn.results.toList e e2 rows.length rows' res->a'.defers = []/\∃ v,(results fn a'.tmps).run P w' = .ok v w'/\∃ (E':Env) (q:List Nat) (v':Value) (lv:List (Value × Option Nat)),Ending.returned v = .returned v'/\WOk ⟨w,M,0,E.R,E.rm,E.rv,E.X⟩ E' w' /\
  TabIs E'.R lent 1 e e2 q rows'/\q.Perm (List.range rows.length)/\res.ok w.heap.size (E.rv lent) w' v' lv:=fun s hs hk=>by
  obtain ⟨E',hs⟩:=hs
  obtain ⟨⟨q,htab,hq⟩,hk⟩:=hk
  rw [<- hs.rw] at htab
  have hwok:WOk ⟨w,M,0,E.R,E.rm,E.rv,E.X⟩ E' w':=⟨hs.wok.rows,hs.wok.inj,hs.wok.live,hs.wok.pos,hs.wok.base,hs.wok.xs,hs.wok.fx,hs.wok.apart,⟨hs.wok.kept.os,hs.wok.kept.tape,hs.wok.kept.output,hs.wok.kept.size,hs.wok.kept.block⟩,hs.wok.pin⟩
  have hself:∀ v,Rep w' E' 0 (.own lent 1) v->v = E.rv lent:=fun v hv=>by
   cases hv with
   | own h1 hx =>
     have h2:=hx (by rw [htab.top]) (by rw [htab.top];rfl)
     have h3:=(hwok.pin lent).2 (by rw [htab.top];show 1 = (E.R lent).ver;rw [hR,zga]) (by rw [htab.top];rfl)
     rw [h2];exact (h3.2.2 (by rw [htab.top];rfl)).2
  cases res with
  | self =>
    simp only at hk
    split at hk
    ·rename_i r hr
     obtain ⟨p,v,hp,hv,hrep⟩:=zdT hT hs hk
     subst hp
     refine ⟨hs.defers,v,?_,E',q,v,[],rfl,hwok,htab,hq,hself v hrep⟩
     rw [zcd (vs:=[v]) (by simp [hr]) hn4 fun i a b=>by
      have hi:i = 0:=by simp [hr] at a;omega
      subst hi
      simpa [hr] using hv]
     rfl
    ·exact hk.elim
  | selfx x =>
    simp only at hk
    split at hk
    ·rename_i r r2 hr
     obtain ⟨hk1,hk2⟩:=hk
     obtain ⟨p,v,hp,hv,hrep⟩:=zdT hT hs hk1
     obtain ⟨p2,v2,hp2,hv2,hrep2⟩:=zdT hT hs hk2
     subst hp hp2
     have:=hrep2.v_eq;subst this
     refine ⟨hs.defers,.tuple #[v,v2],?_,E',q,_,[],rfl,hwok,htab,hq,by show Value.tuple #[v,v2] = .tuple #[E.rv lent,v2];rw [hself v hrep]⟩
     rw [zcd (vs:=[v,v2]) (by simp [hr]) hn4 fun i a b=>by
      have hi:i = 0 \/ i = 1:=by simp [hr] at a;omega
      rcases hi with rfl | rfl
      ·simpa [hr] using hv
      ·simpa [hr] using hv2]
     rfl
    ·exact hk.elim
  | rv r =>
    simp only at hk
    obtain ⟨v,lv,h1,h2,h3⟩:=zs4 hT hs hn4 hk
    exact ⟨hs.defers,v,h1,E',q,v,lv,rfl,hwok,htab,hq,h2,h3⟩
 cases ee with
 | normal=>obtain ⟨s,hs,hk⟩:=hlift;exact fin s hs hk
 | ret=>obtain ⟨s,hs,hk⟩:=hlift;exact fin s hs hk
 | exit id=>obtain ⟨s,hs,hk⟩:=hlift;exact hk.elim
 | goto l=>exact hlift.elim
 | panic ch=>exact hlift.elim
 | outgrown=>exact hlift.elim
def zEF (T:Tab) (s:St) (rs:List ResultVar) (post:(Nat->Row)->PV->Prop):Prop :=
 match rs with
 | [r]=>zHC T s r fun p=>post s.rw p
 | rs=>zCo T s rs fun ps=>post s.rw (.tup ps)
def zHA (T:Tab) (rs:List ResultVar) (post:(Nat->Row)->PV->Prop):AX->St->Prop
 | .norm,s=>zEF T s rs post
 | .ret,s=>zEF T s rs post
 | .exit _,_=>False
def zjR:RK->Prop | .sli _ sz _ c=>c.length <= 9223372036854775807 * sz | .tab _ c=>c.length <= 9223372036854775807 | _=>True
def St.initG (args:List PV) (R0:Nat->Row):St:=⟨fun i=>args.getD i .junk,R0⟩
theorem AG.ofS [zae] {P:Program} {T:Tab} {f:FuncId} {fn:Func} {c:Code} {args:List PV} {R0:Nat->Row} {post:(Nat->Row)->PV->Prop} (hT:T.Ok P) (hm:P.follows .mixedOrders = true) (hf:P.funcs[f]? = some fn) (hname:(fn.name == "runtime.NumGoroutine") = false)
 (hb:fn.body = some c) (hfit:(fits fn.ntmps c && decide (args.length <= fn.ntmps) && decide (fn.results.toList.length <= 4)) = true)
 (h:(∀ k,zjR (R0 k).kind)->zPe P fn.ntmps c (zHA T fn.results.toList post) (St.initG args R0)):AG P f args R0 post:=by
 simp only [Bool.and_eq_true,decide_eq_true_eq] at hfit
 obtain ⟨⟨hfit,hargs⟩,hn4⟩:=hfit
 refine ⟨⟨fn,hf,hname,by rw [hb];rfl⟩,fun w M E vals hw hR hvals=>?_⟩
 have hlen':args.length = vals.length:=hvals.1
 let G:Ghost:=⟨w,M,fn.ntmps,E.R,E.rm,E.rv,E.X⟩
 let act:Act:={ tmps:=vals.toArray ++ Array.replicate (fn.ntmps - vals.toArray.size) undef,defers:=[] }
 have hsim:Sim G (St.initG args R0) act w:=by
  refine ⟨E,hR,⟨hw.rows,hw.inj,hw.live,hw.pos,hw.base,hw.xs,hw.fx,hw.apart,⟨hw.kept.os,hw.kept.tape,hw.kept.output,hw.kept.size,hw.kept.block⟩,hw.pin⟩,?_,rfl,fun i=>?_⟩
  ·show (vals.toArray ++ Array.replicate (fn.ntmps - vals.toArray.size) undef).size = fn.ntmps
   simp;omega
  ·show Rep w E 0 (args.getD i .junk) ((vals.toArray ++ Array.replicate (fn.ntmps - vals.toArray.size) undef).getD i undef)
   by_cases hi:i < args.length
   ·have e1:args.getD i .junk = args[i]:=by simp [List.getD,hi]
    have e2:(vals.toArray ++ Array.replicate (fn.ntmps - vals.toArray.size) undef).getD i undef = vals[i]'om:=by
     rw [Array.getD_eq_getD_getElem?,Array.getElem?_append_left (by simp;omega)]
     simp [(by omega:i < vals.length)]
    rw [e1,e2]
    exact hvals.2 i hi om
   ·have e1:args.getD i .junk = .junk:=by simp [List.getD,hi]
    rw [e1];exact .junk _
 have hl:∀ k,zjR (R0 k).kind:=fun k=>by
  have hrow:=hw.rows k
  unfold zav at hrow
  rw [hR] at hrow
  unfold zjR
  cases hk:(R0 k).kind with
  | sli e sz fz c =>
    rw [hk] at hrow
    rcases hrow with ⟨_,_,hc⟩ | ⟨b,n,cap,vs,rest,h1,h2,h3,h4,h5,h6,h7,h8,h9⟩
    ·subst hc;exact Nat.zero_le _
    ·show c.length <= _
     rw [h9.1,h5];exact Nat.mul_le_mul_right _ (Nat.le_trans h6 h7)
  | tab e c =>
    rw [hk] at hrow
    rcases hrow with ⟨_,_,hc⟩ | ⟨b,n,cap,vs,rest,h1,h2,h3,h4,h5,h6,h7,h8,h9⟩
    ·subst hc;exact Nat.zero_le _
    ·show c.length <= _
     rw [h9.1,h5];exact Nat.le_trans h6 h7
  | _=>trivial
 have hwp:=h hl G rfl act w hsim
 refine calls_of_wp hf hb (wp_mono hwp fun ee a' w' hlift=>?_)
 have fin:∀ s,Sim G s a' w'->zEF T s fn.results.toList post->a'.defers = []/\∃ v,(results fn a'.tmps).run P w' = .ok v w'/\∃ (E':Env) (p:PV) (v':Value),Ending.returned v = .returned v'/\WOk ⟨w,M,0,E.R,E.rm,E.rv,E.X⟩ E' w' /\
  Rep w' E' 0 p v'/\post E'.R p:=fun s hs hk=>by
  obtain ⟨E',hs⟩:=hs
  have hwok:WOk ⟨w,M,0,E.R,E.rm,E.rv,E.X⟩ E' w':=⟨hs.wok.rows,hs.wok.inj,hs.wok.live,hs.wok.pos,hs.wok.base,hs.wok.xs,hs.wok.fx,hs.wok.apart,⟨hs.wok.kept.os,hs.wok.kept.tape,hs.wok.kept.output,hs.wok.kept.size,hs.wok.kept.block⟩,hs.wok.pin⟩
  unfold zEF at hk
  split at hk
  ·rename_i r hr
   obtain ⟨p,v,hp,hv,hrep⟩:=zdT hT hs hk
   refine ⟨hs.defers,v,?_,E',p,v,rfl,hwok,hrep,by rw [hs.rw];exact hp⟩
   rw [zcd (vs:=[v]) (by simp [hr]) hn4 fun i a b=>by
    have hi:i = 0:=by simp [hr] at a;omega
    subst hi
    simpa [hr] using hv]
   rfl
  ·rename_i rs hne
   obtain ⟨ps,vs,hk,hrl,hlen,hvs⟩:=zo3 hT hs _ _ hk
   refine ⟨hs.defers,.tuple vs.toArray,?_,E',.tup ps,_,rfl,hwok,.tup hrl.1 hrl.2,by rw [hs.rw];exact hk⟩
   rw [zcd hlen hn4 hvs]
   have:¬ vs.toArray.size = 1:=by
    intro h1
    have:fn.results.toList.length = 1:=by rw [<- hlen];simpa using h1
    obtain ⟨r,hr⟩:=List.length_eq_one_iff.1 this
    exact hne r hr
   rw [dif_neg this]
 cases ee with
 | normal=>obtain ⟨s,hs,hk⟩:=hlift;exact fin s hs hk
 | ret=>obtain ⟨s,hs,hk⟩:=hlift;exact fin s hs hk
 | exit id=>obtain ⟨s,hs,hk⟩:=hlift;exact hk.elim
 | goto l=>exact hlift.elim
 | panic ch=>exact hlift.elim
 | outgrown=>exact hlift.elim
theorem AG.ofW [zae] {P:Program} {T:Tab} {f:FuncId} {fn:Func} {c:Code} {args:List PV} {R0:Nat->Row} {post:(Nat->Row)->PV->Prop} (hT:T.Ok P) (hm:P.follows .mixedOrders = true) (hf:P.funcs[f]? = some fn) (hname:(fn.name == "runtime.NumGoroutine") = false)
 (hb:fn.body = some c) (hfit:(fits fn.ntmps c && decide (args.length <= fn.ntmps) && decide (fn.results.toList.length <= 4)) = true)
 (h:(∀ k,zjR (R0 k).kind)->∃ s',Wk (St.initG args R0) s'/\cwp P T c (zHA T fn.results.toList post) s'):AG P f args R0 post :=
 AG.ofS hT hm hf hname hb hfit fun hl=>by
  simp only [Bool.and_eq_true,decide_eq_true_eq] at hfit
  obtain ⟨s',hW,hC⟩:=h hl
  exact fun G hn a w hs=>zIA hT hm hfit.1.1 hC G hn a w (hW G a w hs)
theorem AG.of [zae] {P:Program} {T:Tab} {f:FuncId} {fn:Func} {c:Code} {args:List PV} {R0:Nat->Row} {post:(Nat->Row)->PV->Prop} (hT:T.Ok P) (hm:P.follows .mixedOrders = true) (hf:P.funcs[f]? = some fn) (hname:(fn.name == "runtime.NumGoroutine") = false)
 (hb:fn.body = some c) (hfit:(fits fn.ntmps c && decide (args.length <= fn.ntmps) && decide (fn.results.toList.length <= 4)) = true)
 (h:(∀ k,zjR (R0 k).kind)->cwp P T c (zHA T fn.results.toList post) (St.initG args R0)):AG P f args R0 post :=
 AG.ofW hT hm hf hname hb hfit fun hl=>⟨_,Wk.refl _,h hl⟩
end Go.Abs

/- DERIVED by an AI agent. -/
import Derived.Test.YtkledeboboplmaaGreatA8
/- DERIVED by an AI agent. What a region that draws its order asks. No program in sight. -/
namespace Go.Abs
set_option linter.unusedSimpArgs false
def zDh:PV→List Nat | .own k _=>[k % 1000] | .ref k _ _=>[k % 1000] | _=>[]
def zdZ:PV→List Nat | .own k _=>[k % 1000] | .ref k _ _=>[k % 1000] | .ag c=>c.flatMap zDh | _=>[]
def zdl (l:List Nat) (k:Nat):Prop:=∃ a ∈ l,a % 1000 = k % 1000
theorem zby (k:Nat):zdl [k % 1000] k:=⟨_,List.mem_singleton.2 rfl,Nat.mod_mod _ _⟩
theorem ziW {l:List Nat} {k:Nat} (h:k ∈ l):zdl l k:=⟨_,h,rfl⟩
theorem zeP {l m:List Nat} {k:Nat} (h:zdl l k):zdl (l ++ m) k:=by obtain ⟨a,ha,e⟩:=h;exact ⟨a,List.mem_append.2 (.inl ha),e⟩
theorem zbq {l m:List Nat} {k:Nat} (h:zdl m k):zdl (l ++ m) k:=by obtain ⟨a,ha,e⟩:=h;exact ⟨a,List.mem_append.2 (.inr ha),e⟩
theorem zqd {a:Nat} {l:List Nat} {k:Nat} (h:zdl l k):zdl (a :: l) k:=by obtain ⟨b,hb,e⟩:=h;exact ⟨b,List.mem_cons_of_mem _ hb,e⟩
theorem zqe {l:List Nat} {k:Nat}:zdl (k % 1000 :: l) k:=⟨_,List.mem_cons_self,Nat.mod_mod _ _⟩
theorem zuC {l m:List Nat} {k:Nat} (h:zdl l k) (hs:∀ a ∈ l,a ∈ m):zdl m k:=by obtain ⟨a,ha,e⟩:=h;exact ⟨a,hs a ha,e⟩
theorem zdJ {α:Type} {f:α→List Nat} {l:List α} {x:α} {k:Nat} (hx:x ∈ l) (h:zdl (f x) k):zdl (l.flatMap f) k:=by obtain ⟨a,ha,e⟩:=h;exact ⟨a,List.mem_flatMap.2 ⟨x,hx,ha⟩,e⟩
theorem zdK {e:Ent} {k:Nat} (h:zdl e.rd k):e.looks k = true:=by
 obtain ⟨a,ha,h⟩:=h
 unfold Ent.looks
 simp only [List.any_eq_true,beq_iff_eq]
 exact ⟨a,ha,h⟩
theorem zgI [zae] {l:List Nat} {k:Nat}:(Tc.ids l).has k = true ↔ zdl l k:=zrB
theorem zh9 [zae] {l:List Nat} {k:Nat} (h:(Tc.ids l).has k = false):¬ zdl l k:=fun hn=>by rw [zgI.2 hn] at h;cases h
def same (rw rw':Nat→Row) (p:PV):Prop:=∀ k,zdl (zdZ p) k→rw' k = rw k
section
variable {P:Program} {T:Tab} {rw rw':Nat→Row} {p:PV}
theorem zyF [zae] (hs:same rw rw' p) (K:Md→List PV→Nat→Prop):zrk rw' p K = zrk rw p K:=by
 cases p <;> first | rfl | (simp only [zrk];rw [hs _ (zby _)])
theorem zuD [zae] (hs:same rw rw' p) (K:Bool→Nat→List PV→Prop):slK rw' p K = slK rw p K:=by
 cases p <;> first | rfl | (simp only [slK];rw [hs _ (zby _)])
theorem zvA [zae] (hs:same rw rw' p) (K:Bool→Nat→List PV→Prop):zfY rw' p K = zfY rw p K:=by
 cases p <;> first | rfl | (simp only [zfY];rw [hs _ (zby _)])
theorem zhp [zae] (hs:same rw rw' p) (A:Prop):zda rw' p A = zda rw p A:=by
 cases p <;> first | rfl | (simp only [zda];rw [hs _ (zby _)])
theorem zd0 [zae] (hs:same rw rw' p) (K:List PV→Prop):zaT rw' p K = zaT rw p K:=by
 cases p <;> first | rfl | (simp only [zaT];rw [hs _ (zby _)])
theorem zj3 [zae] {i:PV} {t:TypeId} (hs:same rw rw' p) (K:PV→Prop):zbg T rw' t p i K = zbg T rw t p i K:=by
 unfold zbg
 simp only [zhp hs]
 cases p <;> first | rfl | (simp only;rw [hs _ (zby _)])
theorem zyG [zae] (hs:same rw rw' p) (K:Nat→Nat→Prop):zwC rw' p K = zwC rw p K:=by
 cases p <;> first | rfl | (simp only [zwC];rw [hs _ (zby _)])
theorem zyH [zae] {t:TypeId} (hs:same rw rw' p) (K:PV→Prop):zze T rw' t p K = zze T rw t p K:=by
 unfold zze
 simp only [zyG hs]
theorem zry [zae] {ev:Operand→PV} {t:TypeId} {lo hi mx:Option Operand} (hs:same rw rw' p) (K:PV→Prop):zbr T rw' ev t p lo hi mx K = zbr T rw ev t p lo hi mx K:=by
 unfold zbr
 simp only [zvA hs]
theorem zvB [zae] {a b:TypeId} (hs:same rw rw' p) (K:PV→Prop):zfz T rw' a b p K = zfz T rw a b p K:=by
 unfold zfz
 simp only [zuD hs]
theorem zvC [zae] {i:PV} {t:TypeId} (hs:same rw rw' p) (K:PV→Prop):zit T rw' t p i K = zit T rw t p i K:=by
 cases p with
 | own k ver =>
   have e:=hs k (zby k)
   cases i with
   | v x=>cases x with
     | int kd a=>cases kd <;> first | rfl | simp only [zit,e]
     | _=>rfl
   | _=>rfl
 | _=>rfl
theorem zyI [zae] {ev:Operand→PV} {op:Op} (h:∀ x ∈ op.operands,same rw rw' (ev x)) (K:PV→Prop):ziu T rw' ev op K = ziu T rw ev op K:=by
 unfold ziu
 cases op <;> try rfl
 case convert a b x=>exact zvB (h x (by simp [Op.operands])) K
 case load t x=>exact zyF (h x (by simp [Op.operands])) _
 case fieldAddr t x f=>simp only [zhp (h x (by simp [Op.operands]))]
 case indexAddr t x i=>exact zj3 (h x (by simp [Op.operands])) K
 case slice t x lo hi mx=>exact zry (h x (by simp [Op.operands])) K
 case nilCheck x=>exact zhp (h x (by simp [Op.operands])) _
 case lookup t x i ok=>exact congrArg (ok = false∧·) (zvC (h x (by simp [Op.operands])) K)
 case call c =>
  dsimp only
  split
  ·rename_i x t;exact zyH (h x (by simp [Op.operands,Call.operands])) K
  ·rfl
  ·rfl
  ·rfl
theorem zvD [zae] {fs:List (Nat × TypeId)}:∀ (pp:List (Nat × PV)) (c:List PV) (K:List PV→Prop),(∀ x ∈ pp,same rw rw' x.2)→zcT T rw' fs pp c K = zcT T rw fs pp c K:=by
 intro pp
 induction pp with
 | nil=>intro c K _;rfl
 | cons x pp ih =>
   intro c K h
   obtain ⟨i,p⟩:=x
   have h0:same rw rw' p:=h (i,p) (by simp)
   have ih':∀ c K,zcT T rw' fs pp c K = zcT T rw fs pp c K:=fun c K=>ih c K fun y hy=>h y (by simp [hy])
   simp only [zcT,ih',zd0 h0]
theorem zyJ {fs:List (Nat × TypeId)}:∀ (pp:List (Nat × PV)) (c:List PV) (K:List PV→Prop),zcT T rw fs pp c K→∃ c',K c'∧zcT T rw fs pp c (· = c'):=by
 intro pp
 induction pp with
 | nil=>intro c K h;exact ⟨c,h,rfl⟩
 | cons x pp ih =>
   intro c K h
   obtain ⟨i,p⟩:=x
   unfold zcT at h ⊢
   split at h
   ·rename_i off ft hfi
    unfold zaT at h ⊢
    split at h <;> first
     | exact h.elim
     | (obtain ⟨a1,a2,h⟩:=h;obtain ⟨c',h1,h2⟩:=ih _ _ h;exact ⟨c',h1,a1,a2,h2⟩)
     | (obtain ⟨q,a1,a2,h⟩:=h;obtain ⟨c',h1,h2⟩:=ih _ _ h;exact ⟨c',h1,q,a1,a2,h2⟩)
     | (obtain ⟨q,q2,a1,a2,h⟩:=h;obtain ⟨c',h1,h2⟩:=ih _ _ h;exact ⟨c',h1,q,q2,a1,a2,h2⟩)
   ·exact h.elim
end
def zeB (T:Tab) (rw:Nat→Row) (ev:Operand→PV) (op:Op) (K:PV→Prop):Prop :=
 match op with
 | .build t parts=>zfW T rw ev t parts K
 | op=>ziu T rw ev op K
def zrz (k:Nat) (c:List PV):List Nat:=c.flatMap fun q=>match q with | .own j _=>if j % 1000 = k % 1000 then [] else [j % 1000] | _=>[]
def zdL (rw:Nat→Row):Nat→PV→List Nat
 | 0,_=>[]
 | n + 1,p=>match p with
   | .own k _=>k % 1000 :: (match (rw k).kind with | .tab _ c=>zrz k c | _=>[])
   | .ref k _ _=>k % 1000 :: (match (rw k).kind with | .box _ c=>c.flatMap (zdL rw n) | _=>[])
   | .ag c=>c.flatMap (zdL rw n)
   | .clo _ c=>c.flatMap (zdL rw n)
   | _=>[]
theorem zqf [zae] {rw rw':Nat→Row}:∀ (n:Nat) (p:PV),(∀ k,zdl (zdL rw n p) k→rw' k = rw k)→zck rw' n p = zck rw n p:=by
 intro n
 induction n with
 | zero=>intro p _;rfl
 | succ n ih =>
   intro p h
   have lst:∀ c:List PV,(∀ k,zdl (c.flatMap (zdL rw n)) k→rw' k = rw k)→c.map (zck rw' n) = c.map (zck rw n):=fun c hc =>
    List.map_congr_left fun q hq=>ih q fun k hk=>hc k (zdJ hq hk)
   cases p with
   | own k ver =>
     have h0:=h k zqe
     simp only [zck,h0]
     split
     ·cases hk:(rw k).kind with
      | tab e c =>
        simp only
        congr 1
        refine List.map_congr_left fun q hq=>?_
        cases q with
        | own j v =>
          have hj:rw' j = rw j:=h j (by
           simp only [zdL,hk]
           by_cases he:j % 1000 = k % 1000
           ·exact ⟨_,List.mem_cons_self,by rw [Nat.mod_mod];exact he.symm⟩
           ·exact zqd (zdJ hq (by simp only [he,if_false];exact zby j)))
          simp only [zli,hj]
        | _=>rfl
      | _=>rfl
     ·rfl
   | ref k ver off =>
     have h0:=h k zqe
     simp only [zck,h0]
     split
     ·cases hk:(rw k).kind with
      | box t c=>simp only;rw [lst c fun j hj=>h j (by simp only [zdL,hk];exact zqd hj)]
      | _=>rfl
     ·rfl
   | ag c=>simp only [zck];rw [lst c fun j hj=>h j hj]
   | clo f c=>simp only [zck];rw [lst c fun j hj=>h j hj]
   | _=>rfl
def zDi (s:St) (d:Nat) (x:RV):Option PV→St | none=>zak s d x | some p=>s.put (some d) p
def zGk [zae] (P:Program) (s:St) (g:FuncId) (raw:List PV) (d:Nat) (K:List Nat→Nat→St→Prop):Prop :=
 (∃ (k v e e2:Nat) (p:List Nat) (rows rows':List (List PV)) (args:List PV) (r:RV),
  AT P g args e e2 rows rows' (.rv r)∧GiveL [(k,v)] raw args∧TabIs s.rw k v e e2 p rows∧p.Nodup∧d % 1000 ≠ k % 1000∧K [] k (zak (s.killed k p) d r)) ∨
 (∃ (j vj e:Nat) (pre pre' head out:List PV) (ok:Bool),
  AF P g pre head e out ok∧zDY pre pre'∧raw = pre' ++ [.own j vj]∧s.rw j = ⟨vj,.sli e 1 false head⟩∧zbB head∧d % 1000 ≠ j % 1000∧j < lent∧K [] j (zak (s.killed j []) d (rvF e out ok))) ∨
 (∃ (rd:List Nat) (k:Nat) (x:RV) (r:Row) (q:Option PV),(∀ s':St,s'.rw k = s.rw k→(∀ a ∈ rd,s'.rw a = s.rw a)→∀ K':St→Prop,K' (zDi (s'.row k r) d x q)→askG P s' g raw (some d) K')∧d % 1000 ≠ k % 1000∧K rd k (zDi (s.row k r) d x q))
def tdK [zae] (P:Program) (s:St) (f:Operand) (c:Call) (d:Nat) (K:Ent→St→Prop):Prop :=
 match s.ev f with | .clo g caps=>zGk P s g (c.args.toList.map s.ev ++ caps) d (fun rd k s1=>K ⟨rd,.ids [d,k]⟩ s1) | _=>False
def nK [zae] (P:Program) (s:St) (o:Oper) (K:Ent→St→Prop):Prop :=
 match o.op with
 | .call c=>(match c.callee with
  | .value f=>(match o.dst with
   | some d=>(zd4 P s.rw s.ev f c.args fun rv=>K ⟨(c.args.toList.map s.ev).flatMap (zdL s.rw zfy) ++ zdL s.rw (zfy + 1) (s.ev f),.res d⟩ (zak s d rv)) ∨ tdK P s f c d K
   | none=>zd4 P s.rw s.ev f c.args fun _=>K ⟨(c.args.toList.map s.ev).flatMap (zdL s.rw zfy) ++ zdL s.rw (zfy + 1) (s.ev f),.ids []⟩ s)
  | _=>False)
 | _=>False
def znx (s:St) (o:Oper):List Nat:=match znA o with | true=>[] | false=>(o.op.operands.toList.map s.ev).flatMap zdZ
def zJH (T:Tab) (s:St) (dst:Option Nat) (t:TypeId) (r:Row) (k ver:Nat) (py:PV) (K:Ent→St→Prop):Prop :=
 ∃ (d e:Nat) (c:List PV) (kd:IntKind) (m:Int),dst = some d∧r = ⟨ver,.sli e 1 false c⟩∧0 < (T t).size∧(T t).k = .sli e∧0 < (T e).size∧(T e).size = 1∧py = .v (.int kd m)∧0 ≤ m∧m ≤ (c.length:Int) ∧
  K ⟨[],.ids [k]⟩ ((s.row k ⟨ver + 1,.sli e 1 false (c.take m.toNat)⟩).put (some d) (.own k (ver + 1)))
def zHm (T:Tab) (s:St) (o:Oper) (t:TypeId) (px py:PV) (K:Ent→St→Prop):Prop :=
 match px with
 | .own k ver=>(match (s.rw k).kind with
  | .sli _ _ false _=>zJH T s o.dst t (s.rw k) k ver py K
  | _=>zeB T s.rw s.ev o.op fun p=>K ⟨znx s o,.ids []⟩ (s.put o.dst p))
 | _=>zeB T s.rw s.ev o.op fun p=>K ⟨znx s o,.ids []⟩ (s.put o.dst p)
def dK [zae] (P:Program) (T:Tab) (s:St) (o:Oper) (K:Ent→St→Prop):Prop :=
 match o.op with
 | .store _ ad x=>opK P T s o (K ⟨[],.ids (zdZ (s.ev ad) ++ zdZ (s.ev x))⟩)
 | .alloc _=>opK P T s o (K ⟨[],.ids o.dst.toList⟩)
 | .box _ x=>opK P T s o (K ⟨zdZ (s.ev x),.ids o.dst.toList⟩)
 | .makeSlice _ _ _=>opK P T s o (K ⟨[],.ids o.dst.toList⟩)
 | .buildSlice _ _ parts=>opK P T s o (K ⟨[],.ids (o.dst.toList ++ (parts.toList.map fun x=>s.ev x.2).flatMap zdZ)⟩)
 | .slice t x none (some y) none=>zHm T s o t (s.ev x) (s.ev y) K
 | .call c=>(match c.callee with
  | .builtin .append=>(match c.args with | ⟨[x,y]⟩=>opK P T s o (K ⟨zdZ (s.ev y),.ids (o.dst.toList ++ zdZ (s.ev x))⟩) | _=>False)
  | .value _=>nK P s o K
  | _=>zeB T s.rw s.ev o.op fun p=>K ⟨znx s o,.ids []⟩ (s.put o.dst p))
 | _=>zeB T s.rw s.ev o.op fun p=>K ⟨znx s o,.ids []⟩ (s.put o.dst p)
def zeQ [zae] (P:Program) (T:Tab) (ops:Array Oper):List Ent→List Oper→St→(St→Prop)→Prop
 | acc,[],s,K=>zlf ops acc.reverse = true∧K s
 | acc,o :: os,s,K=>zuH ops s o
  (fun s1=>dK P T s1 o fun e s2=>zeQ P T ops (e :: acc) os s2 K)
  (fun s2=>zeQ P T ops (⟨[],.ids []⟩ :: acc) os s2 K)
section
variable {P:Program} {T:Tab} {G:Ghost} {ops:Array Oper}
theorem zA7 [zae] {rw:Nat→Row} {ev:Operand→PV} {op:Op} {K:PV→Prop} (h:ziu T rw ev op K):∃ p,K p∧∀ K':PV→Prop,K' p→ziu T rw ev op K':=by
 unfold ziu at h ⊢
 split at h
 ·exact ⟨_,h,fun _ h=>h⟩
 ·exact ⟨_,h,fun _ h=>h⟩
 ·split at h
  ·rename_i t _
   cases t with
   | true=>exact ⟨_,h.1 rfl,fun _ h'=>⟨fun _=>h',fun h=>by cases h⟩⟩
   | false=>exact ⟨_,h.2 rfl,fun _ h'=>⟨(fun h=>by cases h),fun _=>h'⟩⟩
  ·exact h.elim
 ·exact zuO h
 ·exact zy9 h
 ·exact zqu h
 ·obtain ⟨m,c,off,h,hd⟩:=zuM h
  obtain ⟨p,hp,hl⟩:=zhw h
  exact ⟨p,hp,fun K' hk=>hd _ (hl _ hk)⟩
 ·obtain ⟨o',ft,h,hd⟩:=zfm h
  obtain ⟨hptr,h⟩:=h
  obtain ⟨hk,hs⟩:=zeX h
  exact ⟨_,hk,fun K' hk=>hd _ ⟨hptr,hs _ hk⟩⟩
 ·rename_i t x f
  obtain ⟨o',ft,h,hd⟩:=zfm h
  cases he:ev x with
  | ag c =>
    rw [he] at h
    obtain ⟨p,hp,hl⟩:=zhw h
    exact ⟨p,hp,fun K' hk=>hd _ (hl _ hk)⟩
  | _=>rw [he] at h;exact h.elim
 ·exact zfN h
 ·obtain ⟨hs,h⟩:=h
  split at h
  ·exact ⟨_,h.2.2,fun _ hk=>⟨hs,h.1,h.2.1,hk⟩⟩
  ·obtain ⟨p,hp,hl⟩:=zhw h.2.2
   exact ⟨p,hp,fun _ hk=>⟨hs,h.1,h.2.1,hl _ hk⟩⟩
  ·exact h.elim
 ·exact zmN h
 ·split at h
  ·exact ⟨_,h.2,fun _ hk=>⟨h.1,hk⟩⟩
  ·exact h.elim
 ·split at h
  ·exact ⟨_,h.2,fun _ hk=>⟨h.1,hk⟩⟩
  ·exact h.elim
 ·obtain ⟨hk,hs⟩:=zeX h
  exact ⟨_,hk,fun K' hk=>hs _ hk⟩
 ·split at h
  ·exact zuN h
  ·exact zd5 h
  ·exact zd5 h
  ·exact h.elim
 ·obtain ⟨h1,h⟩:=h
  obtain ⟨p,hp,hd⟩:=zqy h
  exact ⟨p,hp,fun K' hk=>⟨h1,hd _ hk⟩⟩
 ·exact h.elim
theorem zyK [zae] {rw:Nat→Row} {ev:Operand→PV} {op:Op} {K:PV→Prop} (h:zeB T rw ev op K):∃ p,K p∧zeB T rw ev op (· = p):=by
 unfold zeB at h ⊢
 split at h
 ·unfold zfW at h ⊢
  obtain ⟨h1,h⟩:=h
  split at h
  ·rename_i fs hfs
   obtain ⟨h2,h⟩:=h
   obtain ⟨c',h3,h4⟩:=zyJ _ _ _ h
   refine ⟨_,h3,h1,h2,?_⟩
   refine (?_:zcT T rw fs _ _ (fun c=>PV.ag c = PV.ag c'))
   have e:(fun c=>PV.ag c = PV.ag c') = (· = c'):=by funext c;simp
   rw [e];exact h4
  ·exact h.elim
 ·obtain ⟨p,hp,hd⟩:=zA7 h
  exact ⟨p,hp,hd _ rfl⟩
theorem zvE [zae] {rw rw':Nat→Row} {ev:Operand→PV} {op:Op} (h:∀ x ∈ op.operands,same rw rw' (ev x)) (K:PV→Prop):zeB T rw' ev op K = zeB T rw ev op K:=by
 unfold zeB
 split
 ·rename_i t parts
  unfold zfW
  split
  ·rename_i fs hfs
   rw [zvD _ _ _ fun x hx=>by
    obtain ⟨y,hy,rfl⟩:=List.mem_map.1 hx
    exact h y.2 (by simp only [Op.operands,List.mem_toArray,List.mem_map];exact ⟨y,hy,rfl⟩)]
  ·rfl
 ·exact zyI h K
theorem zvF {rw rw':Nat→Row} {ev:Operand→PV} {o:Oper} {K:PV→Prop} (hf:znA o = true) (h:zeB T rw ev o.op K):zeB T rw' ev o.op K:=by
 unfold znA at hf
 split at hf <;> first
  | (rename_i ho;rw [ho] at h ⊢;exact h)
  | cases hf
theorem zvG [zae] (hT:T.Ok P) {s:St} {K:PV→Prop} {o:Oper} (hk:zeB T s.rw s.ev o.op K):∃ p,K p∧zfP P G s o p:=by
 unfold zeB at hk
 split at hk
 ·rename_i t parts ho;exact zif hT ho hk
 ·exact zqv hT hk
theorem zGl {s s':St} {l:List (Nat × Operand)} (h:∀ x ∈ l,s'.ev x.2 = s.ev x.2):(l.map fun x=>s'.ev x.2) = l.map fun x=>s.ev x.2:=List.map_congr_left h
def upR (fz:List Nat) (d:Nat) (r:Row) (rw:Nat→Row):Nat→Row:=fun i=>if i = d then r else zgM rw fz i
theorem ziX [zae] (s:St) (d:Nat) (kd:RK) (p:Nat→PV):zcq s d kd p = (St.mk s.sl (upR [] d ⟨(s.rw d).ver + 1,kd⟩ s.rw)).put (some d) (p ((s.rw d).ver + 1)):=by
 unfold zcq St.row upR;rw [zfk]
theorem ziY [zae] (s:St) (d k:Nat) (kd:RK):zcU s d k kd = (St.mk s.sl (upR [] k ⟨(s.rw k).ver + 1,kd⟩ s.rw)).put (some d) (.own k ((s.rw k).ver + 1)):=by
 unfold zcU St.row upR;rw [zfk]
theorem zmD [zae] (s:St) (k:Nat) (r:Row):s.row k r = St.mk s.sl (upR [] k r s.rw):=by
 unfold St.row upR;rw [zfk]
theorem zuE (s:St) (fz:List Nat) (k:Nat) (r:Row):(s.freeze fz).row k r = St.mk s.sl (upR fz k r s.rw):=rfl
theorem zqg [zae] {rw:Nat→Row} {p:PV} {K:List PV→List Nat→Prop} (hk:zcJ rw p K):∃ c f,K c f∧(∀ j ∈ f,zdl (zdZ p) j)∧∀ rw',same rw rw' p→zcJ rw' p (fun a b=>a = c∧b = f):=by
 unfold zcJ at hk
 split at hk
 ·exact ⟨_,_,hk.2,by simp,fun rw' _=>⟨hk.1,rfl,rfl⟩⟩
 ·exact ⟨_,_,hk.2,by simp,fun rw' _=>⟨hk.1,rfl,rfl⟩⟩
 ·rename_i k ver
  obtain ⟨h1,h2,hk⟩:=hk
  split at hk
  ·rename_i hkd
   refine ⟨_,_,hk,by simp,fun rw' hs=>?_⟩
   have:=hs k (zby _)
   unfold zcJ
   simp only [this,hkd]
   exact ⟨h1,h2,by simp⟩
  ·rename_i hkd
   refine ⟨_,_,hk,fun j hj=>by rw [List.mem_singleton.1 hj];exact zby _,fun rw' hs=>?_⟩
   have:=hs k (zby _)
   unfold zcJ
   simp only [this,hkd]
   exact ⟨h1,h2,by simp⟩
  ·exact hk.elim
 ·exact ⟨_,_,hk.2,by simp,fun rw' _=>⟨hk.1,rfl,rfl⟩⟩
 ·exact hk.elim
theorem zyL [zae] {rw:Nat→Row} {es:Nat}:∀ {ps:List PV} {K:List PV→List Nat→Prop},zlh rw es ps K→∃ c f,K c f∧(∀ j ∈ f,zdl (ps.flatMap zdZ) j)∧∀ rw',(∀ p ∈ ps,same rw rw' p)→∀ K':List PV→List Nat→Prop,K' c f→zlh rw' es ps K':=by
 intro ps
 induction ps with
 | nil=>intro K h;exact ⟨_,_,h,by simp,fun _ _ K' h=>h⟩
 | cons p ps ih =>
   intro K h
   obtain ⟨c,f,⟨hl,h⟩,hf,hp⟩:=zqg h
   obtain ⟨cs,fs,h,hfs,hs⟩:=ih h
   refine ⟨_,_,h,fun j hj=>?_,fun rw' hsame K' hK=>?_⟩
   ·rw [List.flatMap_cons]
    rcases List.mem_append.1 hj with h | h
    ·exact zeP (hf j h)
    ·exact zbq (hfs j h)
   ·have h1:=hp rw' (hsame p (by simp))
    have back:∀ {K2:List PV→List Nat→Prop},K2 c f→zcJ rw' p K2:=fun {K2} hk2=>by
     unfold zcJ at h1 ⊢
     split at h1
     ·obtain ⟨q1,rfl,rfl⟩:=h1;exact ⟨q1,hk2⟩
     ·obtain ⟨q1,rfl,rfl⟩:=h1;exact ⟨q1,hk2⟩
     ·obtain ⟨q1,q2,h1⟩:=h1
      refine ⟨q1,q2,?_⟩
      split at h1
      ·obtain ⟨rfl,rfl⟩:=h1;exact hk2
      ·obtain ⟨rfl,rfl⟩:=h1;exact hk2
      ·exact h1.elim
     ·obtain ⟨q1,rfl,rfl⟩:=h1;exact ⟨q1,hk2⟩
     ·exact h1.elim
    exact back ⟨hl,hs rw' (fun q hq=>hsame q (by simp [hq])) (fun cs' fs'=>K' (c ++ cs') (f ++ fs')) hK⟩
theorem zhq {rw:Nat→Row} {p:PV} {K:List PV→Prop} (hk:zaT rw p K):∃ c,K c∧(∀ q ∈ c,∀ j ∈ zDh q,j ∈ zdZ p)∧∀ K':List PV→Prop,K' c→zaT rw p K':=by
 have one:∀ q:PV,∀ q' ∈ [q],∀ j ∈ zDh q',j ∈ zdZ q:=fun q q' hq j hj=>by
  rw [List.mem_singleton.1 hq] at hj
  cases q <;> simp [zDh] at hj <;> simp [zdZ,hj]
 unfold zaT at hk ⊢
 split at hk
 ·exact ⟨_,hk,fun q hq j hj=>List.mem_flatMap.2 ⟨q,hq,hj⟩,fun _ h=>h⟩
 ·exact ⟨_,hk.2,one _,fun _ h=>⟨hk.1,h⟩⟩
 ·exact ⟨_,hk,one _,fun _ h=>h⟩
 ·exact ⟨_,hk,one _,fun _ h=>h⟩
 ·exact ⟨_,hk,one _,fun _ h=>h⟩
 ·exact ⟨_,hk.2.2,one _,fun _ h=>⟨hk.1,hk.2.1,h⟩⟩
 ·exact ⟨_,hk.2.2,one _,fun _ h=>⟨hk.1,hk.2.1,h⟩⟩
 ·exact hk.elim
theorem zqh [zae] {rw rw':Nat→Row} {p:PV} (hs:∀ j,zdl (zDh p) j→rw' j = rw j) (h:zih rw p):zih rw' p:=by
 cases p <;> first | exact h | (simp only [zih] at h ⊢;rw [hs _ (zby _)];exact h)
def zj4 [zae] (P:Program) (_T:Tab) (G:Ghost) (s:St) (o:Oper) (K:Ent→St→Prop):Prop :=
 ∃ x:Stp,K x.e (s.step o x)∧(∀ k,x.e.tc.has k = false→x.rows k = s.rw k) ∧
  ∀ s':St,(∀ k,x.e.looks k = true ∨ x.e.tc.has k = true→s'.rw k = s.rw k)→(∀ y ∈ o.op.operands,s'.ev y = s.ev y)→za0 P G s' o (s'.stepIn o x)
theorem zfh [zae] (hT:T.Ok P) {s:St} {o:Oper} {K:Ent→St→Prop} (hd:∀ d,o.dst = some d→d < G.n) {val:PV} {fz:List Nat} {d:Nat} {r:Row} {rd l:List Nat} (hdl:zdl l d) (hfl:∀ j ∈ fz,zdl l j)
 (h1:K ⟨rd,.ids l⟩ ((St.mk s.sl (upR fz d r s.rw)).put o.dst val))
 (h2:∀ s':St,(∀ k,zdl rd k→s'.rw k = s.rw k)→(∀ k,zdl l k→s'.rw k = s.rw k)→(∀ y ∈ o.op.operands,s'.ev y = s.ev y)→opK P T s' o (· = (St.mk s'.sl (upR fz d r s'.rw)).put o.dst val)):zj4 P T G s o K:=by
 refine ⟨⟨val,upR fz d r s.rw,⟨rd,.ids l⟩⟩,h1,fun k hk=>?_,fun s' hr hev=>?_⟩
 ·have hk:¬ zdl l k:=zh9 hk
  show upR fz d r s.rw k = s.rw k
  unfold upR zgM
  rw [if_neg (fun e=>hk (by rw [e];exact hdl)),if_neg (fun e=>hk (hfl k e))]
 ·have e:s'.stepIn o ⟨val,upR fz d r s.rw,⟨rd,.ids l⟩⟩ = (St.mk s'.sl (upR fz d r s'.rw)).put o.dst val:=by
   unfold St.stepIn
   congr 2
   funext k
   by_cases hk:(Tc.ids l).has k = true
   ·rw [if_pos hk]
    have:=hr k (.inr hk)
    show upR fz d r s.rw k = upR fz d r s'.rw k
    unfold upR zgM
    rw [this]
   ·rw [if_neg hk]
    have hk:¬ zdl l k:=fun h=>hk (zgI.2 h)
    unfold upR zgM
    rw [if_neg (fun e=>hk (by rw [e];exact hdl)),if_neg (fun e=>hk (hfl k e))]
  rw [e]
  obtain ⟨s2,rfl,he⟩:=ziZ (G:=G) hT hd (h2 s' (fun k hk=>hr k (.inl (zdK hk))) (fun k hk=>hr k (.inr (zgI.2 hk))) hev)
  exact he
theorem zyM [zae] {s:St} {o:Oper} {K:Ent→St→Prop} {val:PV} {fz:List Nat} {d:Nat} {r:Row} {rd l:List Nat} (hdl:zdl l d) (hfl:∀ j ∈ fz,zdl l j)
 (h1:K ⟨rd,.ids l⟩ ((St.mk s.sl (upR fz d r s.rw)).put o.dst val))
 (h2:∀ s':St,(∀ k,zdl rd k→s'.rw k = s.rw k)→(∀ k,zdl l k→s'.rw k = s.rw k)→(∀ y ∈ o.op.operands,s'.ev y = s.ev y)→za0 P G s' o ((St.mk s'.sl (upR fz d r s'.rw)).put o.dst val)):zj4 P T G s o K:=by
 refine ⟨⟨val,upR fz d r s.rw,⟨rd,.ids l⟩⟩,h1,fun k hk=>?_,fun s' hr hev=>?_⟩
 ·have hk:¬ zdl l k:=zh9 hk
  show upR fz d r s.rw k = s.rw k
  unfold upR zgM
  rw [if_neg (fun e=>hk (by rw [e];exact hdl)),if_neg (fun e=>hk (hfl k e))]
 ·have e:s'.stepIn o ⟨val,upR fz d r s.rw,⟨rd,.ids l⟩⟩ = (St.mk s'.sl (upR fz d r s'.rw)).put o.dst val:=by
   unfold St.stepIn
   congr 2
   funext k
   by_cases hk:(Tc.ids l).has k = true
   ·rw [if_pos hk]
    have:=hr k (.inr hk)
    show upR fz d r s.rw k = upR fz d r s'.rw k
    unfold upR zgM
    rw [this]
   ·rw [if_neg hk]
    have hk:¬ zdl l k:=fun h=>hk (zgI.2 h)
    unfold upR zgM
    rw [if_neg (fun e=>hk (by rw [e];exact hdl)),if_neg (fun e=>hk (hfl k e))]
  rw [e]
  exact h2 s' (fun k hk=>hr k (.inl (zdK hk))) (fun k hk=>hr k (.inr (zgI.2 hk))) hev
theorem zrA [zae] (hT:T.Ok P) {s:St} {o:Oper} {K:Ent→St→Prop} {t:TypeId} {ad x:Operand} (ho:o.op = .store t ad x) (hd:∀ d,o.dst = some d→d < G.n)
 (hk:opK P T s o (K ⟨[],.ids (zdZ (s.ev ad) ++ zdZ (s.ev x))⟩)):zj4 P T G s o K:=by
 simp only [opK,ho] at hk
 obtain ⟨hdst,ht,hk⟩:=hk
 have ops':∀ s':St,(∀ y ∈ o.op.operands,s'.ev y = s.ev y)→s'.ev ad = s.ev ad∧s'.ev x = s.ev x:=fun s' hev=>⟨hev _ (by simp [ho,Op.operands]),hev _ (by simp [ho,Op.operands])⟩
 split at hk
 ·rename_i k ver off hev
  obtain ⟨hver,hk⟩:=hk
  have hin:zdl (zdZ (s.ev ad) ++ zdZ (s.ev x)) k:=by rw [hev];exact zeP (zby _)
  have hput:∀ (s':St) (p:PV),s'.put o.dst p = s':=fun s' p=>by rw [hdst];rfl
  split at hk
  ·rename_i bt c hkind
   obtain ⟨new,⟨h1,h2,h3,hk⟩,hin2,hc⟩:=zhq hk
   refine zfh hT hd (rd:=[]) (val:=.junk) (fz:=[]) (d:=k) (r:=⟨ver,.box bt (spl c off new)⟩) hin (by simp) (by rw [hput,← zmD];exact hk) fun s' _ hl hev'=>?_
   obtain ⟨e1,e2⟩:=ops' s' hev'
   rw [hput,← zmD]
   simp only [opK,ho]
   refine ⟨hdst,ht,?_⟩
   rw [e1,hev,e2]
   have hk':=hl k hin
   simp only [hk']
   refine ⟨hver,?_⟩
   simp only [hkind]
   rw [zd0 (rw:=s.rw) (fun j hj=>hl j (zbq hj))]
   exact hc _ ⟨h1,h2,fun p hp=>zqh (fun j hj=>hl j (zbq (zuC hj (hin2 p hp)))) (h3 p hp),rfl⟩
  ·rename_i e sz c hkind
   obtain ⟨new,fz,⟨h1,h2,h3,hk⟩,hf,hc⟩:=zqg hk
   refine zfh hT hd (rd:=[]) (val:=.junk) (fz:=fz) (d:=k) (r:=⟨ver,.sli e sz false (spl c off new)⟩) hin (fun j hj=>zbq (hf j hj)) (by rw [hput,← zuE];exact hk) fun s' _ hl hev'=>?_
   obtain ⟨e1,e2⟩:=ops' s' hev'
   rw [hput,← zuE]
   simp only [opK,ho]
   refine ⟨hdst,ht,?_⟩
   rw [e1,hev,e2]
   have hk':=hl k hin
   simp only [hk']
   refine ⟨hver,?_⟩
   simp only [hkind]
   have hc':=hc s'.rw (fun j hj=>hl j (zbq hj))
   unfold zcJ at hc' ⊢
   split at hc'
   ·obtain ⟨q1,rfl,rfl⟩:=hc';exact ⟨q1,h1,h2,h3,rfl⟩
   ·obtain ⟨q1,rfl,rfl⟩:=hc';exact ⟨q1,h1,h2,h3,rfl⟩
   ·obtain ⟨q1,q2,hc'⟩:=hc'
    refine ⟨q1,q2,?_⟩
    split at hc'
    ·obtain ⟨rfl,rfl⟩:=hc';exact ⟨h1,h2,h3,rfl⟩
    ·obtain ⟨rfl,rfl⟩:=hc';exact ⟨h1,h2,h3,rfl⟩
    ·exact hc'.elim
   ·obtain ⟨q1,rfl,rfl⟩:=hc';exact ⟨q1,h1,h2,h3,rfl⟩
   ·exact hc'.elim
  ·rename_i e c hkind
   obtain ⟨new,⟨h1,h2,h3,hk⟩,hin2,hc⟩:=zhq hk
   refine zfh hT hd (rd:=[]) (val:=.junk) (fz:=[]) (d:=k) (r:=⟨ver,.tab e (spl c off new)⟩) hin (by simp) (by rw [hput,← zmD];exact hk) fun s' _ hl hev'=>?_
   obtain ⟨e1,e2⟩:=ops' s' hev'
   rw [hput,← zmD]
   simp only [opK,ho]
   refine ⟨hdst,ht,?_⟩
   rw [e1,hev,e2]
   have hk':=hl k hin
   simp only [hk']
   refine ⟨hver,?_⟩
   simp only [hkind]
   rw [zd0 (rw:=s.rw) (fun j hj=>hl j (zbq hj))]
   exact hc _ ⟨h1,h2,fun p hp=>zqh (fun j hj=>hl j (zbq (zuC hj (hin2 p hp)))) (h3 p hp),rfl⟩
  ·exact hk.elim
 ·exact hk.elim
theorem zj5 [zae] (hT:T.Ok P) {s:St} {o:Oper} {K:Ent→St→Prop} {d:Nat} {kd:RK} {p:Nat→PV} {rd:List Nat} (hdst:o.dst = some d) (hd:∀ d,o.dst = some d→d < G.n) (h1:K ⟨rd,.ids o.dst.toList⟩ (zcq s d kd p))
 (h2:∀ s':St,(∀ k,zdl rd k→s'.rw k = s.rw k)→(∀ y ∈ o.op.operands,s'.ev y = s.ev y)→opK P T s' o (· = zcq s' d kd p)):zj4 P T G s o K:=by
 have hin:zdl o.dst.toList d:=by rw [hdst];exact ziW (by simp)
 refine zfh hT hd (val:=p ((s.rw d).ver + 1)) (fz:=[]) (d:=d) (r:=⟨(s.rw d).ver + 1,kd⟩) hin (by simp) (by rw [ziX] at h1;rw [hdst] at h1 ⊢;exact h1) fun s' hr hl hev=>?_
 have:=h2 s' hr hev
 rw [ziX,hl d hin,← hdst] at this
 exact this
theorem zDW [zae] (hT:T.Ok P) {s:St} {o:Oper} {K:Ent→St→Prop} (hd:∀ d,o.dst = some d→d < G.n) (hk:dK P T s o K):zj4 P T G s o K:=by
 have read:(zeB T s.rw s.ev o.op fun p=>K ⟨znx s o,.ids []⟩ (s.put o.dst p))→zj4 P T G s o K:=fun hk=>by
  obtain ⟨p,hp,hq⟩:=zyK hk
  refine ⟨⟨p,s.rw,⟨znx s o,.ids []⟩⟩,hp,fun _ _=>rfl,fun s' hr hev=>?_⟩
  have e:s'.stepIn o ⟨p,s.rw,⟨znx s o,.ids []⟩⟩ = s'.put o.dst p:=by
   unfold St.stepIn
   simp only [Tc.has,List.any_nil,Bool.false_eq_true,if_false]
  rw [e]
  have hq':zeB T (St.mk s.sl s'.rw).rw (St.mk s.sl s'.rw).ev o.op (· = p):=by
   cases hf:znA o with
   | true=>exact zvF hf hq
   | false =>
     refine (zvE (rw:=s.rw) (rw':=s'.rw) (ev:=s.ev) (fun x hx k hk=>hr k (.inl (zdK ?_))) _).mpr hq
     simp only [znx,hf]
     exact zdJ (List.mem_map.2 ⟨x,by simpa using hx,rfl⟩) hk
  obtain ⟨q,rfl,hy⟩:=zvG (G:=G) hT hq'
  exact (hy.congr (s1:=s') rfl hev).effects hd
 unfold dK at hk
 split at hk
 ·rename_i t ad x ho;exact zrA hT ho hd hk
 ·rename_i t ho
  simp only [opK,ho] at hk
  split at hk
  ·rename_i d hdst
   refine zj5 hT hdst hd hk.2 fun s' _ _=>?_
   simp only [opK,ho,hdst]
   exact ⟨hk.1,trivial⟩
  ·exact hk.elim
 ·rename_i t x ho
  simp only [opK,ho] at hk
  split at hk
  ·rename_i d hdst
   obtain ⟨new,hk,_,hc⟩:=zhq hk
   refine zj5 hT hdst hd hk fun s' hr hev=>?_
   simp only [opK,ho,hdst]
   rw [hev x (by simp [ho,Op.operands]),zd0 (rw:=s.rw) (fun j hj=>hr j hj)]
   exact hc _ rfl
  ·exact hk.elim
 ·rename_i t l c ho
  simp only [opK,ho] at hk
  split at hk
  ·rename_i d e kl nl kc nc hdst hte hl hc
   obtain ⟨h1,h2,hk⟩:=hk
   split at hk
   ·rename_i z hz
    obtain ⟨h3,h4,h5,h6,hk⟩:=hk
    refine zj5 hT hdst hd hk fun s' _ hev=>?_
    simp only [opK,ho,hdst,hte,hev l (by simp [ho,Op.operands]),hev c (by simp [ho,Op.operands]),hl,hc]
    refine ⟨h1,h2,?_⟩
    simp only [hz]
    exact ⟨h3,h4,h5,h6,trivial⟩
   ·exact hk.elim
  ·exact hk.elim
 ·rename_i t n parts ho
  simp only [opK,ho] at hk
  split at hk
  ·rename_i d hdst
   unfold zy1 at hk
   obtain ⟨ht,hk⟩:=hk
   split at hk
   ·rename_i e hte
    obtain ⟨he,hn,hidx,hbig,hk⟩:=hk
    obtain ⟨c,f,⟨hdf,hk⟩,hf,hp⟩:=zyL hk
    rw [zuE] at hk
    have hin:zdl (o.dst.toList ++ (parts.toList.map fun x=>s.ev x.2).flatMap zdZ) d:=zeP (by rw [hdst];exact ziW (by simp))
    refine zfh hT hd (rd:=[]) (val:=.own d ((s.rw d).ver + 1)) (fz:=f) (d:=d) (r:=⟨(s.rw d).ver + 1,.sli e (T e).size false c⟩) hin (fun j hj=>zbq (hf j hj)) (by rw [hdst] at hk ⊢;exact hk) fun s' _ hl hev=>?_
    rw [hdst]
    simp only [opK,ho,hdst]
    refine ⟨ht,?_⟩
    simp only [hte]
    refine ⟨he,hn,hidx,hbig,?_⟩
    have hm:(parts.toList.map fun x=>s'.ev x.2) = parts.toList.map fun x=>s.ev x.2:=zGl fun x hx=>hev _ (by
     simp only [ho,Op.operands,List.mem_toArray,List.mem_map];exact ⟨x,hx,rfl⟩)
    rw [hm]
    refine hp s'.rw (fun p hp' j hj=>hl j (zbq (zdJ hp' hj))) _ ⟨hdf,?_⟩
    rw [zuE,hl d hin]
   ·exact hk.elim
  ·exact hk.elim
 ·rename_i t x y ho
  unfold zHm at hk
  split at hk
  ·rename_i k ver hev
   split at hk
   ·obtain ⟨d,e,c,kd,m,hdst,hrow,h1,h2,h3,h4,hpy,h5,h6,hk⟩:=hk
    have hin:zdl [k] k:=ziW (by simp)
    refine zyM (val:=.own k (ver + 1)) (fz:=[]) (d:=k) (r:=⟨ver + 1,.sli e 1 false (c.take m.toNat)⟩) (rd:=[]) (l:=[k]) hin (by simp) (by rw [zmD] at hk;rw [hdst];exact hk) fun s' _ hl hev'=>?_
    rw [hdst,← zmD]
    have hx':s'.ev x = .own k ver:=by rw [hev' x (by simp [ho,Op.operands]),hev]
    have hy':s'.ev y = .v (.int kd m):=by rw [hev' y (by simp [ho,Op.operands]),hpy]
    exact zDX hT ho hdst (hd d hdst) hx' (by rw [hl k hin];exact hrow) h1 h2 h3 h4 hy' h5 h6
   ·exact read hk
  ·exact read hk
 ·rename_i c ho
  split at hk
  ·rename_i hc
   split at hk
   ·rename_i x y hargs
    simp only [opK,ho,hc] at hk
    split at hk
    ·rename_i x' y' t t2 d hargs' hty hdst
     have hxy:x' = x∧y' = y:=by rw [hargs] at hargs';simpa using hargs'.symm
     obtain ⟨rfl,rfl⟩:=hxy
     have hmem:∀ z,z = x' ∨ z = y'→z ∈ o.op.operands:=fun z hz=>by
      simp only [ho,Op.operands,Call.operands,hc,hargs]
      rcases hz with rfl | rfl <;> simp
     unfold zkf at hk
     obtain ⟨rfl,ht,hk⟩:=hk
     split at hk
     ·rename_i e hte
      obtain ⟨he,hby,hk⟩:=hk
      obtain ⟨fr,sz,news,⟨hsz,hfr,hk⟩,hdet⟩:=zrN hk
      have mk:∀ {p:PV} {k:Nat} {r:Row},zdl (o.dst.toList ++ zdZ (s.ev x')) k→K ⟨zdZ (s.ev y'),.ids (o.dst.toList ++ zdZ (s.ev x'))⟩ ((St.mk s.sl (upR [] k r s.rw)).put (some d) p)→(∀ s':St,(∀ k,zdl (o.dst.toList ++ zdZ (s.ev x')) k→s'.rw k = s.rw k)→s'.ev x' = s.ev x' →
       (match s'.ev x' with
        | .v u=>zdz u = true∧news.length * (T e).bytes ≤ 140737488355328∧zcq s' d (.sli e (T e).size false news) (fun v=>.own d v) = (St.mk s'.sl (upR [] k r s'.rw)).put (some d) p
        | .own k' ver=>(s'.rw k').ver = ver∧(match (s'.rw k').kind with
         | .nil=>news.length * (T e).bytes ≤ 140737488355328∧zcU s' d k' (.sli e (T e).size false news) = (St.mk s'.sl (upR [] k r s'.rw)).put (some d) p
         | .sli e' sz' false c=>e' = e∧sz' = (T e).size∧(c.length + news.length) * (T e).bytes ≤ 140737488355328∧zcU s' d k' (.sli e (T e).size false (c ++ news)) = (St.mk s'.sl (upR [] k r s'.rw)).put (some d) p
         | _=>False)
        | _=>False))→zj4 P T G s o K:=fun {p k r} hin h1 h2=>by
       refine zfh hT hd (val:=p) (fz:=[]) (d:=k) (r:=r) hin (by simp) (by rw [hdst] at h1 ⊢;exact h1) fun s' hr hl hev=>?_
       rw [hdst]
       simp only [opK,ho,hc,hargs,hty,hdst]
       refine ⟨rfl,ht,?_⟩
       simp only [hte]
       refine ⟨he,hby,?_⟩
       rw [hev y' (hmem y' (.inr rfl)),zuD (rw:=s.rw) (fun j hj=>hr j hj)]
       exact hdet _ ⟨hsz,hfr,h2 s' hl (hev x' (hmem x' (.inl rfl)))⟩
      split at hk
      ·rename_i u hev
       obtain ⟨h1,h2,hk⟩:=hk
       have hin:zdl (o.dst.toList ++ zdZ (s.ev x')) d:=zeP (by rw [hdst];exact ziW (by simp))
       rw [ziX] at hk
       refine mk hin hk fun s' hl hx=>?_
       rw [hx,hev]
       exact ⟨h1,h2,by rw [ziX,hl d hin]⟩
      ·rename_i k ver hev
       obtain ⟨hver,hk⟩:=hk
       have hin:zdl (o.dst.toList ++ zdZ (s.ev x')) k:=zbq (by rw [hev];exact zby _)
       split at hk
       ·rename_i hkind
        obtain ⟨h1,hk⟩:=hk
        rw [ziY] at hk
        refine mk hin hk fun s' hl hx=>?_
        rw [hx,hev]
        simp only [hl k hin]
        refine ⟨hver,?_⟩
        simp only [hkind]
        exact ⟨h1,by rw [ziY,hl k hin]⟩
       ·rename_i e' sz' c' hkind
        obtain ⟨h1,h2,h3,hk⟩:=hk
        rw [ziY] at hk
        refine mk hin hk fun s' hl hx=>?_
        rw [hx,hev]
        simp only [hl k hin]
        refine ⟨hver,?_⟩
        simp only [hkind]
        exact ⟨h1,h2,h3,by rw [ziY,hl k hin]⟩
       ·exact hk.elim
      ·exact hk.elim
     ·exact hk.elim
    ·exact hk.elim
   ·exact hk.elim
  ·
   rename_i f hc
   simp only [nK,ho,hc] at hk
   have args:∀ s':St,(∀ k,zdl ((c.args.toList.map s.ev).flatMap (zdL s.rw zfy) ++ zdL s.rw (zfy + 1) (s.ev f)) k→s'.rw k = s.rw k)→(∀ y ∈ o.op.operands,s'.ev y = s.ev y)→∀ g caps,s.ev f = .clo g caps →
    s'.ev f = s.ev f∧(c.args.toList.map fun x=>zck s'.rw zfy (s'.ev x)) ++ caps.map (zck s'.rw zfy) = (c.args.toList.map fun x=>zck s.rw zfy (s.ev x)) ++ caps.map (zck s.rw zfy):=fun s' hr hev g caps hf =>
    ⟨hev f (by simp [ho,Op.operands,Call.operands,hc]),by
     congr 1
     ·refine List.map_congr_left fun x hx=>?_
      rw [hev x (by simp [ho,Op.operands,Call.operands,hc];exact .inr (by simpa using hx))]
      exact zqf _ _ fun k hk=>hr k (zeP (zdJ (List.mem_map.2 ⟨x,hx,rfl⟩) hk))
     ·refine List.map_congr_left fun q hq=>zqf _ _ fun k hk=>hr k (zbq ?_)
      rw [hf]
      exact zdJ hq hk⟩
   cases hdst:o.dst with
   | some d =>
     simp only [hdst] at hk
     rcases hk with hk | hk
     case inr =>
      unfold tdK at hk
      split at hk
      ·rename_i g caps hev
       rcases hk with ⟨k,v,e,e2,p,rows,rows',args,r,hat,hg,ht,hn,hdk,hk⟩ | ⟨k,vj,e,pre,pre',head,out,ok,haf,hpre,hraw,hj,hpl,hdk,hjl,hk⟩ | ⟨rd,k,x,r,q,hcall,hdk,hk⟩
       ·have has:∀ j,(Tc.ids [d,k]).has j = true ↔ (j % 1000 = d % 1000 ∨ j % 1000 = k % 1000):=fun j=>by
         simp only [Tc.has,List.any_cons,List.any_nil,Bool.or_false,Bool.or_eq_true,beq_iff_eq]
         exact ⟨fun h=>h.imp Eq.symm Eq.symm,fun h=>h.imp Eq.symm Eq.symm⟩
        have hmod:∀ j,InT k p j→j % 1000 = k % 1000:=fun j hj=>by
         rcases hj with rfl | ⟨x,_,rfl⟩
         ·rfl
         ·rw [zbu];omega
        have hlm:∀ i,zaj d i % 1000 = d % 1000:=fun i=>by unfold zaj;omega
        refine ⟨⟨zaS (fun j=>(za4 s.rw k p j).ver) d r 0,zau (za4 s.rw k p) d (zag r) 0,⟨[],.ids [d,k]⟩⟩,?_,fun j hj=>?_,fun s' hr hev'=>?_⟩
        ·have e1:s.step o ⟨zaS (fun j=>(za4 s.rw k p j).ver) d r 0,zau (za4 s.rw k p) d (zag r) 0,⟨[],.ids [d,k]⟩⟩ = zak (s.killed k p) d r:=by
          unfold St.step zak;rw [hdst];rfl
         rw [e1];exact hk
        ·have hj:¬ (j % 1000 = d % 1000 ∨ j % 1000 = k % 1000):=fun h=>by
          have:=(has j).2 h
          rw [this] at hj;cases hj
         have h2:=(zbA (R:=za4 s.rw k p) (R':=za4 s.rw k p) (d:=d) (fun _=>rfl) j (zag r) 0).2 fun ⟨m,_,hm⟩=>hj (.inl (by rw [hm];exact hlm _))
         show zau (za4 s.rw k p) d (zag r) 0 j = s.rw j
         rw [h2.1,zbZ fun h=>hj (.inr (hmod j h))]
        ·have hag:∀ j,(j % 1000 = d % 1000 ∨ j % 1000 = k % 1000)→s'.rw j = s.rw j:=fun j hj=>hr j (.inr ((has j).2 hj))
         have hkag:∀ j,(j % 1000 = d % 1000 ∨ j % 1000 = k % 1000)→za4 s.rw k p j = za4 s'.rw k p j:=fun j hj=>by unfold za4;rw [hag j hj]
         have e1:s'.stepIn o ⟨zaS (fun j=>(za4 s.rw k p j).ver) d r 0,zau (za4 s.rw k p) d (zag r) 0,⟨[],.ids [d,k]⟩⟩ = zak (s'.killed k p) d r:=by
          unfold St.stepIn zak
          rw [hdst,zdm (vr':=fun j=>(za4 s'.rw k p j).ver) (fun i=>by rw [hkag _ (.inl (hlm i))])]
          congr 2
          funext j
          obtain ⟨a1,a2⟩:=zbA (R:=za4 s.rw k p) (R':=za4 s'.rw k p) (d:=d) (fun i=>hkag _ (.inl (hlm i))) j (zag r) 0
          by_cases hl:∃ m,m < (zag r).length∧j = zaj d (0 + m)
          ·have hb:(Tc.ids [d,k]).has j = true:=(has j).2 (.inl (by obtain ⟨m,_,rfl⟩:=hl;exact hlm _))
           simp only [hb,if_true]
           exact a1 hl
          ·obtain ⟨b1,b2⟩:=a2 hl
           show _ = zau (za4 s'.rw k p) d (zag r) 0 j
           rw [b2]
           by_cases hb:(Tc.ids [d,k]).has j = true
           ·simp only [hb,if_true]
            rw [b1];exact hkag j ((has j).1 hb)
           ·simp only [hb,if_false]
            exact (zbZ fun h=>hb ((has j).2 (.inr (hmod j h)))).symm
         rw [e1]
         have hargs:c.args.toList.map s'.ev = c.args.toList.map s.ev:=List.map_congr_left fun x hx=>hev' x (by simp [ho,Op.operands,Call.operands,hc];exact .inr (by simpa using hx))
         have hf':s'.ev f = .clo g caps:=by rw [hev' f (by simp [ho,Op.operands,Call.operands,hc]),hev]
         refine zvN (rows:=rows) ho hc hdst (hd d hdst) hf' hat (by rw [hargs];exact hg) ⟨?_,ht.len,fun i hi=>?_⟩ hn hdk
         ·rw [hag k (.inr rfl)];exact ht.top
         ·rw [hag (sid k (p.getD i 0)) (.inr (zcO _ _))];exact ht.row i hi
       ·have has:∀ j,(Tc.ids [d,k]).has j = true ↔ (j % 1000 = d % 1000 ∨ j % 1000 = k % 1000):=fun j=>by
         simp only [Tc.has,List.any_cons,List.any_nil,Bool.or_false,Bool.or_eq_true,beq_iff_eq]
         exact ⟨fun h=>h.imp Eq.symm Eq.symm,fun h=>h.imp Eq.symm Eq.symm⟩
        have hmod:∀ j,InT k [] j→j % 1000 = k % 1000:=fun j hj=>by
         rcases hj with rfl | ⟨x,_,rfl⟩
         ·rfl
         ·rw [zbu];omega
        have hlm:∀ i,zaj d i % 1000 = d % 1000:=fun i=>by unfold zaj;omega
        refine ⟨⟨zaS (fun j=>(za4 s.rw k [] j).ver) d (rvF e out ok) 0,zau (za4 s.rw k []) d (zag (rvF e out ok)) 0,⟨[],.ids [d,k]⟩⟩,?_,fun j hj=>?_,fun s' hr hev'=>?_⟩
        ·have e1:s.step o ⟨zaS (fun j=>(za4 s.rw k [] j).ver) d (rvF e out ok) 0,zau (za4 s.rw k []) d (zag (rvF e out ok)) 0,⟨[],.ids [d,k]⟩⟩ = zak (s.killed k []) d (rvF e out ok):=by
          unfold St.step zak;rw [hdst];rfl
         rw [e1];exact hk
        ·have hj:¬ (j % 1000 = d % 1000 ∨ j % 1000 = k % 1000):=fun h=>by
          have:=(has j).2 h
          rw [this] at hj;cases hj
         have h2:=(zbA (R:=za4 s.rw k []) (R':=za4 s.rw k []) (d:=d) (fun _=>rfl) j (zag (rvF e out ok)) 0).2 fun ⟨m,_,hm⟩=>hj (.inl (by rw [hm];exact hlm _))
         show zau (za4 s.rw k []) d (zag (rvF e out ok)) 0 j = s.rw j
         rw [h2.1,zbZ fun h=>hj (.inr (hmod j h))]
        ·have hag:∀ j,(j % 1000 = d % 1000 ∨ j % 1000 = k % 1000)→s'.rw j = s.rw j:=fun j hj=>hr j (.inr ((has j).2 hj))
         have hkag:∀ j,(j % 1000 = d % 1000 ∨ j % 1000 = k % 1000)→za4 s.rw k [] j = za4 s'.rw k [] j:=fun j hj=>by unfold za4;rw [hag j hj]
         have e1:s'.stepIn o ⟨zaS (fun j=>(za4 s.rw k [] j).ver) d (rvF e out ok) 0,zau (za4 s.rw k []) d (zag (rvF e out ok)) 0,⟨[],.ids [d,k]⟩⟩ = zak (s'.killed k []) d (rvF e out ok):=by
          unfold St.stepIn zak
          rw [hdst,zdm (vr':=fun j=>(za4 s'.rw k [] j).ver) (fun i=>by rw [hkag _ (.inl (hlm i))])]
          congr 2
          funext j
          obtain ⟨a1,a2⟩:=zbA (R:=za4 s.rw k []) (R':=za4 s'.rw k []) (d:=d) (fun i=>hkag _ (.inl (hlm i))) j (zag (rvF e out ok)) 0
          by_cases hl:∃ m,m < (zag (rvF e out ok)).length∧j = zaj d (0 + m)
          ·have hb:(Tc.ids [d,k]).has j = true:=(has j).2 (.inl (by obtain ⟨m,_,rfl⟩:=hl;exact hlm _))
           simp only [hb,if_true]
           exact a1 hl
          ·obtain ⟨b1,b2⟩:=a2 hl
           show _ = zau (za4 s'.rw k []) d (zag (rvF e out ok)) 0 j
           rw [b2]
           by_cases hb:(Tc.ids [d,k]).has j = true
           ·simp only [hb,if_true]
            rw [b1];exact hkag j ((has j).1 hb)
           ·simp only [hb,if_false]
            exact (zbZ fun h=>hb ((has j).2 (.inr (hmod j h)))).symm
         rw [e1]
         have hargs:c.args.toList.map s'.ev = c.args.toList.map s.ev:=List.map_congr_left fun x hx=>hev' x (by simp [ho,Op.operands,Call.operands,hc];exact .inr (by simpa using hx))
         have hf':s'.ev f = .clo g caps:=by rw [hev' f (by simp [ho,Op.operands,Call.operands,hc]),hev]
         exact zvH ho hc hdst (hd d hdst) hf' haf (by rw [hargs];exact hraw) hpre (by rw [hag k (.inr rfl)];exact hj) hpl (fun h=>hdk (by rw [h])) hjl
       ·have has:∀ j,(Tc.ids [d,k]).has j = true ↔ (j % 1000 = d % 1000 ∨ j % 1000 = k % 1000):=fun j=>by
         simp only [Tc.has,List.any_cons,List.any_nil,Bool.or_false,Bool.or_eq_true,beq_iff_eq]
         exact ⟨fun h=>h.imp Eq.symm Eq.symm,fun h=>h.imp Eq.symm Eq.symm⟩
        have hkag:∀ s':St,(∀ j,(Tc.ids [d,k]).has j = true→s'.rw j = s.rw j)→∀ j,(j % 1000 = d % 1000 ∨ j % 1000 = k % 1000)→(s.row k r).rw j = (s'.row k r).rw j:=fun s' hr j hj=>by
         show (if j = k then r else s.rw j) = (if j = k then r else s'.rw j)
         rw [hr j ((has j).2 hj)]
        have fin:∀ s':St,(∀ j,(⟨rd,.ids [d,k]⟩:Ent).looks j = true ∨ (Tc.ids [d,k]).has j = true→s'.rw j = s.rw j)→(∀ y ∈ o.op.operands,s'.ev y = s.ev y)→za0 P G s' o (zDi (s'.row k r) d x q):=fun s' hr hev'=>by
         have hargs:c.args.toList.map s'.ev = c.args.toList.map s.ev:=List.map_congr_left fun x hx=>hev' x (by simp [ho,Op.operands,Call.operands,hc];exact .inr (by simpa using hx))
         have hf':s'.ev f = .clo g caps:=by rw [hev' f (by simp [ho,Op.operands,Call.operands,hc]),hev]
         intro a w hs K' Q hK
         refine zf0 (K:=fun S=>S = zDi (s'.row k r) d x q) ho hc (fun y hy=>by rw [hdst] at hy;cases hy;exact hd d hdst) ?_ hs fun s1 a' w' hw hs1=>hK a' w' (hw ▸ hs1)
         rw [hf']
         show askG P s' g (c.args.toList.map s'.ev ++ caps) o.dst _
         rw [hargs,hdst]
         exact hcall s' (hr k (.inr ((has k).2 (.inr rfl)))) (fun a ha=>hr a (.inl (List.any_eq_true.2 ⟨a,ha,by simp⟩))) _ rfl
        cases q with
        | some p =>
          refine ⟨⟨p,(s.row k r).rw,⟨rd,.ids [d,k]⟩⟩,?_,fun j hj=>?_,fun s' hr hev'=>?_⟩
          ·have e1:s.step o ⟨p,(s.row k r).rw,⟨rd,.ids [d,k]⟩⟩ = zDi (s.row k r) d x (some p):=by
            unfold St.step zDi;rw [hdst];rfl
           rw [e1];exact hk
          ·exact if_neg fun h=>by rw [(has j).2 (.inr (by rw [h]))] at hj;cases hj
          ·have e1:s'.stepIn o ⟨p,(s.row k r).rw,⟨rd,.ids [d,k]⟩⟩ = zDi (s'.row k r) d x (some p):=by
            unfold St.stepIn zDi
            rw [hdst]
            congr 2
            funext j
            by_cases hb:(Tc.ids [d,k]).has j = true
            ·simp only [hb,if_true]
             exact hkag s' (fun j hj=>hr j (.inr hj)) j ((has j).1 hb)
            ·simp only [hb,if_false]
             exact (if_neg fun h=>hb ((has j).2 (.inr (by rw [h])))).symm
           rw [e1]
           exact fin s' hr hev'
        | none =>
          have hlm:∀ i,zaj d i % 1000 = d % 1000:=fun i=>by unfold zaj;omega
          refine ⟨⟨zaS (fun j=>((s.row k r).rw j).ver) d x 0,zau (s.row k r).rw d (zag x) 0,⟨rd,.ids [d,k]⟩⟩,?_,fun j hj=>?_,fun s' hr hev'=>?_⟩
          ·have e1:s.step o ⟨zaS (fun j=>((s.row k r).rw j).ver) d x 0,zau (s.row k r).rw d (zag x) 0,⟨rd,.ids [d,k]⟩⟩ = zak (s.row k r) d x:=by
            unfold St.step zak;rw [hdst];rfl
           rw [e1];exact hk
          ·have hj:¬ (j % 1000 = d % 1000 ∨ j % 1000 = k % 1000):=fun h=>by
            have:=(has j).2 h
            rw [this] at hj;cases hj
           have h2:=(zbA (R:=(s.row k r).rw) (R':=(s.row k r).rw) (d:=d) (fun _=>rfl) j (zag x) 0).2 fun ⟨m,_,hm⟩=>hj (.inl (by rw [hm];exact hlm _))
           show zau (s.row k r).rw d (zag x) 0 j = s.rw j
           rw [h2.1];exact if_neg fun h=>hj (.inr (by rw [h]))
          ·have hkag:=hkag s' fun j hj=>hr j (.inr hj)
           have e1:s'.stepIn o ⟨zaS (fun j=>((s.row k r).rw j).ver) d x 0,zau (s.row k r).rw d (zag x) 0,⟨rd,.ids [d,k]⟩⟩ = zak (s'.row k r) d x:=by
            unfold St.stepIn zak
            rw [hdst,zdm (vr':=fun j=>((s'.row k r).rw j).ver) (fun i=>by rw [hkag _ (.inl (hlm i))])]
            congr 2
            funext j
            obtain ⟨a1,a2⟩:=zbA (R:=(s.row k r).rw) (R':=(s'.row k r).rw) (d:=d) (fun i=>hkag _ (.inl (hlm i))) j (zag x) 0
            by_cases hl:∃ m,m < (zag x).length∧j = zaj d (0 + m)
            ·have hb:(Tc.ids [d,k]).has j = true:=(has j).2 (.inl (by obtain ⟨m,_,rfl⟩:=hl;exact hlm _))
             simp only [hb,if_true]
             exact a1 hl
            ·obtain ⟨b1,b2⟩:=a2 hl
             show _ = zau (s'.row k r).rw d (zag x) 0 j
             rw [b2]
             by_cases hb:(Tc.ids [d,k]).has j = true
             ·simp only [hb,if_true]
              rw [b1];exact hkag j ((has j).1 hb)
             ·simp only [hb,if_false]
              exact (if_neg fun h=>hb ((has j).2 (.inr (by rw [h])))).symm
           rw [e1]
           exact fin s' hr hev'
      ·exact hk.elim
     unfold zd4 at hk
     split at hk
     ·rename_i g caps hev
      obtain ⟨rv,hac,hk⟩:=hk
      have vers:∀ s':St,(∀ k,(Tc.res d).has k = true→s'.rw k = s.rw k)→zaS (fun k=>(s'.rw k).ver) d rv 0 = zaS (fun k=>(s.rw k).ver) d rv 0∧∀ k,zau s'.rw d (zag rv) 0 k = if (Tc.res d).has k = true then zau s.rw d (zag rv) 0 k else s'.rw k:=fun s' hr=>by
       have hleaf:∀ i,s'.rw (zaj d i) = s.rw (zaj d i):=fun i=>hr _ (by simp [Tc.has,zaj])
       refine ⟨?_,fun k=>?_⟩
       ·have e0:∀ (r:RV) (i:Nat),zbK (fun k=>(s'.rw k).ver) d r i = zbK (fun k=>(s.rw k).ver) d r i:=fun r i=>by
         cases r <;> simp only [zbK,hleaf]
        have eL:∀ (f g:RV→Nat→PV),(∀ r i,f r i = g r i)→∀ l i,zbv f l i = zbv g l i:=fun f g h l=>by
         induction l with
         | nil=>intro i;rfl
         | cons r rs ih=>intro i;simp only [zbv,h,ih]
        have e1:∀ (r:RV) (i:Nat),zce (fun k=>(s'.rw k).ver) d r i = zce (fun k=>(s.rw k).ver) d r i:=fun r i=>by
         cases r <;> simp only [zce,e0,eL _ _ e0]
        cases rv <;> simp only [zaS,e1,e0,eL _ _ e1]
       ·have:∀ (ls:List (TypeId × Option Nat × List PV)) (i:Nat),zau s'.rw d ls i k = if (Tc.res d).has k = true then zau s.rw d ls i k else s'.rw k:=by
         intro ls
         induction ls with
         | nil =>
           intro i
           simp only [zau]
           by_cases hk:(Tc.res d).has k = true
           ·rw [if_pos hk];exact hr k hk
           ·rw [if_neg hk]
         | cons l ls ih =>
           intro i
           obtain ⟨e,sz,c⟩:=l
           simp only [zau]
           by_cases he:k = zaj d i
           ·subst he
            rw [zaf,zaf,if_pos (by simp [Tc.has,zaj]),hleaf]
            have hk:zbL s'.rw d i e sz c = zbL s.rw d i e sz c:=by
             cases sz <;> simp [zbL,zaO,hleaf]
            rw [hk]
           ·rw [zai _ _ he,zai _ _ he];exact ih (i + 1)
        exact this _ _
      refine ⟨⟨zaS (fun k=>(s.rw k).ver) d rv 0,zau s.rw d (zag rv) 0,⟨(c.args.toList.map s.ev).flatMap (zdL s.rw zfy) ++ zdL s.rw (zfy + 1) (s.ev f),.res d⟩⟩,?_,fun k hn=>?_,fun s' hr hev'=>?_⟩
      ·have e:s.step o ⟨zaS (fun k=>(s.rw k).ver) d rv 0,zau s.rw d (zag rv) 0,⟨(c.args.toList.map s.ev).flatMap (zdL s.rw zfy) ++ zdL s.rw (zfy + 1) (s.ev f),.res d⟩⟩ = zak s d rv:=by unfold St.step zak;rw [hdst]
       rw [e];exact hk
      ·have hn:(Tc.res d).has k = false:=hn
       have:=(vers s fun _ _=>rfl).2 k
       rw [hn] at this
       simpa using this
      ·obtain ⟨v1,v2⟩:=vers s' fun k hk=>hr k (.inr hk)
       have e:s'.stepIn o ⟨zaS (fun k=>(s.rw k).ver) d rv 0,zau s.rw d (zag rv) 0,⟨(c.args.toList.map s.ev).flatMap (zdL s.rw zfy) ++ zdL s.rw (zfy + 1) (s.ev f),.res d⟩⟩ = zak s' d rv:=by
        unfold St.stepIn zak
        rw [hdst,v1]
        congr 2
        funext k
        exact (v2 k).symm
       rw [e]
       obtain ⟨a1,a2⟩:=args s' (fun k hk=>hr k (.inl (zdK hk))) hev' g caps hev
       obtain ⟨s2,rfl,he⟩:=zmK (K:=(· = zak s' d rv)) (s:=s') ho hc hdst (hd d hdst) (by
        unfold zd4
        rw [a1,hev]
        simp only
        rw [a2]
        exact ⟨rv,hac,rfl⟩)
       exact he
     ·exact hk.elim
   | none =>
     simp only [hdst] at hk
     unfold zd4 at hk
     split at hk
     ·rename_i g caps hev
      obtain ⟨rv,hac,hk⟩:=hk
      refine ⟨⟨.junk,s.rw,⟨(c.args.toList.map s.ev).flatMap (zdL s.rw zfy) ++ zdL s.rw (zfy + 1) (s.ev f),.ids []⟩⟩,?_,fun k _=>rfl,fun s' hr hev'=>?_⟩
      ·have e:s.step o ⟨.junk,s.rw,⟨(c.args.toList.map s.ev).flatMap (zdL s.rw zfy) ++ zdL s.rw (zfy + 1) (s.ev f),.ids []⟩⟩ = s:=by unfold St.step St.put;rw [hdst]
       rw [e];exact hk
      ·have e:s'.stepIn o ⟨.junk,s.rw,⟨(c.args.toList.map s.ev).flatMap (zdL s.rw zfy) ++ zdL s.rw (zfy + 1) (s.ev f),.ids []⟩⟩ = s':=by
        unfold St.stepIn St.put
        rw [hdst]
        simp only [Tc.has,List.any_nil,Bool.false_eq_true,if_false]
       rw [e]
       obtain ⟨a1,a2⟩:=args s' (fun k hk=>hr k (.inl (zdK hk))) hev' g caps hev
       obtain ⟨s2,rfl,he⟩:=ziZ (G:=G) (K:=(· = s')) (s:=s') (o:=o) hT hd (by
        simp only [opK,ho,hc,hdst]
        refine .inl ?_
        unfold zd4
        rw [a1,hev]
        simp only
        rw [a2]
        exact ⟨rv,hac,trivial⟩)
       exact he
     ·exact hk.elim
  ·exact read hk
 ·exact read hk
end
end Go.Abs

/- DERIVED by an AI agent. Code; a function's contract from its text. No program in sight. -/
namespace Go.Abs
set_option linter.unusedSimpArgs false
set_option linter.unusedVariables false
theorem zDg {s:St} {d:Nat} {p:PV} (h:s.sl d = p):s.put (some d) p = s:=by
 unfold St.put
 have:(fun i=>if i = d then p else s.sl i) = s.sl:=by
  funext i
  by_cases e:i = d
  ·rw [if_pos e,e,h]
  ·rw [if_neg e]
 show ({ sl:=fun i=>if i = d then p else s.sl i,rw:=s.rw }:St) = s
 rw [this]
section
variable {P:Program} {T:Tab} {G:Ghost} {ops:Array Oper}
theorem zvy [zae] (hT:T.Ok P):∀ (l:List Oper) (acc:List Ent) (s:St) (K:St→Prop),(∀ o ∈ l,∀ d,o.dst = some d→d < G.n)→zeQ P T ops acc l s K→∃ tr s',Tr P G ops l s tr s'∧zlf ops (acc.reverse ++ tr.map (·.e)) = true∧K s':=by
 intro l
 induction l with
 | nil=>intro acc s K _ h;exact ⟨[],s,.nil s,by simpa using h.1,h.2⟩
 | cons o os ih =>
   intro acc s K hd hk
   have hd0:=hd o (by simp)
   have hds:∀ o ∈ os,∀ d,o.dst = some d→d < G.n:=fun o ho=>hd o (by simp [ho])
   have run:∀ (hg:zAO ops s o = some true),dK P T s o (fun e s2=>zeQ P T ops (e :: acc) os s2 K)→∃ tr s',Tr P G ops (o :: os) s tr s'∧zlf ops (acc.reverse ++ tr.map (·.e)) = true∧K s':=fun hg hk=>by
    obtain ⟨x,hx,hr,he⟩:=zDW (G:=G) hT hd0 hk
    obtain ⟨tr,s',ht,hl,hk'⟩:=ih _ _ K hds hx
    exact ⟨x :: tr,s',.cons (.step hg hr he) ht,by simpa using hl,hk'⟩
   have skp:zAO ops s o = some false→zeQ P T ops (⟨[],.ids []⟩ :: acc) os (s.put o.dst (.v undef)) K→∃ tr s',Tr P G ops (o :: os) s tr s'∧zlf ops (acc.reverse ++ tr.map (·.e)) = true∧K s':=fun hg hk=>by
    obtain ⟨tr,s',ht,hl,hk'⟩:=ih _ _ K hds hk
    have e:s.step o ⟨.v undef,s.rw,⟨[],.ids []⟩⟩ = s.put o.dst (.v undef):=by unfold St.step;rfl
    exact ⟨⟨.v undef,s.rw,⟨[],.ids []⟩⟩ :: tr,s',.cons (.skip hg rfl rfl rfl) (by rw [e];exact ht),by simpa using hl,hk'⟩
   simp only [zeQ,zuH] at hk
   cases hg:o.guard with
   | none =>
     simp only [hg] at hk
     exact run (by simp [zAO,hg]) hk
   | some jw =>
     obtain ⟨j,want⟩:=jw
     simp only [hg] at hk
     split at hk
     ·rename_i d hdj
      split at hk
      ·rename_i b hb
       by_cases hbw:b = want
       ·have h1:=hk.1 hbw
        rw [zDg (by rw [hb,hbw])] at h1
        exact run (by simp [zAO,hg,hdj,hb,hbw]) h1
       ·have hbw':b = !want:=by cases b <;> cases want <;> simp_all
        have h2:=hk.2 hbw'
        rw [zDg (s:=s) (by rw [hb,hbw'])] at h2
        exact skp (by simp [zAO,hg,hdj,hb,hbw]) h2
      ·rename_i cs hb
       exact skp (by simp [zAO,hg,hdj,hb]) hk
      ·exact hk.elim
     ·exact hk.elim
theorem zvz [zae] (hT:T.Ok P) (hm:P.follows .mixedOrders = true) {id:Nat} (ho:zj8 ops = true) {s:St} {K:St→Prop} (hd:∀ o ∈ ops,∀ d,o.dst = some d→d < G.n) (hk:zeQ P T ops [] ops.toList s K) {Q:Exit→Act→World→Prop}
 (hQ:∀ s' a' w',K s'→Sim G s' a' w'→Q .normal a' w') {a:Act} {w:World} (hs:Sim G s a w):(Code.region id ops true).wp P Q a w:=by
 obtain ⟨tr,s',ht,hln,hk'⟩:=zvy (G:=G) hT ops.toList [] s K (fun o h=>hd o (by simpa using h)) hk
 refine wp_region_any hm ?_
 obtain ⟨E,hsE⟩:=hs
 have hs1:Sim G s a w.drew:=⟨E,hsE.ext (Ext.drew w)⟩
 have h0:∀ k,(Array.replicate ops.size false).getD k false = false:=fun k=>by
  rw [Array.getD_eq_getD_getElem?,Array.getElem?_replicate];split <;> rfl
 have e0:(fun k=>(Array.replicate ops.size false).getD k false) = fun _=>false:=funext h0
 refine zyQ (zvK ho) (zA9 (by simpa using hln)) ht hd (fun a w h=>hQ s' a w hk' h) ops.size _ a w.drew (by simp) ?_ ?_ ?_
 ·rw [e0];intro j oj hj h;cases h
 ·rw [e0]
  have l0:∀ n (p:Nat→Bool),zbd n (fun k=>false && p k) = none:=by
   intro n p;induction n with
   | zero=>rfl
   | succ n ih=>simp only [zbd];simpa using ih
  have e:stD ops tr s (fun _=>false) = s:=by
   unfold stD
   have e1:zir ops.toList tr s (fun _=>false) = s.sl:=by funext t;unfold zir;rw [l0]
   have e2:zis ops.toList tr s (fun _=>false) = s.rw:=by funext k;unfold zis;rw [l0]
   rw [e1,e2]
  rw [e];exact hs1
 ·have:(Array.replicate ops.size false).toList.length = ops.size:=by simp
  exact Nat.le_trans List.count_le_length (Nat.le_of_eq this)
end
inductive AX where
 | norm
 | exit (id:Nat)
 | ret
def AX.blk (id:Nat) (Q:AX→St→Prop):AX→St→Prop
 | .norm,s=>Q .norm s
 | .ret,s=>Q .ret s
 | .exit i,s=>if i = id then Q .norm s else Q (.exit i) s
def AX.seq (K:St→Prop) (Q:AX→St→Prop):AX→St→Prop
 | .norm,s=>K s
 | .ret,s=>Q .ret s
 | .exit i,s=>Q (.exit i) s
def zqc [zae] (body:(AX→St→Prop)→St→Prop) (Q:AX→St→Prop) (s:St):Prop :=
 ∃ (α:Type) (I:α→St→Prop) (μ:α→Nat),(∃ x s0,Wk s s0∧I x s0) ∧
  ∀ x s1,I x s1→body (AX.seq (fun s2=>∃ x' s3,Wk s2 s3∧I x' s3∧μ x' < μ x) Q) s1
def cwp [zae] (P:Program) (T:Tab):Code→(AX→St→Prop)→St→Prop
 | .skip,Q,s=>Q .norm s
 | .region _ ops draw,Q,s=>(match draw with
   | false=>zrF P T ops ops.toList s (Q .norm)
   | true=>zj8 ops = true∧zeQ P T ops [] ops.toList s (Q .norm))
 | .seq x y,Q,s=>cwp P T x (AX.seq (cwp P T y Q) Q) s
 | .cond c x y,Q,s=>(match s.ev c with | .v (.bool b)=>(b = true→cwp P T x Q s)∧(b = false→cwp P T y Q s) | _=>False)
 | .block id x,Q,s=>cwp P T x (AX.blk id Q) s
 | .loop x,Q,s=>zqc (cwp P T x) Q s
 | .exit id,Q,s=>Q (.exit id) s
 | .ret,Q,s=>Q .ret s
 | .label _,Q,s=>Q .norm s
 | _,_,_=>False
def fits (n:Nat):Code→Bool
 | .region _ ops _=>ops.all fun o=>match o.dst with | some d=>decide (d < n) | none=>true
 | .seq x y=>fits n x && fits n y
 | .cond _ x y=>fits n x && fits n y
 | .block _ x=>fits n x
 | .loop x=>fits n x
 | _=>true
def zHE [zae] (G:Ghost) (Q:AX→St→Prop):Exit→Act→World→Prop
 | .normal,a,w=>∃ s,Sim G s a w∧Q .norm s
 | .exit id,a,w=>∃ s,Sim G s a w∧Q (.exit id) s
 | .ret,a,w=>∃ s,Sim G s a w∧Q .ret s
 | _,_,_=>False
section
variable {P:Program} {T:Tab} {G:Ghost}
theorem zgH [zae] (hT:T.Ok P) (hm:P.follows .mixedOrders = true):∀ (c:Code),fits G.n c = true→∀ (Q:AX→St→Prop) (s:St),cwp P T c Q s→∀ (a:Act) (w:World),Sim G s a w→c.wp P (zHE G Q) a w:=by
 intro c
 induction c with
 | skip=>intro _ Q s hk a w hs;exact wp_skip ⟨s,hs,hk⟩
 | region id ops draw =>
   intro hf Q s hk a w hs
   have hd:∀ o ∈ ops,∀ d,o.dst = some d→d < G.n:=fun o ho d hod=>by
    simp only [fits,Array.all_eq_true'] at hf
    have:=hf o ho
    rw [hod] at this
    simpa using this
   cases draw with
   | false =>
     have hk':zrF P T ops ops.toList s (Q .norm):=hk
     exact wp_region_list (zyT hT ops.toList s (Q .norm) (fun o h=>hd o (by simpa using h)) hk' (fun s' a' w' hq hs'=>⟨s',hs',hq⟩) a w hs)
   | true =>
     have hk':zj8 ops = true∧zeQ P T ops [] ops.toList s (Q .norm):=hk
     exact zvz hT hm hk'.1 hd hk'.2 (fun s' a' w' hq hs'=>⟨s',hs',hq⟩) hs
 | seq x y ihx ihy =>
   intro hf Q s hk a w hs
   simp only [fits,Bool.and_eq_true] at hf
   refine wp_seq (wp_mono (ihx hf.1 _ s hk a w hs) fun e a' w' h=>?_)
   cases e with
   | normal=>obtain ⟨s',hs',hq⟩:=h;exact ihy hf.2 Q s' hq a' w' hs'
   | exit id=>exact h
   | ret=>exact h
   | goto l=>exact h.elim
   | panic ch=>exact h.elim
   | outgrown=>exact h.elim
 | cond c x y ihx ihy =>
   intro hf Q s hk a w hs
   simp only [fits,Bool.and_eq_true] at hf
   simp only [cwp] at hk
   split at hk
   ·rename_i b hb
    obtain ⟨E,hsE⟩:=hs
    have hv:=zaw hsE.slots c
    rw [hb] at hv
    refine wp_cond hv.v_eq ?_
    cases b with
    | true=>exact ihx hf.1 Q s (hk.1 rfl) a w ⟨E,hsE⟩
    | false=>exact ihy hf.2 Q s (hk.2 rfl) a w ⟨E,hsE⟩
   ·exact hk.elim
 | block id x ih =>
   intro hf Q s hk a w hs
   refine wp_block (wp_mono (ih hf _ s hk a w hs) fun e a' w' h=>?_)
   cases e with
   | normal=>exact h
   | exit i =>
     obtain ⟨s',hs',hq⟩:=h
     simp only [Exit.inBlock]
     simp only [AX.blk] at hq
     by_cases hi:i = id
     ·rw [if_pos hi] at hq ⊢;exact ⟨s',hs',hq⟩
     ·rw [if_neg hi] at hq ⊢;exact ⟨s',hs',hq⟩
   | ret=>exact h
   | goto l=>exact h.elim
   | panic ch=>exact h.elim
   | outgrown=>exact h.elim
 | loop x ih =>
   intro hf Q s hk a w hs
   obtain ⟨α,I,μ,⟨x0,s0,hw0,hI0⟩,hround⟩:=hk
   have key:∀ n x1 s1,μ x1 = n→I x1 s1→∀ a w,Sim G s1 a w→∀ (b:Frame) (k:List Item) (cs:List Frame),
    ∃ e a' w',zHE G Q e a' w'∧Arrives P (lone (b.at a (.code x :: .inLoop x :: k)) cs w) b k cs e a' w':=by
    intro n
    induction n using Nat.strongRecOn with
    | _ n ihn =>
      intro x1 s1 hn hI a w hs b k cs
      obtain ⟨e,a₁,w₁,hq,harr⟩:=ih hf _ s1 (hround x1 s1 hI) a w hs b (.inLoop x :: k) cs
      cases e with
      | normal =>
        obtain ⟨s2,hs2,x',s3,hw3,hI3,hlt⟩:=hq
        obtain ⟨e₂,a₂,w₂,hq₂,harr₂⟩:=ihn (μ x') (hn ▸ hlt) x' s3 rfl hI3 a₁ w₁ (hw3 G a₁ w₁ hs2) b k cs
        exact ⟨e₂,a₂,w₂,hq₂,.of_steps (Steps.trans harr (.one step_inLoop)) harr₂⟩
      | exit id=>exact ⟨.exit id,a₁,w₁,hq,.pass (x:=.inLoop x) rfl (fun _ _=>.inl (by simp)) harr⟩
      | ret=>exact ⟨.ret,a₁,w₁,hq,.pass (x:=.inLoop x) rfl (fun _ _=>.inl (by simp)) harr⟩
      | goto l=>exact hq.elim
      | panic ch=>exact hq.elim
      | outgrown=>exact hq.elim
   intro b k cs
   obtain ⟨e,a',w',hq,harr⟩:=key _ x0 s0 rfl hI0 a w (hw0 G a w hs) b k cs
   exact ⟨e,a',w',hq,.of_steps (.one step_loop) harr⟩
 | exit id=>intro _ Q s hk a w hs;exact wp_exit ⟨s,hs,hk⟩
 | ret=>intro _ Q s hk a w hs;exact wp_ret ⟨s,hs,hk⟩
 | label l=>intro _ Q s hk a w hs;exact wp_label ⟨s,hs,hk⟩
 | rangeFunc _ _ _ _=>intro _ Q s hk;exact hk.elim
 | scope _ _=>intro _ Q s hk;exact hk.elim
 | goto _=>intro _ Q s hk;exact hk.elim
 | refuse _=>intro _ Q s hk;exact hk.elim
end
def zJG [zae] (P:Program) (n:Nat) (c:Code) (Q:AX→St→Prop) (s:St):Prop :=
 ∀ G:Ghost,G.n = n→∀ (a:Act) (w:World),Sim G s a w→c.wp P (zHE G Q) a w
theorem zDV [zae] {P:Program} {T:Tab} {n:Nat} {Q:AX→St→Prop} {s:St} {c:Code} (hT:T.Ok P) (hm:P.follows .mixedOrders = true) (hf:fits n c = true) (h:cwp P T c Q s):zJG P n c Q s :=
 fun G hn a w hs=>zgH hT hm c (by rw [hn];exact hf) Q s h a w hs
end Go.Abs

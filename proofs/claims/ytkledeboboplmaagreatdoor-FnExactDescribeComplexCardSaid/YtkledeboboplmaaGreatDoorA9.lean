/- DERIVED by an AI agent. -/
import Derived.Test.YtkledeboboplmaaGreatDoorA8
/- DERIVED by an AI agent. What a region that draws its order asks. No program in sight. -/
namespace Go.Abs
set_option linter.unusedSimpArgs false
def zFe:PV→List Nat | .own k _=>[k % 1000] | .ref k _ _=>[k % 1000] | _=>[]
def zew:PV→List Nat | .own k _=>[k % 1000] | .ref k _ _=>[k % 1000] | .ag c=>c.flatMap zFe | _=>[]
def zdO (l:List Nat) (k:Nat):Prop:=∃ a ∈ l,a % 1000 = k % 1000
theorem zbJ (k:Nat):zdO [k % 1000] k:=⟨_,List.mem_singleton.2 rfl,Nat.mod_mod _ _⟩
theorem zjW {l:List Nat} {k:Nat} (h:k ∈ l):zdO l k:=⟨_,h,rfl⟩
theorem zft {l m:List Nat} {k:Nat} (h:zdO l k):zdO (l ++ m) k:=by obtain ⟨a,ha,e⟩:=h;exact ⟨a,List.mem_append.2 (.inl ha),e⟩
theorem zbB {l m:List Nat} {k:Nat} (h:zdO m k):zdO (l ++ m) k:=by obtain ⟨a,ha,e⟩:=h;exact ⟨a,List.mem_append.2 (.inr ha),e⟩
theorem zrB {a:Nat} {l:List Nat} {k:Nat} (h:zdO l k):zdO (a :: l) k:=by obtain ⟨b,hb,e⟩:=h;exact ⟨b,List.mem_cons_of_mem _ hb,e⟩
theorem zrC {l:List Nat} {k:Nat}:zdO (k % 1000 :: l) k:=⟨_,List.mem_cons_self,Nat.mod_mod _ _⟩
theorem zv1 {l m:List Nat} {k:Nat} (h:zdO l k) (hs:∀ a ∈ l,a ∈ m):zdO m k:=by obtain ⟨a,ha,e⟩:=h;exact ⟨a,hs a ha,e⟩
theorem zee {α:Type} {f:α→List Nat} {l:List α} {x:α} {k:Nat} (hx:x ∈ l) (h:zdO (f x) k):zdO (l.flatMap f) k:=by obtain ⟨a,ha,e⟩:=h;exact ⟨a,List.mem_flatMap.2 ⟨x,hx,ha⟩,e⟩
theorem zef {e:Ent} {k:Nat} (h:zdO e.rd k):e.looks k = true:=by
 obtain ⟨a,ha,h⟩:=h
 unfold Ent.looks
 simp only [List.any_eq_true,beq_iff_eq]
 exact ⟨a,ha,h⟩
theorem zhu [zae] {l:List Nat} {k:Nat}:(Tc.ids l).has k = true ↔ zdO l k:=zsY
theorem zi3 [zae] {l:List Nat} {k:Nat} (h:(Tc.ids l).has k = false):¬ zdO l k:=fun hn=>by rw [zhu.2 hn] at h;cases h
def same (rw rw':Nat→Row) (p:PV):Prop:=∀ k,zdO (zew p) k→rw' k = rw k
section
variable {P:Program} {T:Tab} {rw rw':Nat→Row} {p:PV}
theorem zAb [zae] (hs:same rw rw' p) (K:Md→List PV→Nat→Prop):zsH rw' p K = zsH rw p K:=by
 cases p <;> first | rfl | (simp only [zsH];rw [hs _ (zbJ _)])
theorem zv2 [zae] (hs:same rw rw' p) (K:Bool→Nat→List PV→Prop):slK rw' p K = slK rw p K:=by
 cases p <;> first | rfl | (simp only [slK];rw [hs _ (zbJ _)])
theorem zw3 [zae] (hs:same rw rw' p) (K:Bool→Nat→List PV→Prop):zgG rw' p K = zgG rw p K:=by
 cases p <;> first | rfl | (simp only [zgG];rw [hs _ (zbJ _)])
theorem zif [zae] (hs:same rw rw' p) (A:Prop):zdB rw' p A = zdB rw p A:=by
 cases p <;> first | rfl | (simp only [zdB];rw [hs _ (zbJ _)])
theorem zex [zae] (hs:same rw rw' p) (K:List PV→Prop):za1 rw' p K = za1 rw p K:=by
 cases p <;> first | rfl | (simp only [za1];rw [hs _ (zbJ _)])
theorem zk8 [zae] {i:PV} {t:TypeId} (hs:same rw rw' p) (K:PV→Prop):zbp T rw' t p i K = zbp T rw t p i K:=by
 unfold zbp
 simp only [zif hs]
 cases p <;> first | rfl | (simp only;rw [hs _ (zbJ _)])
theorem zAc [zae] (hs:same rw rw' p) (K:Nat→Nat→Prop):zx7 rw' p K = zx7 rw p K:=by
 cases p <;> first | rfl | (simp only [zx7];rw [hs _ (zbJ _)])
theorem zAd [zae] {t:TypeId} (hs:same rw rw' p) (K:PV→Prop):zAK T rw' t p K = zAK T rw t p K:=by
 unfold zAK
 simp only [zAc hs]
theorem zsV [zae] {ev:Operand→PV} {t:TypeId} {lo hi mx:Option Operand} (hs:same rw rw' p) (K:PV→Prop):zbC T rw' ev t p lo hi mx K = zbC T rw ev t p lo hi mx K:=by
 unfold zbC
 simp only [zw3 hs]
theorem zw4 [zae] {a b:TypeId} (hs:same rw rw' p) (K:PV→Prop):zgd T rw' a b p K = zgd T rw a b p K:=by
 unfold zgd
 simp only [zv2 hs]
theorem zw5 [zae] {i:PV} {t:TypeId} (hs:same rw rw' p) (K:PV→Prop):zjo T rw' t p i K = zjo T rw t p i K:=by
 cases p with
 | own k ver =>
   have e:=hs k (zbJ k)
   cases i with
   | v x=>cases x with
     | int kd a=>cases kd <;> first | rfl | simp only [zjo,e]
     | _=>rfl
   | _=>rfl
 | _=>rfl
theorem zAe [zae] {ev:Operand→PV} {op:Op} (h:∀ x ∈ op.operands,same rw rw' (ev x)) (K:PV→Prop):zjp T rw' ev op K = zjp T rw ev op K:=by
 unfold zjp
 cases op <;> try rfl
 case convert a b x=>exact zw4 (h x (by simp [Op.operands])) K
 case load t x=>exact zAb (h x (by simp [Op.operands])) _
 case fieldAddr t x f=>simp only [zif (h x (by simp [Op.operands]))]
 case indexAddr t x i=>exact zk8 (h x (by simp [Op.operands])) K
 case slice t x lo hi mx=>exact zsV (h x (by simp [Op.operands])) K
 case nilCheck x=>exact zif (h x (by simp [Op.operands])) _
 case lookup t x i ok=>exact congrArg (ok = false∧·) (zw5 (h x (by simp [Op.operands])) K)
 case call c =>
  dsimp only
  split
  ·rename_i x t;exact zAd (h x (by simp [Op.operands,Call.operands])) K
  ·rfl
  ·rfl
  ·rfl
theorem zw6 [zae] {fs:List (Nat × TypeId)}:∀ (pp:List (Nat × PV)) (c:List PV) (K:List PV→Prop),(∀ x ∈ pp,same rw rw' x.2)→zdl T rw' fs pp c K = zdl T rw fs pp c K:=by
 intro pp
 induction pp with
 | nil=>intro c K _;rfl
 | cons x pp ih =>
   intro c K h
   obtain ⟨i,p⟩:=x
   have h0:same rw rw' p:=h (i,p) (by simp)
   have ih':∀ c K,zdl T rw' fs pp c K = zdl T rw fs pp c K:=fun c K=>ih c K fun y hy=>h y (by simp [hy])
   simp only [zdl,ih',zex h0]
theorem zAf {fs:List (Nat × TypeId)}:∀ (pp:List (Nat × PV)) (c:List PV) (K:List PV→Prop),zdl T rw fs pp c K→∃ c',K c'∧zdl T rw fs pp c (· = c'):=by
 intro pp
 induction pp with
 | nil=>intro c K h;exact ⟨c,h,rfl⟩
 | cons x pp ih =>
   intro c K h
   obtain ⟨i,p⟩:=x
   unfold zdl at h ⊢
   split at h
   ·rename_i off ft hfi
    unfold za1 at h ⊢
    split at h <;> first
     | exact h.elim
     | (obtain ⟨a1,a2,h⟩:=h;obtain ⟨c',h1,h2⟩:=ih _ _ h;exact ⟨c',h1,a1,a2,h2⟩)
     | (obtain ⟨q,a1,a2,h⟩:=h;obtain ⟨c',h1,h2⟩:=ih _ _ h;exact ⟨c',h1,q,a1,a2,h2⟩)
     | (obtain ⟨q,q2,a1,a2,h⟩:=h;obtain ⟨c',h1,h2⟩:=ih _ _ h;exact ⟨c',h1,q,q2,a1,a2,h2⟩)
   ·exact h.elim
end
def zfe (T:Tab) (rw:Nat→Row) (ev:Operand→PV) (op:Op) (K:PV→Prop):Prop :=
 match op with
 | .build t parts=>zgE T rw ev t parts K
 | op=>zjp T rw ev op K
def zsW (k:Nat) (c:List PV):List Nat:=c.flatMap fun q=>match q with | .own j _=>if j % 1000 = k % 1000 then [] else [j % 1000] | _=>[]
def zeg (rw:Nat→Row):Nat→PV→List Nat
 | 0,_=>[]
 | n + 1,p=>match p with
   | .own k _=>k % 1000 :: (match (rw k).kind with | .tab _ c=>zsW k c | _=>[])
   | .ref k _ _=>k % 1000 :: (match (rw k).kind with | .box _ c=>c.flatMap (zeg rw n) | _=>[])
   | .ag c=>c.flatMap (zeg rw n)
   | .clo _ c=>c.flatMap (zeg rw n)
   | _=>[]
theorem zrD [zae] {rw rw':Nat→Row}:∀ (n:Nat) (p:PV),(∀ k,zdO (zeg rw n p) k→rw' k = rw k)→zcC rw' n p = zcC rw n p:=by
 intro n
 induction n with
 | zero=>intro p _;rfl
 | succ n ih =>
   intro p h
   have lst:∀ c:List PV,(∀ k,zdO (c.flatMap (zeg rw n)) k→rw' k = rw k)→c.map (zcC rw' n) = c.map (zcC rw n):=fun c hc =>
    List.map_congr_left fun q hq=>ih q fun k hk=>hc k (zee hq hk)
   cases p with
   | own k ver =>
     have h0:=h k zrC
     simp only [zcC,h0]
     split
     ·cases hk:(rw k).kind with
      | tab e c =>
        simp only
        congr 1
        refine List.map_congr_left fun q hq=>?_
        cases q with
        | own j v =>
          have hj:rw' j = rw j:=h j (by
           simp only [zeg,hk]
           by_cases he:j % 1000 = k % 1000
           ·exact ⟨_,List.mem_cons_self,by rw [Nat.mod_mod];exact he.symm⟩
           ·exact zrB (zee hq (by simp only [he,if_false];exact zbJ j)))
          simp only [zmz,hj]
        | _=>rfl
      | _=>rfl
     ·rfl
   | ref k ver off =>
     have h0:=h k zrC
     simp only [zcC,h0]
     split
     ·cases hk:(rw k).kind with
      | box t c=>simp only;rw [lst c fun j hj=>h j (by simp only [zeg,hk];exact zrB hj)]
      | _=>rfl
     ·rfl
   | ag c=>simp only [zcC];rw [lst c fun j hj=>h j hj]
   | clo f c=>simp only [zcC];rw [lst c fun j hj=>h j hj]
   | _=>rfl
def zFf (s:St) (d:Nat) (x:RV):Option PV→St | none=>zao s d x | some p=>s.put (some d) p
def zJD [zae] (P:Program) (s:St) (g:FuncId) (raw:List PV) (d:Nat) (K:List Nat→Nat→St→Prop):Prop :=
 (∃ (k v e e2:Nat) (p:List Nat) (rows rows':List (List PV)) (args:List PV) (r:RV),
  AT P g args e e2 rows rows' (.rv r)∧GiveL [(k,v)] raw args∧TabIs s.rw k v e e2 p rows∧p.Nodup∧d % 1000 ≠ k % 1000∧K [] k (zao (s.killed k p) d r)) ∨
 (∃ (j vj e:Nat) (pre pre' head out:List PV) (ok:Bool),
  AF P g pre head e out ok∧zGa pre pre'∧raw = pre' ++ [.own j vj]∧s.rw j = ⟨vj,.sli e 1 false head⟩∧zbM head∧d % 1000 ≠ j % 1000∧j < lent∧K [] j (zao (s.killed j []) d (rvF e out ok))) ∨
 (∃ (rd:List Nat) (k:Nat) (x:RV) (r:Row) (q:Option PV),(∀ s':St,s'.rw k = s.rw k→(∀ a ∈ rd,s'.rw a = s.rw a)→∀ K':St→Prop,K' (zFf (s'.row k r) d x q)→askG P s' g raw (some d) K')∧d % 1000 ≠ k % 1000∧K rd k (zFf (s.row k r) d x q))
def tdK [zae] (P:Program) (s:St) (f:Operand) (c:Call) (d:Nat) (K:Ent→St→Prop):Prop :=
 match s.ev f with | .clo g caps=>zJD P s g (c.args.toList.map s.ev ++ caps) d (fun rd k s1=>K ⟨rd,.ids [d,k]⟩ s1) | _=>False
def nK [zae] (P:Program) (s:St) (o:Oper) (K:Ent→St→Prop):Prop :=
 match o.op with
 | .call c=>(match c.callee with
  | .value f=>(match o.dst with
   | some d=>(zeB P s.rw s.ev f c.args fun rv=>K ⟨(c.args.toList.map s.ev).flatMap (zeg s.rw zgc) ++ zeg s.rw (zgc + 1) (s.ev f),.res d⟩ (zao s d rv)) ∨ tdK P s f c d K
   | none=>zeB P s.rw s.ev f c.args fun _=>K ⟨(c.args.toList.map s.ev).flatMap (zeg s.rw zgc) ++ zeg s.rw (zgc + 1) (s.ev f),.ids []⟩ s)
  | _=>False)
 | _=>False
def zoN (s:St) (o:Oper):List Nat:=match zoQ o with | true=>[] | false=>(o.op.operands.toList.map s.ev).flatMap zew
def zMH (T:Tab) (s:St) (dst:Option Nat) (t:TypeId) (r:Row) (k ver:Nat) (py:PV) (K:Ent→St→Prop):Prop :=
 ∃ (d e:Nat) (c:List PV) (kd:IntKind) (m:Int),dst = some d∧r = ⟨ver,.sli e 1 false c⟩∧0 < (T t).size∧(T t).k = .sli e∧0 < (T e).size∧(T e).size = 1∧py = .v (.int kd m)∧0 ≤ m∧m ≤ (c.length:Int) ∧
  K ⟨[],.ids [k]⟩ ((s.row k ⟨ver + 1,.sli e 1 false (c.take m.toNat)⟩).put (some d) (.own k (ver + 1)))
def zKF (T:Tab) (s:St) (o:Oper) (t:TypeId) (px py:PV) (K:Ent→St→Prop):Prop :=
 match px with
 | .own k ver=>(match (s.rw k).kind with
  | .sli _ _ false _=>zMH T s o.dst t (s.rw k) k ver py K
  | _=>zfe T s.rw s.ev o.op fun p=>K ⟨zoN s o,.ids []⟩ (s.put o.dst p))
 | _=>zfe T s.rw s.ev o.op fun p=>K ⟨zoN s o,.ids []⟩ (s.put o.dst p)
def dK [zae] (P:Program) (T:Tab) (s:St) (o:Oper) (K:Ent→St→Prop):Prop :=
 match o.op with
 | .store _ ad x=>opK P T s o (K ⟨[],.ids (zew (s.ev ad) ++ zew (s.ev x))⟩)
 | .alloc _=>opK P T s o (K ⟨[],.ids o.dst.toList⟩)
 | .box _ x=>opK P T s o (K ⟨zew (s.ev x),.ids o.dst.toList⟩)
 | .makeSlice _ _ _=>opK P T s o (K ⟨[],.ids o.dst.toList⟩)
 | .buildSlice _ _ parts=>opK P T s o (K ⟨[],.ids (o.dst.toList ++ (parts.toList.map fun x=>s.ev x.2).flatMap zew)⟩)
 | .slice t x none (some y) none=>zKF T s o t (s.ev x) (s.ev y) K
 | .call c=>(match c.callee with
  | .builtin .append=>(match c.args with | ⟨[x,y]⟩=>opK P T s o (K ⟨zew (s.ev y),.ids (o.dst.toList ++ zew (s.ev x))⟩) | _=>False)
  | .value _=>nK P s o K
  | _=>zfe T s.rw s.ev o.op fun p=>K ⟨zoN s o,.ids []⟩ (s.put o.dst p))
 | _=>zfe T s.rw s.ev o.op fun p=>K ⟨zoN s o,.ids []⟩ (s.put o.dst p)
def zfu [zae] (P:Program) (T:Tab) (ops:Array Oper):List Ent→List Oper→St→(St→Prop)→Prop
 | acc,[],s,K=>zmw ops acc.reverse = true∧K s
 | acc,o :: os,s,K=>zv6 ops s o
  (fun s1=>dK P T s1 o fun e s2=>zfu P T ops (e :: acc) os s2 K)
  (fun s2=>zfu P T ops (⟨[],.ids []⟩ :: acc) os s2 K)
section
variable {P:Program} {T:Tab} {G:Ghost} {ops:Array Oper}
theorem zCR [zae] {rw:Nat→Row} {ev:Operand→PV} {op:Op} {K:PV→Prop} (h:zjp T rw ev op K):∃ p,K p∧∀ K':PV→Prop,K' p→zjp T rw ev op K':=by
 unfold zjp at h ⊢
 split at h
 ·exact ⟨_,h,fun _ h=>h⟩
 ·exact ⟨_,h,fun _ h=>h⟩
 ·split at h
  ·rename_i t _
   cases t with
   | true=>exact ⟨_,h.1 rfl,fun _ h'=>⟨fun _=>h',fun h=>by cases h⟩⟩
   | false=>exact ⟨_,h.2 rfl,fun _ h'=>⟨(fun h=>by cases h),fun _=>h'⟩⟩
  ·exact h.elim
 ·exact zwd h
 ·exact zAF h
 ·exact zrS h
 ·obtain ⟨m,c,off,h,hd⟩:=zwb h
  obtain ⟨p,hp,hl⟩:=zim h
  exact ⟨p,hp,fun K' hk=>hd _ (hl _ hk)⟩
 ·obtain ⟨o',ft,h,hd⟩:=zf0 h
  obtain ⟨hptr,h⟩:=h
  obtain ⟨hk,hs⟩:=zfB h
  exact ⟨_,hk,fun K' hk=>hd _ ⟨hptr,hs _ hk⟩⟩
 ·rename_i t x f
  obtain ⟨o',ft,h,hd⟩:=zf0 h
  cases he:ev x with
  | ag c =>
    rw [he] at h
    obtain ⟨p,hp,hl⟩:=zim h
    exact ⟨p,hp,fun K' hk=>hd _ (hl _ hk)⟩
  | _=>rw [he] at h;exact h.elim
 ·exact zgr h
 ·obtain ⟨hs,h⟩:=h
  split at h
  ·exact ⟨_,h.2.2,fun _ hk=>⟨hs,h.1,h.2.1,hk⟩⟩
  ·obtain ⟨p,hp,hl⟩:=zim h.2.2
   exact ⟨p,hp,fun _ hk=>⟨hs,h.1,h.2.1,hl _ hk⟩⟩
  ·exact h.elim
 ·exact zn3 h
 ·split at h
  ·exact ⟨_,h.2,fun _ hk=>⟨h.1,hk⟩⟩
  ·exact h.elim
 ·split at h
  ·exact ⟨_,h.2,fun _ hk=>⟨h.1,hk⟩⟩
  ·exact h.elim
 ·obtain ⟨hk,hs⟩:=zfB h
  exact ⟨_,hk,fun K' hk=>hs _ hk⟩
 ·split at h
  ·exact zwc h
  ·exact zeC h
  ·exact zeC h
  ·exact h.elim
 ·obtain ⟨h1,h⟩:=h
  obtain ⟨p,hp,hd⟩:=zrW h
  exact ⟨p,hp,fun K' hk=>⟨h1,hd _ hk⟩⟩
 ·exact h.elim
theorem zAg [zae] {rw:Nat→Row} {ev:Operand→PV} {op:Op} {K:PV→Prop} (h:zfe T rw ev op K):∃ p,K p∧zfe T rw ev op (· = p):=by
 unfold zfe at h ⊢
 split at h
 ·unfold zgE at h ⊢
  obtain ⟨h1,h⟩:=h
  split at h
  ·rename_i fs hfs
   obtain ⟨h2,h⟩:=h
   obtain ⟨c',h3,h4⟩:=zAf _ _ _ h
   refine ⟨_,h3,h1,h2,?_⟩
   refine (?_:zdl T rw fs _ _ (fun c=>PV.ag c = PV.ag c'))
   have e:(fun c=>PV.ag c = PV.ag c') = (· = c'):=by funext c;simp
   rw [e];exact h4
  ·exact h.elim
 ·obtain ⟨p,hp,hd⟩:=zCR h
  exact ⟨p,hp,hd _ rfl⟩
theorem zw7 [zae] {rw rw':Nat→Row} {ev:Operand→PV} {op:Op} (h:∀ x ∈ op.operands,same rw rw' (ev x)) (K:PV→Prop):zfe T rw' ev op K = zfe T rw ev op K:=by
 unfold zfe
 split
 ·rename_i t parts
  unfold zgE
  split
  ·rename_i fs hfs
   rw [zw6 _ _ _ fun x hx=>by
    obtain ⟨y,hy,rfl⟩:=List.mem_map.1 hx
    exact h y.2 (by simp only [Op.operands,List.mem_toArray,List.mem_map];exact ⟨y,hy,rfl⟩)]
  ·rfl
 ·exact zAe h K
theorem zw8 {rw rw':Nat→Row} {ev:Operand→PV} {o:Oper} {K:PV→Prop} (hf:zoQ o = true) (h:zfe T rw ev o.op K):zfe T rw' ev o.op K:=by
 unfold zoQ at hf
 split at hf <;> first
  | (rename_i ho;rw [ho] at h ⊢;exact h)
  | cases hf
theorem zw9 [zae] (hT:T.Ok P) {s:St} {K:PV→Prop} {o:Oper} (hk:zfe T s.rw s.ev o.op K):∃ p,K p∧zgs P G s o p:=by
 unfold zfe at hk
 split at hk
 ·rename_i t parts ho;exact zi9 hT ho hk
 ·exact zrT hT hk
theorem zJE {s s':St} {l:List (Nat × Operand)} (h:∀ x ∈ l,s'.ev x.2 = s.ev x.2):(l.map fun x=>s'.ev x.2) = l.map fun x=>s.ev x.2:=List.map_congr_left h
def upR (fz:List Nat) (d:Nat) (r:Row) (rw:Nat→Row):Nat→Row:=fun i=>if i = d then r else zhy rw fz i
theorem zjX [zae] (s:St) (d:Nat) (kd:RK) (p:Nat→PV):zcI s d kd p = (St.mk s.sl (upR [] d ⟨(s.rw d).ver + 1,kd⟩ s.rw)).put (some d) (p ((s.rw d).ver + 1)):=by
 unfold zcI St.row upR;rw [zfY]
theorem zjY [zae] (s:St) (d k:Nat) (kd:RK):zdm s d k kd = (St.mk s.sl (upR [] k ⟨(s.rw k).ver + 1,kd⟩ s.rw)).put (some d) (.own k ((s.rw k).ver + 1)):=by
 unfold zdm St.row upR;rw [zfY]
theorem znT [zae] (s:St) (k:Nat) (r:Row):s.row k r = St.mk s.sl (upR [] k r s.rw):=by
 unfold St.row upR;rw [zfY]
theorem zv3 (s:St) (fz:List Nat) (k:Nat) (r:Row):(s.freeze fz).row k r = St.mk s.sl (upR fz k r s.rw):=rfl
theorem zrE [zae] {rw:Nat→Row} {p:PV} {K:List PV→List Nat→Prop} (hk:zc8 rw p K):∃ c f,K c f∧(∀ j ∈ f,zdO (zew p) j)∧∀ rw',same rw rw' p→zc8 rw' p (fun a b=>a = c∧b = f):=by
 unfold zc8 at hk
 split at hk
 ·exact ⟨_,_,hk.2,by simp,fun rw' _=>⟨hk.1,rfl,rfl⟩⟩
 ·exact ⟨_,_,hk.2,by simp,fun rw' _=>⟨hk.1,rfl,rfl⟩⟩
 ·rename_i k ver
  obtain ⟨h1,h2,hk⟩:=hk
  split at hk
  ·rename_i hkd
   refine ⟨_,_,hk,by simp,fun rw' hs=>?_⟩
   have:=hs k (zbJ _)
   unfold zc8
   simp only [this,hkd]
   exact ⟨h1,h2,by simp⟩
  ·rename_i hkd
   refine ⟨_,_,hk,fun j hj=>by rw [List.mem_singleton.1 hj];exact zbJ _,fun rw' hs=>?_⟩
   have:=hs k (zbJ _)
   unfold zc8
   simp only [this,hkd]
   exact ⟨h1,h2,by simp⟩
  ·exact hk.elim
 ·exact ⟨_,_,hk.2,by simp,fun rw' _=>⟨hk.1,rfl,rfl⟩⟩
 ·exact hk.elim
theorem zAh [zae] {rw:Nat→Row} {es:Nat}:∀ {ps:List PV} {K:List PV→List Nat→Prop},zmy rw es ps K→∃ c f,K c f∧(∀ j ∈ f,zdO (ps.flatMap zew) j)∧∀ rw',(∀ p ∈ ps,same rw rw' p)→∀ K':List PV→List Nat→Prop,K' c f→zmy rw' es ps K':=by
 intro ps
 induction ps with
 | nil=>intro K h;exact ⟨_,_,h,by simp,fun _ _ K' h=>h⟩
 | cons p ps ih =>
   intro K h
   obtain ⟨c,f,⟨hl,h⟩,hf,hp⟩:=zrE h
   obtain ⟨cs,fs,h,hfs,hs⟩:=ih h
   refine ⟨_,_,h,fun j hj=>?_,fun rw' hsame K' hK=>?_⟩
   ·rw [List.flatMap_cons]
    rcases List.mem_append.1 hj with h | h
    ·exact zft (hf j h)
    ·exact zbB (hfs j h)
   ·have h1:=hp rw' (hsame p (by simp))
    have back:∀ {K2:List PV→List Nat→Prop},K2 c f→zc8 rw' p K2:=fun {K2} hk2=>by
     unfold zc8 at h1 ⊢
     split at h1
     ·obtain ⟨q1,rfl,rfl⟩:=h1;exact ⟨q1,hk2⟩
     ·obtain ⟨q1,rfl,rfl⟩:=h1;exact ⟨q1,hk2⟩
     ·obtain ⟨q1,q2,h1⟩:=h1
      refine ⟨q1,q2,?_⟩
      split at h1
      ·obtain ⟨rfl,rfl⟩:=h1;exact hk2
      ·obtain ⟨rfl,rfl⟩:=h1;exact hk2
      ·exact h1.elim
     ·obtain ⟨q1,rfl,rfl⟩:=h1;exact ⟨q1,hk2⟩
     ·exact h1.elim
    exact back ⟨hl,hs rw' (fun q hq=>hsame q (by simp [hq])) (fun cs' fs'=>K' (c ++ cs') (f ++ fs')) hK⟩
theorem zig {rw:Nat→Row} {p:PV} {K:List PV→Prop} (hk:za1 rw p K):∃ c,K c∧(∀ q ∈ c,∀ j ∈ zFe q,j ∈ zew p)∧∀ K':List PV→Prop,K' c→za1 rw p K':=by
 have one:∀ q:PV,∀ q' ∈ [q],∀ j ∈ zFe q',j ∈ zew q:=fun q q' hq j hj=>by
  rw [List.mem_singleton.1 hq] at hj
  cases q <;> simp [zFe] at hj <;> simp [zew,hj]
 unfold za1 at hk ⊢
 split at hk
 ·exact ⟨_,hk,fun q hq j hj=>List.mem_flatMap.2 ⟨q,hq,hj⟩,fun _ h=>h⟩
 ·exact ⟨_,hk.2,one _,fun _ h=>⟨hk.1,h⟩⟩
 ·exact ⟨_,hk,one _,fun _ h=>h⟩
 ·exact ⟨_,hk,one _,fun _ h=>h⟩
 ·exact ⟨_,hk,one _,fun _ h=>h⟩
 ·exact ⟨_,hk.2.2,one _,fun _ h=>⟨hk.1,hk.2.1,h⟩⟩
 ·exact ⟨_,hk.2.2,one _,fun _ h=>⟨hk.1,hk.2.1,h⟩⟩
 ·exact hk.elim
theorem zrF [zae] {rw rw':Nat→Row} {p:PV} (hs:∀ j,zdO (zFe p) j→rw' j = rw j) (h:zjb rw p):zjb rw' p:=by
 cases p <;> first | exact h | (simp only [zjb] at h ⊢;rw [hs _ (zbJ _)];exact h)
def zk9 [zae] (P:Program) (_T:Tab) (G:Ghost) (s:St) (o:Oper) (K:Ent→St→Prop):Prop :=
 ∃ x:Stp,K x.e (s.step o x)∧(∀ k,x.e.tc.has k = false→x.rows k = s.rw k) ∧
  ∀ s':St,(∀ k,x.e.looks k = true ∨ x.e.tc.has k = true→s'.rw k = s.rw k)→(∀ y ∈ o.op.operands,s'.ev y = s.ev y)→za5 P G s' o (s'.stepIn o x)
theorem zfV [zae] (hT:T.Ok P) {s:St} {o:Oper} {K:Ent→St→Prop} (hd:∀ d,o.dst = some d→d < G.n) {val:PV} {fz:List Nat} {d:Nat} {r:Row} {rd l:List Nat} (hdl:zdO l d) (hfl:∀ j ∈ fz,zdO l j)
 (h1:K ⟨rd,.ids l⟩ ((St.mk s.sl (upR fz d r s.rw)).put o.dst val))
 (h2:∀ s':St,(∀ k,zdO rd k→s'.rw k = s.rw k)→(∀ k,zdO l k→s'.rw k = s.rw k)→(∀ y ∈ o.op.operands,s'.ev y = s.ev y)→opK P T s' o (· = (St.mk s'.sl (upR fz d r s'.rw)).put o.dst val)):zk9 P T G s o K:=by
 refine ⟨⟨val,upR fz d r s.rw,⟨rd,.ids l⟩⟩,h1,fun k hk=>?_,fun s' hr hev=>?_⟩
 ·have hk:¬ zdO l k:=zi3 hk
  show upR fz d r s.rw k = s.rw k
  unfold upR zhy
  rw [if_neg (fun e=>hk (by rw [e];exact hdl)),if_neg (fun e=>hk (hfl k e))]
 ·have e:s'.stepIn o ⟨val,upR fz d r s.rw,⟨rd,.ids l⟩⟩ = (St.mk s'.sl (upR fz d r s'.rw)).put o.dst val:=by
   unfold St.stepIn
   congr 2
   funext k
   by_cases hk:(Tc.ids l).has k = true
   ·rw [if_pos hk]
    have:=hr k (.inr hk)
    show upR fz d r s.rw k = upR fz d r s'.rw k
    unfold upR zhy
    rw [this]
   ·rw [if_neg hk]
    have hk:¬ zdO l k:=fun h=>hk (zhu.2 h)
    unfold upR zhy
    rw [if_neg (fun e=>hk (by rw [e];exact hdl)),if_neg (fun e=>hk (hfl k e))]
  rw [e]
  obtain ⟨s2,rfl,he⟩:=zjZ (G:=G) hT hd (h2 s' (fun k hk=>hr k (.inl (zef hk))) (fun k hk=>hr k (.inr (zhu.2 hk))) hev)
  exact he
theorem zAi [zae] {s:St} {o:Oper} {K:Ent→St→Prop} {val:PV} {fz:List Nat} {d:Nat} {r:Row} {rd l:List Nat} (hdl:zdO l d) (hfl:∀ j ∈ fz,zdO l j)
 (h1:K ⟨rd,.ids l⟩ ((St.mk s.sl (upR fz d r s.rw)).put o.dst val))
 (h2:∀ s':St,(∀ k,zdO rd k→s'.rw k = s.rw k)→(∀ k,zdO l k→s'.rw k = s.rw k)→(∀ y ∈ o.op.operands,s'.ev y = s.ev y)→za5 P G s' o ((St.mk s'.sl (upR fz d r s'.rw)).put o.dst val)):zk9 P T G s o K:=by
 refine ⟨⟨val,upR fz d r s.rw,⟨rd,.ids l⟩⟩,h1,fun k hk=>?_,fun s' hr hev=>?_⟩
 ·have hk:¬ zdO l k:=zi3 hk
  show upR fz d r s.rw k = s.rw k
  unfold upR zhy
  rw [if_neg (fun e=>hk (by rw [e];exact hdl)),if_neg (fun e=>hk (hfl k e))]
 ·have e:s'.stepIn o ⟨val,upR fz d r s.rw,⟨rd,.ids l⟩⟩ = (St.mk s'.sl (upR fz d r s'.rw)).put o.dst val:=by
   unfold St.stepIn
   congr 2
   funext k
   by_cases hk:(Tc.ids l).has k = true
   ·rw [if_pos hk]
    have:=hr k (.inr hk)
    show upR fz d r s.rw k = upR fz d r s'.rw k
    unfold upR zhy
    rw [this]
   ·rw [if_neg hk]
    have hk:¬ zdO l k:=fun h=>hk (zhu.2 h)
    unfold upR zhy
    rw [if_neg (fun e=>hk (by rw [e];exact hdl)),if_neg (fun e=>hk (hfl k e))]
  rw [e]
  exact h2 s' (fun k hk=>hr k (.inl (zef hk))) (fun k hk=>hr k (.inr (zhu.2 hk))) hev
theorem zsX [zae] (hT:T.Ok P) {s:St} {o:Oper} {K:Ent→St→Prop} {t:TypeId} {ad x:Operand} (ho:o.op = .store t ad x) (hd:∀ d,o.dst = some d→d < G.n)
 (hk:opK P T s o (K ⟨[],.ids (zew (s.ev ad) ++ zew (s.ev x))⟩)):zk9 P T G s o K:=by
 simp only [opK,ho] at hk
 obtain ⟨hdst,ht,hk⟩:=hk
 have ops':∀ s':St,(∀ y ∈ o.op.operands,s'.ev y = s.ev y)→s'.ev ad = s.ev ad∧s'.ev x = s.ev x:=fun s' hev=>⟨hev _ (by simp [ho,Op.operands]),hev _ (by simp [ho,Op.operands])⟩
 split at hk
 ·rename_i k ver off hev
  obtain ⟨hver,hk⟩:=hk
  have hin:zdO (zew (s.ev ad) ++ zew (s.ev x)) k:=by rw [hev];exact zft (zbJ _)
  have hput:∀ (s':St) (p:PV),s'.put o.dst p = s':=fun s' p=>by rw [hdst];rfl
  split at hk
  ·rename_i bt c hkind
   obtain ⟨new,⟨h1,h2,h3,hk⟩,hin2,hc⟩:=zig hk
   refine zfV hT hd (rd:=[]) (val:=.junk) (fz:=[]) (d:=k) (r:=⟨ver,.box bt (spl c off new)⟩) hin (by simp) (by rw [hput,← znT];exact hk) fun s' _ hl hev'=>?_
   obtain ⟨e1,e2⟩:=ops' s' hev'
   rw [hput,← znT]
   simp only [opK,ho]
   refine ⟨hdst,ht,?_⟩
   rw [e1,hev,e2]
   have hk':=hl k hin
   simp only [hk']
   refine ⟨hver,?_⟩
   simp only [hkind]
   rw [zex (rw:=s.rw) (fun j hj=>hl j (zbB hj))]
   exact hc _ ⟨h1,h2,fun p hp=>zrF (fun j hj=>hl j (zbB (zv1 hj (hin2 p hp)))) (h3 p hp),rfl⟩
  ·rename_i e sz c hkind
   obtain ⟨new,fz,⟨h1,h2,h3,hk⟩,hf,hc⟩:=zrE hk
   refine zfV hT hd (rd:=[]) (val:=.junk) (fz:=fz) (d:=k) (r:=⟨ver,.sli e sz false (spl c off new)⟩) hin (fun j hj=>zbB (hf j hj)) (by rw [hput,← zv3];exact hk) fun s' _ hl hev'=>?_
   obtain ⟨e1,e2⟩:=ops' s' hev'
   rw [hput,← zv3]
   simp only [opK,ho]
   refine ⟨hdst,ht,?_⟩
   rw [e1,hev,e2]
   have hk':=hl k hin
   simp only [hk']
   refine ⟨hver,?_⟩
   simp only [hkind]
   have hc':=hc s'.rw (fun j hj=>hl j (zbB hj))
   unfold zc8 at hc' ⊢
   split at hc'
   ·obtain ⟨q1,rfl,rfl⟩:=hc';exact ⟨q1,h1,h2,h3,rfl⟩
   ·obtain ⟨q1,rfl,rfl⟩:=hc';exact ⟨q1,h1,h2,h3,rfl⟩
   ·obtain ⟨q1,q2,hc'⟩:=hc'
    refine ⟨q1,q2,?_⟩
    split at hc'
    ·obtain ⟨rfl,rfl⟩:=hc';exact ⟨h1,h2,h3,rfl⟩
    ·obtain ⟨rfl,rfl⟩:=hc';exact ⟨h1,h2,h3,rfl⟩
    ·exact hc'.elim
   ·obtain ⟨q1,rfl,rfl⟩:=hc';exact ⟨q1,h1,h2,h3,rfl⟩
   ·exact hc'.elim
  ·rename_i e c hkind
   obtain ⟨new,⟨h1,h2,h3,hk⟩,hin2,hc⟩:=zig hk
   refine zfV hT hd (rd:=[]) (val:=.junk) (fz:=[]) (d:=k) (r:=⟨ver,.tab e (spl c off new)⟩) hin (by simp) (by rw [hput,← znT];exact hk) fun s' _ hl hev'=>?_
   obtain ⟨e1,e2⟩:=ops' s' hev'
   rw [hput,← znT]
   simp only [opK,ho]
   refine ⟨hdst,ht,?_⟩
   rw [e1,hev,e2]
   have hk':=hl k hin
   simp only [hk']
   refine ⟨hver,?_⟩
   simp only [hkind]
   rw [zex (rw:=s.rw) (fun j hj=>hl j (zbB hj))]
   exact hc _ ⟨h1,h2,fun p hp=>zrF (fun j hj=>hl j (zbB (zv1 hj (hin2 p hp)))) (h3 p hp),rfl⟩
  ·exact hk.elim
 ·exact hk.elim
theorem zla [zae] (hT:T.Ok P) {s:St} {o:Oper} {K:Ent→St→Prop} {d:Nat} {kd:RK} {p:Nat→PV} {rd:List Nat} (hdst:o.dst = some d) (hd:∀ d,o.dst = some d→d < G.n) (h1:K ⟨rd,.ids o.dst.toList⟩ (zcI s d kd p))
 (h2:∀ s':St,(∀ k,zdO rd k→s'.rw k = s.rw k)→(∀ y ∈ o.op.operands,s'.ev y = s.ev y)→opK P T s' o (· = zcI s' d kd p)):zk9 P T G s o K:=by
 have hin:zdO o.dst.toList d:=by rw [hdst];exact zjW (by simp)
 refine zfV hT hd (val:=p ((s.rw d).ver + 1)) (fz:=[]) (d:=d) (r:=⟨(s.rw d).ver + 1,kd⟩) hin (by simp) (by rw [zjX] at h1;rw [hdst] at h1 ⊢;exact h1) fun s' hr hl hev=>?_
 have:=h2 s' hr hev
 rw [zjX,hl d hin,← hdst] at this
 exact this
theorem zF8 [zae] (hT:T.Ok P) {s:St} {o:Oper} {K:Ent→St→Prop} (hd:∀ d,o.dst = some d→d < G.n) (hk:dK P T s o K):zk9 P T G s o K:=by
 have read:(zfe T s.rw s.ev o.op fun p=>K ⟨zoN s o,.ids []⟩ (s.put o.dst p))→zk9 P T G s o K:=fun hk=>by
  obtain ⟨p,hp,hq⟩:=zAg hk
  refine ⟨⟨p,s.rw,⟨zoN s o,.ids []⟩⟩,hp,fun _ _=>rfl,fun s' hr hev=>?_⟩
  have e:s'.stepIn o ⟨p,s.rw,⟨zoN s o,.ids []⟩⟩ = s'.put o.dst p:=by
   unfold St.stepIn
   simp only [Tc.has,List.any_nil,Bool.false_eq_true,if_false]
  rw [e]
  have hq':zfe T (St.mk s.sl s'.rw).rw (St.mk s.sl s'.rw).ev o.op (· = p):=by
   cases hf:zoQ o with
   | true=>exact zw8 hf hq
   | false =>
     refine (zw7 (rw:=s.rw) (rw':=s'.rw) (ev:=s.ev) (fun x hx k hk=>hr k (.inl (zef ?_))) _).mpr hq
     simp only [zoN,hf]
     exact zee (List.mem_map.2 ⟨x,by simpa using hx,rfl⟩) hk
  obtain ⟨q,rfl,hy⟩:=zw9 (G:=G) hT hq'
  exact (hy.congr (s1:=s') rfl hev).effects hd
 unfold dK at hk
 split at hk
 ·rename_i t ad x ho;exact zsX hT ho hd hk
 ·rename_i t ho
  simp only [opK,ho] at hk
  split at hk
  ·rename_i d hdst
   refine zla hT hdst hd hk.2 fun s' _ _=>?_
   simp only [opK,ho,hdst]
   exact ⟨hk.1,trivial⟩
  ·exact hk.elim
 ·rename_i t x ho
  simp only [opK,ho] at hk
  split at hk
  ·rename_i d hdst
   obtain ⟨new,hk,_,hc⟩:=zig hk
   refine zla hT hdst hd hk fun s' hr hev=>?_
   simp only [opK,ho,hdst]
   rw [hev x (by simp [ho,Op.operands]),zex (rw:=s.rw) (fun j hj=>hr j hj)]
   exact hc _ rfl
  ·exact hk.elim
 ·rename_i t l c ho
  simp only [opK,ho] at hk
  split at hk
  ·rename_i d e kl nl kc nc hdst hte hl hc
   obtain ⟨h1,h2,hk⟩:=hk
   split at hk
   ·rename_i z hz
    obtain ⟨h3,h4,h5,h6,hk⟩:=hk
    refine zla hT hdst hd hk fun s' _ hev=>?_
    simp only [opK,ho,hdst,hte,hev l (by simp [ho,Op.operands]),hev c (by simp [ho,Op.operands]),hl,hc]
    refine ⟨h1,h2,?_⟩
    simp only [hz]
    exact ⟨h3,h4,h5,h6,trivial⟩
   ·exact hk.elim
  ·exact hk.elim
 ·rename_i t n parts ho
  simp only [opK,ho] at hk
  split at hk
  ·rename_i d hdst
   unfold zAx at hk
   obtain ⟨ht,hk⟩:=hk
   split at hk
   ·rename_i e hte
    obtain ⟨he,hn,hidx,hbig,hk⟩:=hk
    obtain ⟨c,f,⟨hdf,hk⟩,hf,hp⟩:=zAh hk
    rw [zv3] at hk
    have hin:zdO (o.dst.toList ++ (parts.toList.map fun x=>s.ev x.2).flatMap zew) d:=zft (by rw [hdst];exact zjW (by simp))
    refine zfV hT hd (rd:=[]) (val:=.own d ((s.rw d).ver + 1)) (fz:=f) (d:=d) (r:=⟨(s.rw d).ver + 1,.sli e (T e).size false c⟩) hin (fun j hj=>zbB (hf j hj)) (by rw [hdst] at hk ⊢;exact hk) fun s' _ hl hev=>?_
    rw [hdst]
    simp only [opK,ho,hdst]
    refine ⟨ht,?_⟩
    simp only [hte]
    refine ⟨he,hn,hidx,hbig,?_⟩
    have hm:(parts.toList.map fun x=>s'.ev x.2) = parts.toList.map fun x=>s.ev x.2:=zJE fun x hx=>hev _ (by
     simp only [ho,Op.operands,List.mem_toArray,List.mem_map];exact ⟨x,hx,rfl⟩)
    rw [hm]
    refine hp s'.rw (fun p hp' j hj=>hl j (zbB (zee hp' hj))) _ ⟨hdf,?_⟩
    rw [zv3,hl d hin]
   ·exact hk.elim
  ·exact hk.elim
 ·rename_i t x y ho
  unfold zKF at hk
  split at hk
  ·rename_i k ver hev
   split at hk
   ·obtain ⟨d,e,c,kd,m,hdst,hrow,h1,h2,h3,h4,hpy,h5,h6,hk⟩:=hk
    have hin:zdO [k] k:=zjW (by simp)
    refine zAi (val:=.own k (ver + 1)) (fz:=[]) (d:=k) (r:=⟨ver + 1,.sli e 1 false (c.take m.toNat)⟩) (rd:=[]) (l:=[k]) hin (by simp) (by rw [znT] at hk;rw [hdst];exact hk) fun s' _ hl hev'=>?_
    rw [hdst,← znT]
    have hx':s'.ev x = .own k ver:=by rw [hev' x (by simp [ho,Op.operands]),hev]
    have hy':s'.ev y = .v (.int kd m):=by rw [hev' y (by simp [ho,Op.operands]),hpy]
    exact zF9 hT ho hdst (hd d hdst) hx' (by rw [hl k hin];exact hrow) h1 h2 h3 h4 hy' h5 h6
   ·exact read hk
  ·exact read hk
 ·rename_i c ho
  split at hk
  ·rename_i hc
   split at hk
   ·rename_i x y hargs
    simp only [opK,ho,hc] at hk
    split at hk
    ·rename_i x' y' t t2 d hargs' hty hdst
     have hxy:x' = x∧y' = y:=by rw [hargs] at hargs';simpa using hargs'.symm
     obtain ⟨rfl,rfl⟩:=hxy
     have hmem:∀ z,z = x' ∨ z = y'→z ∈ o.op.operands:=fun z hz=>by
      simp only [ho,Op.operands,Call.operands,hc,hargs]
      rcases hz with rfl | rfl <;> simp
     unfold zlk at hk
     obtain ⟨rfl,ht,hk⟩:=hk
     split at hk
     ·rename_i e hte
      obtain ⟨he,hby,hk⟩:=hk
      obtain ⟨fr,sz,news,⟨hsz,hfr,hk⟩,hdet⟩:=zta hk
      have mk:∀ {p:PV} {k:Nat} {r:Row},zdO (o.dst.toList ++ zew (s.ev x')) k→K ⟨zew (s.ev y'),.ids (o.dst.toList ++ zew (s.ev x'))⟩ ((St.mk s.sl (upR [] k r s.rw)).put (some d) p)→(∀ s':St,(∀ k,zdO (o.dst.toList ++ zew (s.ev x')) k→s'.rw k = s.rw k)→s'.ev x' = s.ev x' →
       (match s'.ev x' with
        | .v u=>zd5 u = true∧news.length * (T e).bytes ≤ 140737488355328∧zcI s' d (.sli e (T e).size false news) (fun v=>.own d v) = (St.mk s'.sl (upR [] k r s'.rw)).put (some d) p
        | .own k' ver=>(s'.rw k').ver = ver∧(match (s'.rw k').kind with
         | .nil=>news.length * (T e).bytes ≤ 140737488355328∧zdm s' d k' (.sli e (T e).size false news) = (St.mk s'.sl (upR [] k r s'.rw)).put (some d) p
         | .sli e' sz' false c=>e' = e∧sz' = (T e).size∧(c.length + news.length) * (T e).bytes ≤ 140737488355328∧zdm s' d k' (.sli e (T e).size false (c ++ news)) = (St.mk s'.sl (upR [] k r s'.rw)).put (some d) p
         | _=>False)
        | _=>False))→zk9 P T G s o K:=fun {p k r} hin h1 h2=>by
       refine zfV hT hd (val:=p) (fz:=[]) (d:=k) (r:=r) hin (by simp) (by rw [hdst] at h1 ⊢;exact h1) fun s' hr hl hev=>?_
       rw [hdst]
       simp only [opK,ho,hc,hargs,hty,hdst]
       refine ⟨rfl,ht,?_⟩
       simp only [hte]
       refine ⟨he,hby,?_⟩
       rw [hev y' (hmem y' (.inr rfl)),zv2 (rw:=s.rw) (fun j hj=>hr j hj)]
       exact hdet _ ⟨hsz,hfr,h2 s' hl (hev x' (hmem x' (.inl rfl)))⟩
      split at hk
      ·rename_i u hev
       obtain ⟨h1,h2,hk⟩:=hk
       have hin:zdO (o.dst.toList ++ zew (s.ev x')) d:=zft (by rw [hdst];exact zjW (by simp))
       rw [zjX] at hk
       refine mk hin hk fun s' hl hx=>?_
       rw [hx,hev]
       exact ⟨h1,h2,by rw [zjX,hl d hin]⟩
      ·rename_i k ver hev
       obtain ⟨hver,hk⟩:=hk
       have hin:zdO (o.dst.toList ++ zew (s.ev x')) k:=zbB (by rw [hev];exact zbJ _)
       split at hk
       ·rename_i hkind
        obtain ⟨h1,hk⟩:=hk
        rw [zjY] at hk
        refine mk hin hk fun s' hl hx=>?_
        rw [hx,hev]
        simp only [hl k hin]
        refine ⟨hver,?_⟩
        simp only [hkind]
        exact ⟨h1,by rw [zjY,hl k hin]⟩
       ·rename_i e' sz' c' hkind
        obtain ⟨h1,h2,h3,hk⟩:=hk
        rw [zjY] at hk
        refine mk hin hk fun s' hl hx=>?_
        rw [hx,hev]
        simp only [hl k hin]
        refine ⟨hver,?_⟩
        simp only [hkind]
        exact ⟨h1,h2,h3,by rw [zjY,hl k hin]⟩
       ·exact hk.elim
      ·exact hk.elim
     ·exact hk.elim
    ·exact hk.elim
   ·exact hk.elim
  ·
   rename_i f hc
   simp only [nK,ho,hc] at hk
   have args:∀ s':St,(∀ k,zdO ((c.args.toList.map s.ev).flatMap (zeg s.rw zgc) ++ zeg s.rw (zgc + 1) (s.ev f)) k→s'.rw k = s.rw k)→(∀ y ∈ o.op.operands,s'.ev y = s.ev y)→∀ g caps,s.ev f = .clo g caps →
    s'.ev f = s.ev f∧(c.args.toList.map fun x=>zcC s'.rw zgc (s'.ev x)) ++ caps.map (zcC s'.rw zgc) = (c.args.toList.map fun x=>zcC s.rw zgc (s.ev x)) ++ caps.map (zcC s.rw zgc):=fun s' hr hev g caps hf =>
    ⟨hev f (by simp [ho,Op.operands,Call.operands,hc]),by
     congr 1
     ·refine List.map_congr_left fun x hx=>?_
      rw [hev x (by simp [ho,Op.operands,Call.operands,hc];exact .inr (by simpa using hx))]
      exact zrD _ _ fun k hk=>hr k (zft (zee (List.mem_map.2 ⟨x,hx,rfl⟩) hk))
     ·refine List.map_congr_left fun q hq=>zrD _ _ fun k hk=>hr k (zbB ?_)
      rw [hf]
      exact zee hq hk⟩
   cases hdst:o.dst with
   | some d =>
     simp only [hdst] at hk
     rcases hk with hk | hk
     case inr =>
      unfold tdK at hk
      split at hk
      ·rename_i g caps hev
       rcases hk with ⟨k,v,e,e2,p,rows,rows',args,r,hat,hg,ht,hn,hdk,hk⟩ | ⟨k,vj,e,pre,pre',head,out,ok,haf,hpre,hraw,hj,hpl,hdk,hjl,hk⟩ | ⟨rd,k,x,r,q,hcall,hdk,hk⟩
       ·have has:∀ j,(Tc.ids [d,k]).has j = true ↔ (j % 1000 = d % 1000 ∨ j % 1000 = k % 1000):=fun j=>by
         simp only [Tc.has,List.any_cons,List.any_nil,Bool.or_false,Bool.or_eq_true,beq_iff_eq]
         exact ⟨fun h=>h.imp Eq.symm Eq.symm,fun h=>h.imp Eq.symm Eq.symm⟩
        have hmod:∀ j,InT k p j→j % 1000 = k % 1000:=fun j hj=>by
         rcases hj with rfl | ⟨x,_,rfl⟩
         ·rfl
         ·rw [zbE];omega
        have hlm:∀ i,zan d i % 1000 = d % 1000:=fun i=>by unfold zan;omega
        refine ⟨⟨za0 (fun j=>(zba s.rw k p j).ver) d r 0,zaw (zba s.rw k p) d (zak r) 0,⟨[],.ids [d,k]⟩⟩,?_,fun j hj=>?_,fun s' hr hev'=>?_⟩
        ·have e1:s.step o ⟨za0 (fun j=>(zba s.rw k p j).ver) d r 0,zaw (zba s.rw k p) d (zak r) 0,⟨[],.ids [d,k]⟩⟩ = zao (s.killed k p) d r:=by
          unfold St.step zao;rw [hdst];rfl
         rw [e1];exact hk
        ·have hj:¬ (j % 1000 = d % 1000 ∨ j % 1000 = k % 1000):=fun h=>by
          have:=(has j).2 h
          rw [this] at hj;cases hj
         have h2:=(zbL (R:=zba s.rw k p) (R':=zba s.rw k p) (d:=d) (fun _=>rfl) j (zak r) 0).2 fun ⟨m,_,hm⟩=>hj (.inl (by rw [hm];exact hlm _))
         show zaw (zba s.rw k p) d (zak r) 0 j = s.rw j
         rw [h2.1,zcd fun h=>hj (.inr (hmod j h))]
        ·have hag:∀ j,(j % 1000 = d % 1000 ∨ j % 1000 = k % 1000)→s'.rw j = s.rw j:=fun j hj=>hr j (.inr ((has j).2 hj))
         have hkag:∀ j,(j % 1000 = d % 1000 ∨ j % 1000 = k % 1000)→zba s.rw k p j = zba s'.rw k p j:=fun j hj=>by unfold zba;rw [hag j hj]
         have e1:s'.stepIn o ⟨za0 (fun j=>(zba s.rw k p j).ver) d r 0,zaw (zba s.rw k p) d (zak r) 0,⟨[],.ids [d,k]⟩⟩ = zao (s'.killed k p) d r:=by
          unfold St.stepIn zao
          rw [hdst,zdP (vr':=fun j=>(zba s'.rw k p j).ver) (fun i=>by rw [hkag _ (.inl (hlm i))])]
          congr 2
          funext j
          obtain ⟨a1,a2⟩:=zbL (R:=zba s.rw k p) (R':=zba s'.rw k p) (d:=d) (fun i=>hkag _ (.inl (hlm i))) j (zak r) 0
          by_cases hl:∃ m,m < (zak r).length∧j = zan d (0 + m)
          ·have hb:(Tc.ids [d,k]).has j = true:=(has j).2 (.inl (by obtain ⟨m,_,rfl⟩:=hl;exact hlm _))
           simp only [hb,if_true]
           exact a1 hl
          ·obtain ⟨b1,b2⟩:=a2 hl
           show _ = zaw (zba s'.rw k p) d (zak r) 0 j
           rw [b2]
           by_cases hb:(Tc.ids [d,k]).has j = true
           ·simp only [hb,if_true]
            rw [b1];exact hkag j ((has j).1 hb)
           ·simp only [hb,if_false]
            exact (zcd fun h=>hb ((has j).2 (.inr (hmod j h)))).symm
         rw [e1]
         have hargs:c.args.toList.map s'.ev = c.args.toList.map s.ev:=List.map_congr_left fun x hx=>hev' x (by simp [ho,Op.operands,Call.operands,hc];exact .inr (by simpa using hx))
         have hf':s'.ev f = .clo g caps:=by rw [hev' f (by simp [ho,Op.operands,Call.operands,hc]),hev]
         refine zxg (rows:=rows) ho hc hdst (hd d hdst) hf' hat (by rw [hargs];exact hg) ⟨?_,ht.len,fun i hi=>?_⟩ hn hdk
         ·rw [hag k (.inr rfl)];exact ht.top
         ·rw [hag (sid k (p.getD i 0)) (.inr (zdg _ _))];exact ht.row i hi
       ·have has:∀ j,(Tc.ids [d,k]).has j = true ↔ (j % 1000 = d % 1000 ∨ j % 1000 = k % 1000):=fun j=>by
         simp only [Tc.has,List.any_cons,List.any_nil,Bool.or_false,Bool.or_eq_true,beq_iff_eq]
         exact ⟨fun h=>h.imp Eq.symm Eq.symm,fun h=>h.imp Eq.symm Eq.symm⟩
        have hmod:∀ j,InT k [] j→j % 1000 = k % 1000:=fun j hj=>by
         rcases hj with rfl | ⟨x,_,rfl⟩
         ·rfl
         ·rw [zbE];omega
        have hlm:∀ i,zan d i % 1000 = d % 1000:=fun i=>by unfold zan;omega
        refine ⟨⟨za0 (fun j=>(zba s.rw k [] j).ver) d (rvF e out ok) 0,zaw (zba s.rw k []) d (zak (rvF e out ok)) 0,⟨[],.ids [d,k]⟩⟩,?_,fun j hj=>?_,fun s' hr hev'=>?_⟩
        ·have e1:s.step o ⟨za0 (fun j=>(zba s.rw k [] j).ver) d (rvF e out ok) 0,zaw (zba s.rw k []) d (zak (rvF e out ok)) 0,⟨[],.ids [d,k]⟩⟩ = zao (s.killed k []) d (rvF e out ok):=by
          unfold St.step zao;rw [hdst];rfl
         rw [e1];exact hk
        ·have hj:¬ (j % 1000 = d % 1000 ∨ j % 1000 = k % 1000):=fun h=>by
          have:=(has j).2 h
          rw [this] at hj;cases hj
         have h2:=(zbL (R:=zba s.rw k []) (R':=zba s.rw k []) (d:=d) (fun _=>rfl) j (zak (rvF e out ok)) 0).2 fun ⟨m,_,hm⟩=>hj (.inl (by rw [hm];exact hlm _))
         show zaw (zba s.rw k []) d (zak (rvF e out ok)) 0 j = s.rw j
         rw [h2.1,zcd fun h=>hj (.inr (hmod j h))]
        ·have hag:∀ j,(j % 1000 = d % 1000 ∨ j % 1000 = k % 1000)→s'.rw j = s.rw j:=fun j hj=>hr j (.inr ((has j).2 hj))
         have hkag:∀ j,(j % 1000 = d % 1000 ∨ j % 1000 = k % 1000)→zba s.rw k [] j = zba s'.rw k [] j:=fun j hj=>by unfold zba;rw [hag j hj]
         have e1:s'.stepIn o ⟨za0 (fun j=>(zba s.rw k [] j).ver) d (rvF e out ok) 0,zaw (zba s.rw k []) d (zak (rvF e out ok)) 0,⟨[],.ids [d,k]⟩⟩ = zao (s'.killed k []) d (rvF e out ok):=by
          unfold St.stepIn zao
          rw [hdst,zdP (vr':=fun j=>(zba s'.rw k [] j).ver) (fun i=>by rw [hkag _ (.inl (hlm i))])]
          congr 2
          funext j
          obtain ⟨a1,a2⟩:=zbL (R:=zba s.rw k []) (R':=zba s'.rw k []) (d:=d) (fun i=>hkag _ (.inl (hlm i))) j (zak (rvF e out ok)) 0
          by_cases hl:∃ m,m < (zak (rvF e out ok)).length∧j = zan d (0 + m)
          ·have hb:(Tc.ids [d,k]).has j = true:=(has j).2 (.inl (by obtain ⟨m,_,rfl⟩:=hl;exact hlm _))
           simp only [hb,if_true]
           exact a1 hl
          ·obtain ⟨b1,b2⟩:=a2 hl
           show _ = zaw (zba s'.rw k []) d (zak (rvF e out ok)) 0 j
           rw [b2]
           by_cases hb:(Tc.ids [d,k]).has j = true
           ·simp only [hb,if_true]
            rw [b1];exact hkag j ((has j).1 hb)
           ·simp only [hb,if_false]
            exact (zcd fun h=>hb ((has j).2 (.inr (hmod j h)))).symm
         rw [e1]
         have hargs:c.args.toList.map s'.ev = c.args.toList.map s.ev:=List.map_congr_left fun x hx=>hev' x (by simp [ho,Op.operands,Call.operands,hc];exact .inr (by simpa using hx))
         have hf':s'.ev f = .clo g caps:=by rw [hev' f (by simp [ho,Op.operands,Call.operands,hc]),hev]
         exact zxa ho hc hdst (hd d hdst) hf' haf (by rw [hargs];exact hraw) hpre (by rw [hag k (.inr rfl)];exact hj) hpl (fun h=>hdk (by rw [h])) hjl
       ·have has:∀ j,(Tc.ids [d,k]).has j = true ↔ (j % 1000 = d % 1000 ∨ j % 1000 = k % 1000):=fun j=>by
         simp only [Tc.has,List.any_cons,List.any_nil,Bool.or_false,Bool.or_eq_true,beq_iff_eq]
         exact ⟨fun h=>h.imp Eq.symm Eq.symm,fun h=>h.imp Eq.symm Eq.symm⟩
        have hkag:∀ s':St,(∀ j,(Tc.ids [d,k]).has j = true→s'.rw j = s.rw j)→∀ j,(j % 1000 = d % 1000 ∨ j % 1000 = k % 1000)→(s.row k r).rw j = (s'.row k r).rw j:=fun s' hr j hj=>by
         show (if j = k then r else s.rw j) = (if j = k then r else s'.rw j)
         rw [hr j ((has j).2 hj)]
        have fin:∀ s':St,(∀ j,(⟨rd,.ids [d,k]⟩:Ent).looks j = true ∨ (Tc.ids [d,k]).has j = true→s'.rw j = s.rw j)→(∀ y ∈ o.op.operands,s'.ev y = s.ev y)→za5 P G s' o (zFf (s'.row k r) d x q):=fun s' hr hev'=>by
         have hargs:c.args.toList.map s'.ev = c.args.toList.map s.ev:=List.map_congr_left fun x hx=>hev' x (by simp [ho,Op.operands,Call.operands,hc];exact .inr (by simpa using hx))
         have hf':s'.ev f = .clo g caps:=by rw [hev' f (by simp [ho,Op.operands,Call.operands,hc]),hev]
         intro a w hs K' Q hK
         refine zgH (K:=fun S=>S = zFf (s'.row k r) d x q) ho hc (fun y hy=>by rw [hdst] at hy;cases hy;exact hd d hdst) ?_ hs fun s1 a' w' hw hs1=>hK a' w' (hw ▸ hs1)
         rw [hf']
         show askG P s' g (c.args.toList.map s'.ev ++ caps) o.dst _
         rw [hargs,hdst]
         exact hcall s' (hr k (.inr ((has k).2 (.inr rfl)))) (fun a ha=>hr a (.inl (List.any_eq_true.2 ⟨a,ha,by simp⟩))) _ rfl
        cases q with
        | some p =>
          refine ⟨⟨p,(s.row k r).rw,⟨rd,.ids [d,k]⟩⟩,?_,fun j hj=>?_,fun s' hr hev'=>?_⟩
          ·have e1:s.step o ⟨p,(s.row k r).rw,⟨rd,.ids [d,k]⟩⟩ = zFf (s.row k r) d x (some p):=by
            unfold St.step zFf;rw [hdst];rfl
           rw [e1];exact hk
          ·exact if_neg fun h=>by rw [(has j).2 (.inr (by rw [h]))] at hj;cases hj
          ·have e1:s'.stepIn o ⟨p,(s.row k r).rw,⟨rd,.ids [d,k]⟩⟩ = zFf (s'.row k r) d x (some p):=by
            unfold St.stepIn zFf
            rw [hdst]
            congr 2
            funext j
            by_cases hb:(Tc.ids [d,k]).has j = true
            ·simp only [hb,if_true]
             exact hkag s' (fun j hj=>hr j (.inr hj)) j ((has j).1 hb)
            ·simp only [hb,if_false]
             exact (if_neg fun h=>hb ((has j).2 (.inr (by rw [h])))).symm
           rw [e1]
           exact fin s' hr hev'
        | none =>
          have hlm:∀ i,zan d i % 1000 = d % 1000:=fun i=>by unfold zan;omega
          refine ⟨⟨za0 (fun j=>((s.row k r).rw j).ver) d x 0,zaw (s.row k r).rw d (zak x) 0,⟨rd,.ids [d,k]⟩⟩,?_,fun j hj=>?_,fun s' hr hev'=>?_⟩
          ·have e1:s.step o ⟨za0 (fun j=>((s.row k r).rw j).ver) d x 0,zaw (s.row k r).rw d (zak x) 0,⟨rd,.ids [d,k]⟩⟩ = zao (s.row k r) d x:=by
            unfold St.step zao;rw [hdst];rfl
           rw [e1];exact hk
          ·have hj:¬ (j % 1000 = d % 1000 ∨ j % 1000 = k % 1000):=fun h=>by
            have:=(has j).2 h
            rw [this] at hj;cases hj
           have h2:=(zbL (R:=(s.row k r).rw) (R':=(s.row k r).rw) (d:=d) (fun _=>rfl) j (zak x) 0).2 fun ⟨m,_,hm⟩=>hj (.inl (by rw [hm];exact hlm _))
           show zaw (s.row k r).rw d (zak x) 0 j = s.rw j
           rw [h2.1];exact if_neg fun h=>hj (.inr (by rw [h]))
          ·have hkag:=hkag s' fun j hj=>hr j (.inr hj)
           have e1:s'.stepIn o ⟨za0 (fun j=>((s.row k r).rw j).ver) d x 0,zaw (s.row k r).rw d (zak x) 0,⟨rd,.ids [d,k]⟩⟩ = zao (s'.row k r) d x:=by
            unfold St.stepIn zao
            rw [hdst,zdP (vr':=fun j=>((s'.row k r).rw j).ver) (fun i=>by rw [hkag _ (.inl (hlm i))])]
            congr 2
            funext j
            obtain ⟨a1,a2⟩:=zbL (R:=(s.row k r).rw) (R':=(s'.row k r).rw) (d:=d) (fun i=>hkag _ (.inl (hlm i))) j (zak x) 0
            by_cases hl:∃ m,m < (zak x).length∧j = zan d (0 + m)
            ·have hb:(Tc.ids [d,k]).has j = true:=(has j).2 (.inl (by obtain ⟨m,_,rfl⟩:=hl;exact hlm _))
             simp only [hb,if_true]
             exact a1 hl
            ·obtain ⟨b1,b2⟩:=a2 hl
             show _ = zaw (s'.row k r).rw d (zak x) 0 j
             rw [b2]
             by_cases hb:(Tc.ids [d,k]).has j = true
             ·simp only [hb,if_true]
              rw [b1];exact hkag j ((has j).1 hb)
             ·simp only [hb,if_false]
              exact (if_neg fun h=>hb ((has j).2 (.inr (by rw [h])))).symm
           rw [e1]
           exact fin s' hr hev'
      ·exact hk.elim
     unfold zeB at hk
     split at hk
     ·rename_i g caps hev
      obtain ⟨rv,hac,hk⟩:=hk
      have vers:∀ s':St,(∀ k,(Tc.res d).has k = true→s'.rw k = s.rw k)→za0 (fun k=>(s'.rw k).ver) d rv 0 = za0 (fun k=>(s.rw k).ver) d rv 0∧∀ k,zaw s'.rw d (zak rv) 0 k = if (Tc.res d).has k = true then zaw s.rw d (zak rv) 0 k else s'.rw k:=fun s' hr=>by
       have hleaf:∀ i,s'.rw (zan d i) = s.rw (zan d i):=fun i=>hr _ (by simp [Tc.has,zan])
       refine ⟨?_,fun k=>?_⟩
       ·have e0:∀ (r:RV) (i:Nat),zbV (fun k=>(s'.rw k).ver) d r i = zbV (fun k=>(s.rw k).ver) d r i:=fun r i=>by
         cases r <;> simp only [zbV,hleaf]
        have eL:∀ (f g:RV→Nat→PV),(∀ r i,f r i = g r i)→∀ l i,zbF f l i = zbF g l i:=fun f g h l=>by
         induction l with
         | nil=>intro i;rfl
         | cons r rs ih=>intro i;simp only [zbF,h,ih]
        have e1:∀ (r:RV) (i:Nat),zcv (fun k=>(s'.rw k).ver) d r i = zcv (fun k=>(s.rw k).ver) d r i:=fun r i=>by
         cases r <;> simp only [zcv,e0,eL _ _ e0]
        cases rv <;> simp only [za0,e1,e0,eL _ _ e1]
       ·have:∀ (ls:List (TypeId × Option Nat × List PV)) (i:Nat),zaw s'.rw d ls i k = if (Tc.res d).has k = true then zaw s.rw d ls i k else s'.rw k:=by
         intro ls
         induction ls with
         | nil =>
           intro i
           simp only [zaw]
           by_cases hk:(Tc.res d).has k = true
           ·rw [if_pos hk];exact hr k hk
           ·rw [if_neg hk]
         | cons l ls ih =>
           intro i
           obtain ⟨e,sz,c⟩:=l
           simp only [zaw]
           by_cases he:k = zan d i
           ·subst he
            rw [zaf,zaf,if_pos (by simp [Tc.has,zan]),hleaf]
            have hk:zbW s'.rw d i e sz c = zbW s.rw d i e sz c:=by
             cases sz <;> simp [zbW,zaT,hleaf]
            rw [hk]
           ·rw [zal _ _ he,zal _ _ he];exact ih (i + 1)
        exact this _ _
      refine ⟨⟨za0 (fun k=>(s.rw k).ver) d rv 0,zaw s.rw d (zak rv) 0,⟨(c.args.toList.map s.ev).flatMap (zeg s.rw zgc) ++ zeg s.rw (zgc + 1) (s.ev f),.res d⟩⟩,?_,fun k hn=>?_,fun s' hr hev'=>?_⟩
      ·have e:s.step o ⟨za0 (fun k=>(s.rw k).ver) d rv 0,zaw s.rw d (zak rv) 0,⟨(c.args.toList.map s.ev).flatMap (zeg s.rw zgc) ++ zeg s.rw (zgc + 1) (s.ev f),.res d⟩⟩ = zao s d rv:=by unfold St.step zao;rw [hdst]
       rw [e];exact hk
      ·have hn:(Tc.res d).has k = false:=hn
       have:=(vers s fun _ _=>rfl).2 k
       rw [hn] at this
       simpa using this
      ·obtain ⟨v1,v2⟩:=vers s' fun k hk=>hr k (.inr hk)
       have e:s'.stepIn o ⟨za0 (fun k=>(s.rw k).ver) d rv 0,zaw s.rw d (zak rv) 0,⟨(c.args.toList.map s.ev).flatMap (zeg s.rw zgc) ++ zeg s.rw (zgc + 1) (s.ev f),.res d⟩⟩ = zao s' d rv:=by
        unfold St.stepIn zao
        rw [hdst,v1]
        congr 2
        funext k
        exact (v2 k).symm
       rw [e]
       obtain ⟨a1,a2⟩:=args s' (fun k hk=>hr k (.inl (zef hk))) hev' g caps hev
       obtain ⟨s2,rfl,he⟩:=zn0 (K:=(· = zao s' d rv)) (s:=s') ho hc hdst (hd d hdst) (by
        unfold zeB
        rw [a1,hev]
        simp only
        rw [a2]
        exact ⟨rv,hac,rfl⟩)
       exact he
     ·exact hk.elim
   | none =>
     simp only [hdst] at hk
     unfold zeB at hk
     split at hk
     ·rename_i g caps hev
      obtain ⟨rv,hac,hk⟩:=hk
      refine ⟨⟨.junk,s.rw,⟨(c.args.toList.map s.ev).flatMap (zeg s.rw zgc) ++ zeg s.rw (zgc + 1) (s.ev f),.ids []⟩⟩,?_,fun k _=>rfl,fun s' hr hev'=>?_⟩
      ·have e:s.step o ⟨.junk,s.rw,⟨(c.args.toList.map s.ev).flatMap (zeg s.rw zgc) ++ zeg s.rw (zgc + 1) (s.ev f),.ids []⟩⟩ = s:=by unfold St.step St.put;rw [hdst]
       rw [e];exact hk
      ·have e:s'.stepIn o ⟨.junk,s.rw,⟨(c.args.toList.map s.ev).flatMap (zeg s.rw zgc) ++ zeg s.rw (zgc + 1) (s.ev f),.ids []⟩⟩ = s':=by
        unfold St.stepIn St.put
        rw [hdst]
        simp only [Tc.has,List.any_nil,Bool.false_eq_true,if_false]
       rw [e]
       obtain ⟨a1,a2⟩:=args s' (fun k hk=>hr k (.inl (zef hk))) hev' g caps hev
       obtain ⟨s2,rfl,he⟩:=zjZ (G:=G) (K:=(· = s')) (s:=s') (o:=o) hT hd (by
        simp only [opK,ho,hc,hdst]
        refine .inl ?_
        unfold zeB
        rw [a1,hev]
        simp only
        rw [a2]
        exact ⟨rv,hac,trivial⟩)
       exact he
     ·exact hk.elim
  ·exact read hk
 ·exact read hk
end
end Go.Abs

/- DERIVED by an AI agent. Code; a function's contract from its text. No program in sight. -/
namespace Go.Abs
set_option linter.unusedSimpArgs false
set_option linter.unusedVariables false
theorem zFd {s:St} {d:Nat} {p:PV} (h:s.sl d = p):s.put (some d) p = s:=by
 unfold St.put
 have:(fun i=>if i = d then p else s.sl i) = s.sl:=by
  funext i
  by_cases e:i = d
  ·rw [if_pos e,e,h]
  ·rw [if_neg e]
 show ({ sl:=fun i=>if i = d then p else s.sl i,rw:=s.rw }:St) = s
 rw [this]
section
variable {P:Program} {T:Tab} {G:Ghost} {ops:Array Oper}
theorem zw1 [zae] (hT:T.Ok P):∀ (l:List Oper) (acc:List Ent) (s:St) (K:St→Prop),(∀ o ∈ l,∀ d,o.dst = some d→d < G.n)→zfu P T ops acc l s K→∃ tr s',Tr P G ops l s tr s'∧zmw ops (acc.reverse ++ tr.map (·.e)) = true∧K s':=by
 intro l
 induction l with
 | nil=>intro acc s K _ h;exact ⟨[],s,.nil s,by simpa using h.1,h.2⟩
 | cons o os ih =>
   intro acc s K hd hk
   have hd0:=hd o (by simp)
   have hds:∀ o ∈ os,∀ d,o.dst = some d→d < G.n:=fun o ho=>hd o (by simp [ho])
   have run:∀ (hg:zCA ops s o = some true),dK P T s o (fun e s2=>zfu P T ops (e :: acc) os s2 K)→∃ tr s',Tr P G ops (o :: os) s tr s'∧zmw ops (acc.reverse ++ tr.map (·.e)) = true∧K s':=fun hg hk=>by
    obtain ⟨x,hx,hr,he⟩:=zF8 (G:=G) hT hd0 hk
    obtain ⟨tr,s',ht,hl,hk'⟩:=ih _ _ K hds hx
    exact ⟨x :: tr,s',.cons (.step hg hr he) ht,by simpa using hl,hk'⟩
   have skp:zCA ops s o = some false→zfu P T ops (⟨[],.ids []⟩ :: acc) os (s.put o.dst (.v undef)) K→∃ tr s',Tr P G ops (o :: os) s tr s'∧zmw ops (acc.reverse ++ tr.map (·.e)) = true∧K s':=fun hg hk=>by
    obtain ⟨tr,s',ht,hl,hk'⟩:=ih _ _ K hds hk
    have e:s.step o ⟨.v undef,s.rw,⟨[],.ids []⟩⟩ = s.put o.dst (.v undef):=by unfold St.step;rfl
    exact ⟨⟨.v undef,s.rw,⟨[],.ids []⟩⟩ :: tr,s',.cons (.skip hg rfl rfl rfl) (by rw [e];exact ht),by simpa using hl,hk'⟩
   simp only [zfu,zv6] at hk
   cases hg:o.guard with
   | none =>
     simp only [hg] at hk
     exact run (by simp [zCA,hg]) hk
   | some jw =>
     obtain ⟨j,want⟩:=jw
     simp only [hg] at hk
     split at hk
     ·rename_i d hdj
      split at hk
      ·rename_i b hb
       by_cases hbw:b = want
       ·have h1:=hk.1 hbw
        rw [zFd (by rw [hb,hbw])] at h1
        exact run (by simp [zCA,hg,hdj,hb,hbw]) h1
       ·have hbw':b = !want:=by cases b <;> cases want <;> simp_all
        have h2:=hk.2 hbw'
        rw [zFd (s:=s) (by rw [hb,hbw'])] at h2
        exact skp (by simp [zCA,hg,hdj,hb,hbw]) h2
      ·rename_i cs hb
       exact skp (by simp [zCA,hg,hdj,hb]) hk
      ·exact hk.elim
     ·exact hk.elim
theorem zw2 [zae] (hT:T.Ok P) (hm:P.follows .mixedOrders = true) {id:Nat} (ho:zld ops = true) {s:St} {K:St→Prop} (hd:∀ o ∈ ops,∀ d,o.dst = some d→d < G.n) (hk:zfu P T ops [] ops.toList s K) {Q:Exit→Act→World→Prop}
 (hQ:∀ s' a' w',K s'→Sim G s' a' w'→Q .normal a' w') {a:Act} {w:World} (hs:Sim G s a w):(Code.region id ops true).wp P Q a w:=by
 obtain ⟨tr,s',ht,hln,hk'⟩:=zw1 (G:=G) hT ops.toList [] s K (fun o h=>hd o (by simpa using h)) hk
 refine wp_region_any hm ?_
 obtain ⟨E,hsE⟩:=hs
 have hs1:Sim G s a w.drew:=⟨E,hsE.ext (Ext.drew w)⟩
 have h0:∀ k,(Array.replicate ops.size false).getD k false = false:=fun k=>by
  rw [Array.getD_eq_getD_getElem?,Array.getElem?_replicate];split <;> rfl
 have e0:(fun k=>(Array.replicate ops.size false).getD k false) = fun _=>false:=funext h0
 refine zAm (zxd ho) (zCT (by simpa using hln)) ht hd (fun a w h=>hQ s' a w hk' h) ops.size _ a w.drew (by simp) ?_ ?_ ?_
 ·rw [e0];intro j oj hj h;cases h
 ·rw [e0]
  have l0:∀ n (p:Nat→Bool),zbm n (fun k=>false && p k) = none:=by
   intro n p;induction n with
   | zero=>rfl
   | succ n ih=>simp only [zbm];simpa using ih
  have e:stD ops tr s (fun _=>false) = s:=by
   unfold stD
   have e1:zjm ops.toList tr s (fun _=>false) = s.sl:=by funext t;unfold zjm;rw [l0]
   have e2:zjn ops.toList tr s (fun _=>false) = s.rw:=by funext k;unfold zjn;rw [l0]
   rw [e1,e2]
  rw [e];exact hs1
 ·have:(Array.replicate ops.size false).toList.length = ops.size:=by simp
  exact Nat.le_trans List.count_le_length (Nat.le_of_eq this)
end
inductive AX where
 | norm
 | exit (id:Nat)
 | ret
def AX.blk (id:Nat) (Q:AX→St→Prop):AX→St→Prop
 | .norm,s=>Q .norm s
 | .ret,s=>Q .ret s
 | .exit i,s=>if i = id then Q .norm s else Q (.exit i) s
def AX.seq (K:St→Prop) (Q:AX→St→Prop):AX→St→Prop
 | .norm,s=>K s
 | .ret,s=>Q .ret s
 | .exit i,s=>Q (.exit i) s
def zrA [zae] (body:(AX→St→Prop)→St→Prop) (Q:AX→St→Prop) (s:St):Prop :=
 ∃ (α:Type) (I:α→St→Prop) (μ:α→Nat),(∃ x s0,Wk s s0∧I x s0) ∧
  ∀ x s1,I x s1→body (AX.seq (fun s2=>∃ x' s3,Wk s2 s3∧I x' s3∧μ x' < μ x) Q) s1
def cwp [zae] (P:Program) (T:Tab):Code→(AX→St→Prop)→St→Prop
 | .skip,Q,s=>Q .norm s
 | .region _ ops draw,Q,s=>(match draw with
   | false=>zs2 P T ops ops.toList s (Q .norm)
   | true=>zld ops = true∧zfu P T ops [] ops.toList s (Q .norm))
 | .seq x y,Q,s=>cwp P T x (AX.seq (cwp P T y Q) Q) s
 | .cond c x y,Q,s=>(match s.ev c with | .v (.bool b)=>(b = true→cwp P T x Q s)∧(b = false→cwp P T y Q s) | _=>False)
 | .block id x,Q,s=>cwp P T x (AX.blk id Q) s
 | .loop x,Q,s=>zrA (cwp P T x) Q s
 | .exit id,Q,s=>Q (.exit id) s
 | .ret,Q,s=>Q .ret s
 | .label _,Q,s=>Q .norm s
 | _,_,_=>False
def fits (n:Nat):Code→Bool
 | .region _ ops _=>ops.all fun o=>match o.dst with | some d=>decide (d < n) | none=>true
 | .seq x y=>fits n x && fits n y
 | .cond _ x y=>fits n x && fits n y
 | .block _ x=>fits n x
 | .loop x=>fits n x
 | _=>true
def zKW [zae] (G:Ghost) (Q:AX→St→Prop):Exit→Act→World→Prop
 | .normal,a,w=>∃ s,Sim G s a w∧Q .norm s
 | .exit id,a,w=>∃ s,Sim G s a w∧Q (.exit id) s
 | .ret,a,w=>∃ s,Sim G s a w∧Q .ret s
 | _,_,_=>False
section
variable {P:Program} {T:Tab} {G:Ghost}
theorem zht [zae] (hT:T.Ok P) (hm:P.follows .mixedOrders = true):∀ (c:Code),fits G.n c = true→∀ (Q:AX→St→Prop) (s:St),cwp P T c Q s→∀ (a:Act) (w:World),Sim G s a w→c.wp P (zKW G Q) a w:=by
 intro c
 induction c with
 | skip=>intro _ Q s hk a w hs;exact wp_skip ⟨s,hs,hk⟩
 | region id ops draw =>
   intro hf Q s hk a w hs
   have hd:∀ o ∈ ops,∀ d,o.dst = some d→d < G.n:=fun o ho d hod=>by
    simp only [fits,Array.all_eq_true'] at hf
    have:=hf o ho
    rw [hod] at this
    simpa using this
   cases draw with
   | false =>
     have hk':zs2 P T ops ops.toList s (Q .norm):=hk
     exact wp_region_list (zAp hT ops.toList s (Q .norm) (fun o h=>hd o (by simpa using h)) hk' (fun s' a' w' hq hs'=>⟨s',hs',hq⟩) a w hs)
   | true =>
     have hk':zld ops = true∧zfu P T ops [] ops.toList s (Q .norm):=hk
     exact zw2 hT hm hk'.1 hd hk'.2 (fun s' a' w' hq hs'=>⟨s',hs',hq⟩) hs
 | seq x y ihx ihy =>
   intro hf Q s hk a w hs
   simp only [fits,Bool.and_eq_true] at hf
   refine wp_seq (wp_mono (ihx hf.1 _ s hk a w hs) fun e a' w' h=>?_)
   cases e with
   | normal=>obtain ⟨s',hs',hq⟩:=h;exact ihy hf.2 Q s' hq a' w' hs'
   | exit id=>exact h
   | ret=>exact h
   | goto l=>exact h.elim
   | panic ch=>exact h.elim
   | outgrown=>exact h.elim
 | cond c x y ihx ihy =>
   intro hf Q s hk a w hs
   simp only [fits,Bool.and_eq_true] at hf
   simp only [cwp] at hk
   split at hk
   ·rename_i b hb
    obtain ⟨E,hsE⟩:=hs
    have hv:=zaz hsE.slots c
    rw [hb] at hv
    refine wp_cond hv.v_eq ?_
    cases b with
    | true=>exact ihx hf.1 Q s (hk.1 rfl) a w ⟨E,hsE⟩
    | false=>exact ihy hf.2 Q s (hk.2 rfl) a w ⟨E,hsE⟩
   ·exact hk.elim
 | block id x ih =>
   intro hf Q s hk a w hs
   refine wp_block (wp_mono (ih hf _ s hk a w hs) fun e a' w' h=>?_)
   cases e with
   | normal=>exact h
   | exit i =>
     obtain ⟨s',hs',hq⟩:=h
     simp only [Exit.inBlock]
     simp only [AX.blk] at hq
     by_cases hi:i = id
     ·rw [if_pos hi] at hq ⊢;exact ⟨s',hs',hq⟩
     ·rw [if_neg hi] at hq ⊢;exact ⟨s',hs',hq⟩
   | ret=>exact h
   | goto l=>exact h.elim
   | panic ch=>exact h.elim
   | outgrown=>exact h.elim
 | loop x ih =>
   intro hf Q s hk a w hs
   obtain ⟨α,I,μ,⟨x0,s0,hw0,hI0⟩,hround⟩:=hk
   have key:∀ n x1 s1,μ x1 = n→I x1 s1→∀ a w,Sim G s1 a w→∀ (b:Frame) (k:List Item) (cs:List Frame),
    ∃ e a' w',zKW G Q e a' w'∧Arrives P (lone (b.at a (.code x :: .inLoop x :: k)) cs w) b k cs e a' w':=by
    intro n
    induction n using Nat.strongRecOn with
    | _ n ihn =>
      intro x1 s1 hn hI a w hs b k cs
      obtain ⟨e,a₁,w₁,hq,harr⟩:=ih hf _ s1 (hround x1 s1 hI) a w hs b (.inLoop x :: k) cs
      cases e with
      | normal =>
        obtain ⟨s2,hs2,x',s3,hw3,hI3,hlt⟩:=hq
        obtain ⟨e₂,a₂,w₂,hq₂,harr₂⟩:=ihn (μ x') (hn ▸ hlt) x' s3 rfl hI3 a₁ w₁ (hw3 G a₁ w₁ hs2) b k cs
        exact ⟨e₂,a₂,w₂,hq₂,.of_steps (Steps.trans harr (.one step_inLoop)) harr₂⟩
      | exit id=>exact ⟨.exit id,a₁,w₁,hq,.pass (x:=.inLoop x) rfl (fun _ _=>.inl (by simp)) harr⟩
      | ret=>exact ⟨.ret,a₁,w₁,hq,.pass (x:=.inLoop x) rfl (fun _ _=>.inl (by simp)) harr⟩
      | goto l=>exact hq.elim
      | panic ch=>exact hq.elim
      | outgrown=>exact hq.elim
   intro b k cs
   obtain ⟨e,a',w',hq,harr⟩:=key _ x0 s0 rfl hI0 a w (hw0 G a w hs) b k cs
   exact ⟨e,a',w',hq,.of_steps (.one step_loop) harr⟩
 | exit id=>intro _ Q s hk a w hs;exact wp_exit ⟨s,hs,hk⟩
 | ret=>intro _ Q s hk a w hs;exact wp_ret ⟨s,hs,hk⟩
 | label l=>intro _ Q s hk a w hs;exact wp_label ⟨s,hs,hk⟩
 | rangeFunc _ _ _ _=>intro _ Q s hk;exact hk.elim
 | scope _ _=>intro _ Q s hk;exact hk.elim
 | goto _=>intro _ Q s hk;exact hk.elim
 | refuse _=>intro _ Q s hk;exact hk.elim
end
def zMG [zae] (P:Program) (n:Nat) (c:Code) (Q:AX→St→Prop) (s:St):Prop :=
 ∀ G:Ghost,G.n = n→∀ (a:Act) (w:World),Sim G s a w→c.wp P (zKW G Q) a w
theorem zF7 [zae] {P:Program} {T:Tab} {n:Nat} {Q:AX→St→Prop} {s:St} {c:Code} (hT:T.Ok P) (hm:P.follows .mixedOrders = true) (hf:fits n c = true) (h:cwp P T c Q s):zMG P n c Q s :=
 fun G hn a w hs=>zht hT hm c (by rw [hn];exact hf) Q s h a w hs
end Go.Abs

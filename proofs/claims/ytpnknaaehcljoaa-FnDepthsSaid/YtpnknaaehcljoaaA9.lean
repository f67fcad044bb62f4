/- DERIVED by an AI agent. -/
import Derived.Test.YtpnknaaehcljoaaA8
/- DERIVED by an AI agent. What a region that draws its order asks. No program in sight. -/
namespace Go.Abs
set_option linter.unusedSimpArgs false
def zB6:PV→List Nat | .own k _=>[k % 1000] | .ref k _ _=>[k % 1000] | _=>[]
def zd7:PV→List Nat | .own k _=>[k % 1000] | .ref k _ _=>[k % 1000] | .ag c=>c.flatMap zB6 | _=>[]
def zdA (l:List Nat) (k:Nat):Prop:=∃ a ∈ l,a % 1000 = k % 1000
theorem zbV (k:Nat):zdA [k % 1000] k:=⟨_,List.mem_singleton.2 rfl,Nat.mod_mod _ _⟩
theorem ziw {l:List Nat} {k:Nat} (h:k ∈ l):zdA l k:=⟨_,h,rfl⟩
theorem zeB {l m:List Nat} {k:Nat} (h:zdA l k):zdA (l ++ m) k:=by obtain ⟨a,ha,e⟩:=h;exact ⟨a,List.mem_append.2 (.inl ha),e⟩
theorem zbw {l m:List Nat} {k:Nat} (h:zdA m k):zdA (l ++ m) k:=by obtain ⟨a,ha,e⟩:=h;exact ⟨a,List.mem_append.2 (.inr ha),e⟩
theorem zpM {a:Nat} {l:List Nat} {k:Nat} (h:zdA l k):zdA (a :: l) k:=by obtain ⟨b,hb,e⟩:=h;exact ⟨b,List.mem_cons_of_mem _ hb,e⟩
theorem zpN {l:List Nat} {k:Nat}:zdA (k % 1000 :: l) k:=⟨_,List.mem_cons_self,Nat.mod_mod _ _⟩
theorem ztZ {l m:List Nat} {k:Nat} (h:zdA l k) (hs:∀ a ∈ l,a ∈ m):zdA m k:=by obtain ⟨a,ha,e⟩:=h;exact ⟨a,hs a ha,e⟩
theorem zdU {α:Type} {f:α→List Nat} {l:List α} {x:α} {k:Nat} (hx:x ∈ l) (h:zdA (f x) k):zdA (l.flatMap f) k:=by obtain ⟨a,ha,e⟩:=h;exact ⟨a,List.mem_flatMap.2 ⟨x,hx,ha⟩,e⟩
theorem zdV {e:Ent} {k:Nat} (h:zdA e.rd k):e.looks k = true:=by
 obtain ⟨a,ha,h⟩:=h
 unfold Ent.looks
 simp only [List.any_eq_true,beq_iff_eq]
 exact ⟨a,ha,h⟩
theorem zgy [zai] {l:List Nat} {k:Nat}:(Tc.ids l).has k = true ↔ zdA l k:=zq3
theorem zhI [zai] {l:List Nat} {k:Nat} (h:(Tc.ids l).has k = false):¬ zdA l k:=fun hn=>by rw [zgy.2 hn] at h;cases h
def same (rw rw':Nat→Row) (p:PV):Prop:=∀ k,zdA (zd7 p) k→rw' k = rw k
section
variable {P:Program} {T:Tab} {rw rw':Nat→Row} {p:PV}
theorem zxU [zai] (hs:same rw rw' p) (K:Md→List PV→Nat→Prop):zqO rw' p K = zqO rw p K:=by
 cases p <;> first | rfl | (simp only [zqO];rw [hs _ (zbV _)])
theorem zt0 [zai] (hs:same rw rw' p) (K:Bool→Nat→List PV→Prop):slK rw' p K = slK rw p K:=by
 cases p <;> first | rfl | (simp only [slK];rw [hs _ (zbV _)])
theorem zuX [zai] (hs:same rw rw' p) (K:Bool→Nat→List PV→Prop):zfK rw' p K = zfK rw p K:=by
 cases p <;> first | rfl | (simp only [zfK];rw [hs _ (zbV _)])
theorem zg6 [zai] (hs:same rw rw' p) (A:Prop):zdm rw' p A = zdm rw p A:=by
 cases p <;> first | rfl | (simp only [zdm];rw [hs _ (zbV _)])
theorem zd8 [zai] (hs:same rw rw' p) (K:List PV→Prop):zaU rw' p K = zaU rw p K:=by
 cases p <;> first | rfl | (simp only [zaU];rw [hs _ (zbV _)])
theorem zjI [zai] {i:PV} {t:TypeId} (hs:same rw rw' p) (K:PV→Prop):zbo T rw' t p i K = zbo T rw t p i K:=by
 unfold zbo
 simp only [zg6 hs]
 cases p <;> first | rfl | (simp only;rw [hs _ (zbV _)])
theorem zxV [zai] (hs:same rw rw' p) (K:Nat→Nat→Prop):zvU rw' p K = zvU rw p K:=by
 cases p <;> first | rfl | (simp only [zvU];rw [hs _ (zbV _)])
theorem zxW [zai] {t:TypeId} (hs:same rw rw' p) (K:PV→Prop):zyu T rw' t p K = zyu T rw t p K:=by
 unfold zyu
 simp only [zxV hs]
theorem zq0 [zai] {ev:Operand→PV} {t:TypeId} {lo hi mx:Option Operand} (hs:same rw rw' p) (K:PV→Prop):zby T rw' ev t p lo hi mx K = zby T rw ev t p lo hi mx K:=by
 unfold zby
 simp only [zuX hs]
theorem zuY [zai] {a b:TypeId} (hs:same rw rw' p) (K:PV→Prop):zfj T rw' a b p K = zfj T rw a b p K:=by
 unfold zfj
 simp only [zt0 hs]
theorem zxX [zai] {ev:Operand→PV} {op:Op} (h:∀ x ∈ op.operands,same rw rw' (ev x)) (K:PV→Prop):zh7 T rw' ev op K = zh7 T rw ev op K:=by
 unfold zh7
 cases op <;> try rfl
 case convert a b x=>exact zuY (h x (by simp [Op.operands])) K
 case load t x=>exact zxU (h x (by simp [Op.operands])) _
 case fieldAddr t x f=>simp only [zg6 (h x (by simp [Op.operands]))]
 case indexAddr t x i=>exact zjI (h x (by simp [Op.operands])) K
 case slice t x lo hi mx=>exact zq0 (h x (by simp [Op.operands])) K
 case nilCheck x=>exact zg6 (h x (by simp [Op.operands])) _
 case call c =>
  dsimp only
  split
  ·rename_i x t;exact zxW (h x (by simp [Op.operands,Call.operands])) K
  ·rfl
  ·rfl
  ·rfl
theorem zuZ [zai] {fs:List (Nat × TypeId)}:∀ (pp:List (Nat × PV)) (c:List PV) (K:List PV→Prop),(∀ x ∈ pp,same rw rw' x.2)→zc7 T rw' fs pp c K = zc7 T rw fs pp c K:=by
 intro pp
 induction pp with
 | nil=>intro c K _;rfl
 | cons x pp ih =>
   intro c K h
   obtain ⟨i,p⟩:=x
   have h0:same rw rw' p:=h (i,p) (by simp)
   have ih':∀ c K,zc7 T rw' fs pp c K = zc7 T rw fs pp c K:=fun c K=>ih c K fun y hy=>h y (by simp [hy])
   simp only [zc7,ih',zd8 h0]
theorem zxY {fs:List (Nat × TypeId)}:∀ (pp:List (Nat × PV)) (c:List PV) (K:List PV→Prop),zc7 T rw fs pp c K→∃ c',K c'∧zc7 T rw fs pp c (· = c'):=by
 intro pp
 induction pp with
 | nil=>intro c K h;exact ⟨c,h,rfl⟩
 | cons x pp ih =>
   intro c K h
   obtain ⟨i,p⟩:=x
   unfold zc7 at h ⊢
   split at h
   ·rename_i off ft hfi
    unfold zaU at h ⊢
    split at h <;> first
     | exact h.elim
     | (obtain ⟨a1,a2,h⟩:=h;obtain ⟨c',h1,h2⟩:=ih _ _ h;exact ⟨c',h1,a1,a2,h2⟩)
     | (obtain ⟨q,a1,a2,h⟩:=h;obtain ⟨c',h1,h2⟩:=ih _ _ h;exact ⟨c',h1,q,a1,a2,h2⟩)
     | (obtain ⟨q,q2,a1,a2,h⟩:=h;obtain ⟨c',h1,h2⟩:=ih _ _ h;exact ⟨c',h1,q,q2,a1,a2,h2⟩)
   ·exact h.elim
end
def zep (T:Tab) (rw:Nat→Row) (ev:Operand→PV) (op:Op) (K:PV→Prop):Prop :=
 match op with
 | .build t parts=>zfI T rw ev t parts K
 | op=>zh7 T rw ev op K
def zq1 (k:Nat) (c:List PV):List Nat:=c.flatMap fun q=>match q with | .own j _=>if j % 1000 = k % 1000 then [] else [j % 1000] | _=>[]
def zdW (rw:Nat→Row):Nat→PV→List Nat
 | 0,_=>[]
 | n + 1,p=>match p with
   | .own k _=>k % 1000 :: (match (rw k).kind with | .tab _ c=>zq1 k c | _=>[])
   | .ref k _ _=>k % 1000 :: (match (rw k).kind with | .box _ c=>c.flatMap (zdW rw n) | _=>[])
   | .ag c=>c.flatMap (zdW rw n)
   | .clo _ c=>c.flatMap (zdW rw n)
   | _=>[]
theorem zpO [zai] {rw rw':Nat→Row}:∀ (n:Nat) (p:PV),(∀ k,zdA (zdW rw n p) k→rw' k = rw k)→zcl rw' n p = zcl rw n p:=by
 intro n
 induction n with
 | zero=>intro p _;rfl
 | succ n ih =>
   intro p h
   have lst:∀ c:List PV,(∀ k,zdA (c.flatMap (zdW rw n)) k→rw' k = rw k)→c.map (zcl rw' n) = c.map (zcl rw n):=fun c hc =>
    List.map_congr_left fun q hq=>ih q fun k hk=>hc k (zdU hq hk)
   cases p with
   | own k ver =>
     have h0:=h k zpN
     simp only [zcl,h0]
     split
     ·cases hk:(rw k).kind with
      | tab e c =>
        simp only
        congr 1
        refine List.map_congr_left fun q hq=>?_
        cases q with
        | own j v =>
          have hj:rw' j = rw j:=h j (by
           simp only [zdW,hk]
           by_cases he:j % 1000 = k % 1000
           ·exact ⟨_,List.mem_cons_self,by rw [Nat.mod_mod];exact he.symm⟩
           ·exact zpM (zdU hq (by simp only [he,if_false];exact zbV j)))
          simp only [zkS,hj]
        | _=>rfl
      | _=>rfl
     ·rfl
   | ref k ver off =>
     have h0:=h k zpN
     simp only [zcl,h0]
     split
     ·cases hk:(rw k).kind with
      | box t c=>simp only;rw [lst c fun j hj=>h j (by simp only [zdW,hk];exact zpM hj)]
      | _=>rfl
     ·rfl
   | ag c=>simp only [zcl];rw [lst c fun j hj=>h j hj]
   | clo f c=>simp only [zcl];rw [lst c fun j hj=>h j hj]
   | _=>rfl
def zFc [zai] (P:Program) (s:St) (g:FuncId) (raw:List PV) (d:Nat) (K:List Nat→Nat→St→Prop):Prop :=
 (∃ (k v e e2:Nat) (p:List Nat) (rows rows':List (List PV)) (args:List PV) (r:RV),
  AT P g args e e2 rows rows' (.rv r)∧GiveL [(k,v)] raw args∧TabIs s.rw k v e e2 p rows∧p.Nodup∧d % 1000 ≠ k % 1000∧K [] k (zam (s.killed k p) d r)) ∨
 (∃ (j vj e:Nat) (x head out:List PV) (ok fr:Bool),
  AF P g x head e out ok∧raw = [.sl fr 1 x,.own j vj]∧s.rw j = ⟨vj,.sli e 1 false head⟩∧zb3 head∧d % 1000 ≠ j % 1000∧j < lent∧K [] j (zam (s.killed j []) d (rvF e out ok))) ∨
 (∃ (rd:List Nat) (k:Nat) (x:RV) (r:Row),(∀ s':St,s'.rw k = s.rw k→(∀ a ∈ rd,s'.rw a = s.rw a)→∀ K':St→Prop,K' (zam (s'.row k r) d x)→askG P s' g raw (some d) K')∧d % 1000 ≠ k % 1000∧K rd k (zam (s.row k r) d x))
def tdK [zai] (P:Program) (s:St) (f:Operand) (c:Call) (d:Nat) (K:Ent→St→Prop):Prop :=
 match s.ev f with | .clo g caps=>zFc P s g (c.args.toList.map s.ev ++ caps) d (fun rd k s1=>K ⟨rd,.ids [d,k]⟩ s1) | _=>False
def nK [zai] (P:Program) (s:St) (o:Oper) (K:Ent→St→Prop):Prop :=
 match o.op with
 | .call c=>(match c.callee with
  | .value f=>(match o.dst with
   | some d=>(zec P s.rw s.ev f c.args fun rv=>K ⟨(c.args.toList.map s.ev).flatMap (zdW s.rw zfi) ++ zdW s.rw (zfi + 1) (s.ev f),.res d⟩ (zam s d rv)) ∨ tdK P s f c d K
   | none=>zec P s.rw s.ev f c.args fun _=>K ⟨(c.args.toList.map s.ev).flatMap (zdW s.rw zfi) ++ zdW s.rw (zfi + 1) (s.ev f),.ids []⟩ s)
  | _=>False)
 | _=>False
def zmS (s:St) (o:Oper):List Nat:=match zmV o with | true=>[] | false=>(o.op.operands.toList.map s.ev).flatMap zd7
def zHS (T:Tab) (s:St) (dst:Option Nat) (t:TypeId) (r:Row) (k ver:Nat) (py:PV) (K:Ent→St→Prop):Prop :=
 ∃ (d e:Nat) (c:List PV) (kd:IntKind) (m:Int),dst = some d∧r = ⟨ver,.sli e 1 false c⟩∧0 < (T t).size∧(T t).k = .sli e∧0 < (T e).size∧(T e).size = 1∧py = .v (.int kd m)∧0 ≤ m∧m ≤ (c.length:Int) ∧
  K ⟨[],.ids [k]⟩ ((s.row k ⟨ver + 1,.sli e 1 false (c.take m.toNat)⟩).put (some d) (.own k (ver + 1)))
def zFY (T:Tab) (s:St) (o:Oper) (t:TypeId) (px py:PV) (K:Ent→St→Prop):Prop :=
 match px with
 | .own k ver=>(match (s.rw k).kind with
  | .sli _ _ false _=>zHS T s o.dst t (s.rw k) k ver py K
  | _=>zep T s.rw s.ev o.op fun p=>K ⟨zmS s o,.ids []⟩ (s.put o.dst p))
 | _=>zep T s.rw s.ev o.op fun p=>K ⟨zmS s o,.ids []⟩ (s.put o.dst p)
def dK [zai] (P:Program) (T:Tab) (s:St) (o:Oper) (K:Ent→St→Prop):Prop :=
 match o.op with
 | .store _ ad x=>opK P T s o (K ⟨[],.ids (zd7 (s.ev ad) ++ zd7 (s.ev x))⟩)
 | .alloc _=>opK P T s o (K ⟨[],.ids o.dst.toList⟩)
 | .box _ x=>opK P T s o (K ⟨zd7 (s.ev x),.ids o.dst.toList⟩)
 | .makeSlice _ _ _=>opK P T s o (K ⟨[],.ids o.dst.toList⟩)
 | .buildSlice _ _ parts=>opK P T s o (K ⟨[],.ids (o.dst.toList ++ (parts.toList.map fun x=>s.ev x.2).flatMap zd7)⟩)
 | .slice t x none (some y) none=>zFY T s o t (s.ev x) (s.ev y) K
 | .call c=>(match c.callee with
  | .builtin .append=>(match c.args with | ⟨[x,y]⟩=>opK P T s o (K ⟨zd7 (s.ev y),.ids (o.dst.toList ++ zd7 (s.ev x))⟩) | _=>False)
  | .value _=>nK P s o K
  | _=>zep T s.rw s.ev o.op fun p=>K ⟨zmS s o,.ids []⟩ (s.put o.dst p))
 | _=>zep T s.rw s.ev o.op fun p=>K ⟨zmS s o,.ids []⟩ (s.put o.dst p)
def zeC [zai] (P:Program) (T:Tab) (ops:Array Oper):List Ent→List Oper→St→(St→Prop)→Prop
 | acc,[],s,K=>zkP ops acc.reverse = true∧K s
 | acc,o :: os,s,K=>zt4 ops s o
  (fun s1=>dK P T s1 o fun e s2=>zeC P T ops (e :: acc) os s2 K)
  (fun s2=>zeC P T ops (⟨[],.ids []⟩ :: acc) os s2 K)
section
variable {P:Program} {T:Tab} {G:Ghost} {ops:Array Oper}
theorem zz8 [zai] {rw:Nat→Row} {ev:Operand→PV} {op:Op} {K:PV→Prop} (h:zh7 T rw ev op K):∃ p,K p∧∀ K':PV→Prop,K' p→zh7 T rw ev op K':=by
 unfold zh7 at h ⊢
 split at h
 ·exact ⟨_,h,fun _ h=>h⟩
 ·exact ⟨_,h,fun _ h=>h⟩
 ·split at h
  ·rename_i t _
   cases t with
   | true=>exact ⟨_,h.1 rfl,fun _ h'=>⟨fun _=>h',fun h=>by cases h⟩⟩
   | false=>exact ⟨_,h.2 rfl,fun _ h'=>⟨(fun h=>by cases h),fun _=>h'⟩⟩
  ·exact h.elim
 ·exact zub h
 ·exact zyp h
 ·exact zp4 h
 ·obtain ⟨m,c,off,h,hd⟩:=zt9 h
  obtain ⟨p,hp,hl⟩:=zhc h
  exact ⟨p,hp,fun K' hk=>hd _ (hl _ hk)⟩
 ·obtain ⟨o',ft,h,hd⟩:=ze5 h
  obtain ⟨hptr,h⟩:=h
  obtain ⟨hk,hs⟩:=zeI h
  exact ⟨_,hk,fun K' hk=>hd _ ⟨hptr,hs _ hk⟩⟩
 ·rename_i t x f
  obtain ⟨o',ft,h,hd⟩:=ze5 h
  cases he:ev x with
  | ag c =>
    rw [he] at h
    obtain ⟨p,hp,hl⟩:=zhc h
    exact ⟨p,hp,fun K' hk=>hd _ (hl _ hk)⟩
  | _=>rw [he] at h;exact h.elim
 ·exact zfA h
 ·obtain ⟨hs,h⟩:=h
  split at h
  ·exact ⟨_,h.2.2,fun _ hk=>⟨hs,h.1,h.2.1,hk⟩⟩
  ·obtain ⟨p,hp,hl⟩:=zhc h.2.2
   exact ⟨p,hp,fun _ hk=>⟨hs,h.1,h.2.1,hl _ hk⟩⟩
  ·exact h.elim
 ·exact zmi h
 ·split at h
  ·exact ⟨_,h.2,fun _ hk=>⟨h.1,hk⟩⟩
  ·exact h.elim
 ·split at h
  ·exact ⟨_,h.2,fun _ hk=>⟨h.1,hk⟩⟩
  ·exact h.elim
 ·obtain ⟨hk,hs⟩:=zeI h
  exact ⟨_,hk,fun K' hk=>hs _ hk⟩
 ·split at h
  ·exact zua h
  ·exact zed h
  ·exact zed h
  ·exact h.elim
 ·exact h.elim
theorem zxZ [zai] {rw:Nat→Row} {ev:Operand→PV} {op:Op} {K:PV→Prop} (h:zep T rw ev op K):∃ p,K p∧zep T rw ev op (· = p):=by
 unfold zep at h ⊢
 split at h
 ·unfold zfI at h ⊢
  obtain ⟨h1,h⟩:=h
  split at h
  ·rename_i fs hfs
   obtain ⟨h2,h⟩:=h
   obtain ⟨c',h3,h4⟩:=zxY _ _ _ h
   refine ⟨_,h3,h1,h2,?_⟩
   refine (?_:zc7 T rw fs _ _ (fun c=>PV.ag c = PV.ag c'))
   have e:(fun c=>PV.ag c = PV.ag c') = (· = c'):=by funext c;simp
   rw [e];exact h4
  ·exact h.elim
 ·obtain ⟨p,hp,hd⟩:=zz8 h
  exact ⟨p,hp,hd _ rfl⟩
theorem zu0 [zai] {rw rw':Nat→Row} {ev:Operand→PV} {op:Op} (h:∀ x ∈ op.operands,same rw rw' (ev x)) (K:PV→Prop):zep T rw' ev op K = zep T rw ev op K:=by
 unfold zep
 split
 ·rename_i t parts
  unfold zfI
  split
  ·rename_i fs hfs
   rw [zuZ _ _ _ fun x hx=>by
    obtain ⟨y,hy,rfl⟩:=List.mem_map.1 hx
    exact h y.2 (by simp only [Op.operands,List.mem_toArray,List.mem_map];exact ⟨y,hy,rfl⟩)]
  ·rfl
 ·exact zxX h K
theorem zu1 {rw rw':Nat→Row} {ev:Operand→PV} {o:Oper} {K:PV→Prop} (hf:zmV o = true) (h:zep T rw ev o.op K):zep T rw' ev o.op K:=by
 unfold zmV at hf
 split at hf <;> first
  | (rename_i ho;rw [ho] at h ⊢;exact h)
  | cases hf
theorem zu2 [zai] (hT:T.Ok P) {s:St} {K:PV→Prop} {o:Oper} (hk:zep T s.rw s.ev o.op K):∃ p,K p∧zfB P G s o p:=by
 unfold zep at hk
 split at hk
 ·rename_i t parts ho;exact zhO hT ho hk
 ·exact zp5 hT hk
theorem zFd {s s':St} {l:List (Nat × Operand)} (h:∀ x ∈ l,s'.ev x.2 = s.ev x.2):(l.map fun x=>s'.ev x.2) = l.map fun x=>s.ev x.2:=List.map_congr_left h
def upR (fz:List Nat) (d:Nat) (r:Row) (rw:Nat→Row):Nat→Row:=fun i=>if i = d then r else zgC rw fz i
theorem zix [zai] (s:St) (d:Nat) (kd:RK) (p:Nat→PV):zcR s d kd p = (St.mk s.sl (upR [] d ⟨(s.rw d).ver + 1,kd⟩ s.rw)).put (some d) (p ((s.rw d).ver + 1)):=by
 unfold zcR St.row upR;rw [ze4]
theorem ziy [zai] (s:St) (d k:Nat) (kd:RK):zc8 s d k kd = (St.mk s.sl (upR [] k ⟨(s.rw k).ver + 1,kd⟩ s.rw)).put (some d) (.own k ((s.rw k).ver + 1)):=by
 unfold zc8 St.row upR;rw [ze4]
theorem zl7 [zai] (s:St) (k:Nat) (r:Row):s.row k r = St.mk s.sl (upR [] k r s.rw):=by
 unfold St.row upR;rw [ze4]
theorem zt1 (s:St) (fz:List Nat) (k:Nat) (r:Row):(s.freeze fz).row k r = St.mk s.sl (upR fz k r s.rw):=rfl
theorem zpP [zai] {rw:Nat→Row} {p:PV} {K:List PV→List Nat→Prop} (hk:zcQ rw p K):∃ c f,K c f∧(∀ j ∈ f,zdA (zd7 p) j)∧∀ rw',same rw rw' p→zcQ rw' p (fun a b=>a = c∧b = f):=by
 unfold zcQ at hk
 split at hk
 ·exact ⟨_,_,hk.2,by simp,fun rw' _=>⟨hk.1,rfl,rfl⟩⟩
 ·exact ⟨_,_,hk.2,by simp,fun rw' _=>⟨hk.1,rfl,rfl⟩⟩
 ·rename_i k ver
  obtain ⟨h1,h2,hk⟩:=hk
  split at hk
  ·rename_i hkd
   refine ⟨_,_,hk,by simp,fun rw' hs=>?_⟩
   have:=hs k (zbV _)
   unfold zcQ
   simp only [this,hkd]
   exact ⟨h1,h2,by simp⟩
  ·rename_i hkd
   refine ⟨_,_,hk,fun j hj=>by rw [List.mem_singleton.1 hj];exact zbV _,fun rw' hs=>?_⟩
   have:=hs k (zbV _)
   unfold zcQ
   simp only [this,hkd]
   exact ⟨h1,h2,by simp⟩
  ·exact hk.elim
 ·exact ⟨_,_,hk.2,by simp,fun rw' _=>⟨hk.1,rfl,rfl⟩⟩
 ·exact hk.elim
theorem zx0 [zai] {rw:Nat→Row} {es:Nat}:∀ {ps:List PV} {K:List PV→List Nat→Prop},zkR rw es ps K→∃ c f,K c f∧(∀ j ∈ f,zdA (ps.flatMap zd7) j)∧∀ rw',(∀ p ∈ ps,same rw rw' p)→∀ K':List PV→List Nat→Prop,K' c f→zkR rw' es ps K':=by
 intro ps
 induction ps with
 | nil=>intro K h;exact ⟨_,_,h,by simp,fun _ _ K' h=>h⟩
 | cons p ps ih =>
   intro K h
   obtain ⟨c,f,⟨hl,h⟩,hf,hp⟩:=zpP h
   obtain ⟨cs,fs,h,hfs,hs⟩:=ih h
   refine ⟨_,_,h,fun j hj=>?_,fun rw' hsame K' hK=>?_⟩
   ·rw [List.flatMap_cons]
    rcases List.mem_append.1 hj with h | h
    ·exact zeB (hf j h)
    ·exact zbw (hfs j h)
   ·have h1:=hp rw' (hsame p (by simp))
    have back:∀ {K2:List PV→List Nat→Prop},K2 c f→zcQ rw' p K2:=fun {K2} hk2=>by
     unfold zcQ at h1 ⊢
     split at h1
     ·obtain ⟨q1,rfl,rfl⟩:=h1;exact ⟨q1,hk2⟩
     ·obtain ⟨q1,rfl,rfl⟩:=h1;exact ⟨q1,hk2⟩
     ·obtain ⟨q1,q2,h1⟩:=h1
      refine ⟨q1,q2,?_⟩
      split at h1
      ·obtain ⟨rfl,rfl⟩:=h1;exact hk2
      ·obtain ⟨rfl,rfl⟩:=h1;exact hk2
      ·exact h1.elim
     ·obtain ⟨q1,rfl,rfl⟩:=h1;exact ⟨q1,hk2⟩
     ·exact h1.elim
    exact back ⟨hl,hs rw' (fun q hq=>hsame q (by simp [hq])) (fun cs' fs'=>K' (c ++ cs') (f ++ fs')) hK⟩
theorem zg7 {rw:Nat→Row} {p:PV} {K:List PV→Prop} (hk:zaU rw p K):∃ c,K c∧(∀ q ∈ c,∀ j ∈ zB6 q,j ∈ zd7 p)∧∀ K':List PV→Prop,K' c→zaU rw p K':=by
 have one:∀ q:PV,∀ q' ∈ [q],∀ j ∈ zB6 q',j ∈ zd7 q:=fun q q' hq j hj=>by
  rw [List.mem_singleton.1 hq] at hj
  cases q <;> simp [zB6] at hj <;> simp [zd7,hj]
 unfold zaU at hk ⊢
 split at hk
 ·exact ⟨_,hk,fun q hq j hj=>List.mem_flatMap.2 ⟨q,hq,hj⟩,fun _ h=>h⟩
 ·exact ⟨_,hk.2,one _,fun _ h=>⟨hk.1,h⟩⟩
 ·exact ⟨_,hk,one _,fun _ h=>h⟩
 ·exact ⟨_,hk,one _,fun _ h=>h⟩
 ·exact ⟨_,hk,one _,fun _ h=>h⟩
 ·exact ⟨_,hk.2.2,one _,fun _ h=>⟨hk.1,hk.2.1,h⟩⟩
 ·exact ⟨_,hk.2.2,one _,fun _ h=>⟨hk.1,hk.2.1,h⟩⟩
 ·exact hk.elim
theorem zpQ [zai] {rw rw':Nat→Row} {p:PV} (hs:∀ j,zdA (zB6 p) j→rw' j = rw j) (h:zkI rw p):zkI rw' p:=by
 cases p <;> first | exact h | (simp only [zkI] at h ⊢;rw [hs _ (zbV _)];exact h)
def zjJ [zai] (P:Program) (_T:Tab) (G:Ghost) (s:St) (o:Oper) (K:Ent→St→Prop):Prop :=
 ∃ x:Stp,K x.e (s.step o x)∧(∀ k,x.e.tc.has k = false→x.rows k = s.rw k) ∧
  ∀ s':St,(∀ k,x.e.looks k = true ∨ x.e.tc.has k = true→s'.rw k = s.rw k)→(∀ y ∈ o.op.operands,s'.ev y = s.ev y)→zba P G s' o (s'.stepIn o x)
theorem ze1 [zai] (hT:T.Ok P) {s:St} {o:Oper} {K:Ent→St→Prop} (hd:∀ d,o.dst = some d→d < G.n) {val:PV} {fz:List Nat} {d:Nat} {r:Row} {rd l:List Nat} (hdl:zdA l d) (hfl:∀ j ∈ fz,zdA l j)
 (h1:K ⟨rd,.ids l⟩ ((St.mk s.sl (upR fz d r s.rw)).put o.dst val))
 (h2:∀ s':St,(∀ k,zdA rd k→s'.rw k = s.rw k)→(∀ k,zdA l k→s'.rw k = s.rw k)→(∀ y ∈ o.op.operands,s'.ev y = s.ev y)→opK P T s' o (· = (St.mk s'.sl (upR fz d r s'.rw)).put o.dst val)):zjJ P T G s o K:=by
 refine ⟨⟨val,upR fz d r s.rw,⟨rd,.ids l⟩⟩,h1,fun k hk=>?_,fun s' hr hev=>?_⟩
 ·have hk:¬ zdA l k:=zhI hk
  show upR fz d r s.rw k = s.rw k
  unfold upR zgC
  rw [if_neg (fun e=>hk (by rw [e];exact hdl)),if_neg (fun e=>hk (hfl k e))]
 ·have e:s'.stepIn o ⟨val,upR fz d r s.rw,⟨rd,.ids l⟩⟩ = (St.mk s'.sl (upR fz d r s'.rw)).put o.dst val:=by
   unfold St.stepIn
   congr 2
   funext k
   by_cases hk:(Tc.ids l).has k = true
   ·rw [if_pos hk]
    have:=hr k (.inr hk)
    show upR fz d r s.rw k = upR fz d r s'.rw k
    unfold upR zgC
    rw [this]
   ·rw [if_neg hk]
    have hk:¬ zdA l k:=fun h=>hk (zgy.2 h)
    unfold upR zgC
    rw [if_neg (fun e=>hk (by rw [e];exact hdl)),if_neg (fun e=>hk (hfl k e))]
  rw [e]
  obtain ⟨s2,rfl,he⟩:=ziz (G:=G) hT hd (h2 s' (fun k hk=>hr k (.inl (zdV hk))) (fun k hk=>hr k (.inr (zgy.2 hk))) hev)
  exact he
theorem zx1 [zai] {s:St} {o:Oper} {K:Ent→St→Prop} {val:PV} {fz:List Nat} {d:Nat} {r:Row} {rd l:List Nat} (hdl:zdA l d) (hfl:∀ j ∈ fz,zdA l j)
 (h1:K ⟨rd,.ids l⟩ ((St.mk s.sl (upR fz d r s.rw)).put o.dst val))
 (h2:∀ s':St,(∀ k,zdA rd k→s'.rw k = s.rw k)→(∀ k,zdA l k→s'.rw k = s.rw k)→(∀ y ∈ o.op.operands,s'.ev y = s.ev y)→zba P G s' o ((St.mk s'.sl (upR fz d r s'.rw)).put o.dst val)):zjJ P T G s o K:=by
 refine ⟨⟨val,upR fz d r s.rw,⟨rd,.ids l⟩⟩,h1,fun k hk=>?_,fun s' hr hev=>?_⟩
 ·have hk:¬ zdA l k:=zhI hk
  show upR fz d r s.rw k = s.rw k
  unfold upR zgC
  rw [if_neg (fun e=>hk (by rw [e];exact hdl)),if_neg (fun e=>hk (hfl k e))]
 ·have e:s'.stepIn o ⟨val,upR fz d r s.rw,⟨rd,.ids l⟩⟩ = (St.mk s'.sl (upR fz d r s'.rw)).put o.dst val:=by
   unfold St.stepIn
   congr 2
   funext k
   by_cases hk:(Tc.ids l).has k = true
   ·rw [if_pos hk]
    have:=hr k (.inr hk)
    show upR fz d r s.rw k = upR fz d r s'.rw k
    unfold upR zgC
    rw [this]
   ·rw [if_neg hk]
    have hk:¬ zdA l k:=fun h=>hk (zgy.2 h)
    unfold upR zgC
    rw [if_neg (fun e=>hk (by rw [e];exact hdl)),if_neg (fun e=>hk (hfl k e))]
  rw [e]
  exact h2 s' (fun k hk=>hr k (.inl (zdV hk))) (fun k hk=>hr k (.inr (zgy.2 hk))) hev
theorem zq2 [zai] (hT:T.Ok P) {s:St} {o:Oper} {K:Ent→St→Prop} {t:TypeId} {ad x:Operand} (ho:o.op = .store t ad x) (hd:∀ d,o.dst = some d→d < G.n)
 (hk:opK P T s o (K ⟨[],.ids (zd7 (s.ev ad) ++ zd7 (s.ev x))⟩)):zjJ P T G s o K:=by
 simp only [opK,ho] at hk
 obtain ⟨hdst,ht,hk⟩:=hk
 have ops':∀ s':St,(∀ y ∈ o.op.operands,s'.ev y = s.ev y)→s'.ev ad = s.ev ad∧s'.ev x = s.ev x:=fun s' hev=>⟨hev _ (by simp [ho,Op.operands]),hev _ (by simp [ho,Op.operands])⟩
 split at hk
 ·rename_i k ver off hev
  obtain ⟨hver,hk⟩:=hk
  have hin:zdA (zd7 (s.ev ad) ++ zd7 (s.ev x)) k:=by rw [hev];exact zeB (zbV _)
  have hput:∀ (s':St) (p:PV),s'.put o.dst p = s':=fun s' p=>by rw [hdst];rfl
  split at hk
  ·rename_i bt c hkind
   obtain ⟨new,⟨h1,h2,h3,hk⟩,hin2,hc⟩:=zg7 hk
   refine ze1 hT hd (rd:=[]) (val:=.junk) (fz:=[]) (d:=k) (r:=⟨ver,.box bt (spl c off new)⟩) hin (by simp) (by rw [hput,← zl7];exact hk) fun s' _ hl hev'=>?_
   obtain ⟨e1,e2⟩:=ops' s' hev'
   rw [hput,← zl7]
   simp only [opK,ho]
   refine ⟨hdst,ht,?_⟩
   rw [e1,hev,e2]
   have hk':=hl k hin
   simp only [hk']
   refine ⟨hver,?_⟩
   simp only [hkind]
   rw [zd8 (rw:=s.rw) (fun j hj=>hl j (zbw hj))]
   exact hc _ ⟨h1,h2,fun p hp=>zpQ (fun j hj=>hl j (zbw (ztZ hj (hin2 p hp)))) (h3 p hp),rfl⟩
  ·rename_i e sz c hkind
   obtain ⟨new,fz,⟨h1,h2,h3,hk⟩,hf,hc⟩:=zpP hk
   refine ze1 hT hd (rd:=[]) (val:=.junk) (fz:=fz) (d:=k) (r:=⟨ver,.sli e sz false (spl c off new)⟩) hin (fun j hj=>zbw (hf j hj)) (by rw [hput,← zt1];exact hk) fun s' _ hl hev'=>?_
   obtain ⟨e1,e2⟩:=ops' s' hev'
   rw [hput,← zt1]
   simp only [opK,ho]
   refine ⟨hdst,ht,?_⟩
   rw [e1,hev,e2]
   have hk':=hl k hin
   simp only [hk']
   refine ⟨hver,?_⟩
   simp only [hkind]
   have hc':=hc s'.rw (fun j hj=>hl j (zbw hj))
   unfold zcQ at hc' ⊢
   split at hc'
   ·obtain ⟨q1,rfl,rfl⟩:=hc';exact ⟨q1,h1,h2,h3,rfl⟩
   ·obtain ⟨q1,rfl,rfl⟩:=hc';exact ⟨q1,h1,h2,h3,rfl⟩
   ·obtain ⟨q1,q2,hc'⟩:=hc'
    refine ⟨q1,q2,?_⟩
    split at hc'
    ·obtain ⟨rfl,rfl⟩:=hc';exact ⟨h1,h2,h3,rfl⟩
    ·obtain ⟨rfl,rfl⟩:=hc';exact ⟨h1,h2,h3,rfl⟩
    ·exact hc'.elim
   ·obtain ⟨q1,rfl,rfl⟩:=hc';exact ⟨q1,h1,h2,h3,rfl⟩
   ·exact hc'.elim
  ·rename_i e c hkind
   obtain ⟨new,⟨h1,h2,h3,hk⟩,hin2,hc⟩:=zg7 hk
   refine ze1 hT hd (rd:=[]) (val:=.junk) (fz:=[]) (d:=k) (r:=⟨ver,.tab e (spl c off new)⟩) hin (by simp) (by rw [hput,← zl7];exact hk) fun s' _ hl hev'=>?_
   obtain ⟨e1,e2⟩:=ops' s' hev'
   rw [hput,← zl7]
   simp only [opK,ho]
   refine ⟨hdst,ht,?_⟩
   rw [e1,hev,e2]
   have hk':=hl k hin
   simp only [hk']
   refine ⟨hver,?_⟩
   simp only [hkind]
   rw [zd8 (rw:=s.rw) (fun j hj=>hl j (zbw hj))]
   exact hc _ ⟨h1,h2,fun p hp=>zpQ (fun j hj=>hl j (zbw (ztZ hj (hin2 p hp)))) (h3 p hp),rfl⟩
  ·exact hk.elim
 ·exact hk.elim
theorem zjK [zai] (hT:T.Ok P) {s:St} {o:Oper} {K:Ent→St→Prop} {d:Nat} {kd:RK} {p:Nat→PV} {rd:List Nat} (hdst:o.dst = some d) (hd:∀ d,o.dst = some d→d < G.n) (h1:K ⟨rd,.ids o.dst.toList⟩ (zcR s d kd p))
 (h2:∀ s':St,(∀ k,zdA rd k→s'.rw k = s.rw k)→(∀ y ∈ o.op.operands,s'.ev y = s.ev y)→opK P T s' o (· = zcR s' d kd p)):zjJ P T G s o K:=by
 have hin:zdA o.dst.toList d:=by rw [hdst];exact ziw (by simp)
 refine ze1 hT hd (val:=p ((s.rw d).ver + 1)) (fz:=[]) (d:=d) (r:=⟨(s.rw d).ver + 1,kd⟩) hin (by simp) (by rw [zix] at h1;rw [hdst] at h1 ⊢;exact h1) fun s' hr hl hev=>?_
 have:=h2 s' hr hev
 rw [zix,hl d hin,← hdst] at this
 exact this
theorem zCP [zai] (hT:T.Ok P) {s:St} {o:Oper} {K:Ent→St→Prop} (hd:∀ d,o.dst = some d→d < G.n) (hk:dK P T s o K):zjJ P T G s o K:=by
 have read:(zep T s.rw s.ev o.op fun p=>K ⟨zmS s o,.ids []⟩ (s.put o.dst p))→zjJ P T G s o K:=fun hk=>by
  obtain ⟨p,hp,hq⟩:=zxZ hk
  refine ⟨⟨p,s.rw,⟨zmS s o,.ids []⟩⟩,hp,fun _ _=>rfl,fun s' hr hev=>?_⟩
  have e:s'.stepIn o ⟨p,s.rw,⟨zmS s o,.ids []⟩⟩ = s'.put o.dst p:=by
   unfold St.stepIn
   simp only [Tc.has,List.any_nil,Bool.false_eq_true,if_false]
  rw [e]
  have hq':zep T (St.mk s.sl s'.rw).rw (St.mk s.sl s'.rw).ev o.op (· = p):=by
   cases hf:zmV o with
   | true=>exact zu1 hf hq
   | false =>
     refine (zu0 (rw:=s.rw) (rw':=s'.rw) (ev:=s.ev) (fun x hx k hk=>hr k (.inl (zdV ?_))) _).mpr hq
     simp only [zmS,hf]
     exact zdU (List.mem_map.2 ⟨x,by simpa using hx,rfl⟩) hk
  obtain ⟨q,rfl,hy⟩:=zu2 (G:=G) hT hq'
  exact (hy.congr (s1:=s') rfl hev).effects hd
 unfold dK at hk
 split at hk
 ·rename_i t ad x ho;exact zq2 hT ho hd hk
 ·rename_i t ho
  simp only [opK,ho] at hk
  split at hk
  ·rename_i d hdst
   refine zjK hT hdst hd hk.2 fun s' _ _=>?_
   simp only [opK,ho,hdst]
   exact ⟨hk.1,trivial⟩
  ·exact hk.elim
 ·rename_i t x ho
  simp only [opK,ho] at hk
  split at hk
  ·rename_i d hdst
   obtain ⟨new,hk,_,hc⟩:=zg7 hk
   refine zjK hT hdst hd hk fun s' hr hev=>?_
   simp only [opK,ho,hdst]
   rw [hev x (by simp [ho,Op.operands]),zd8 (rw:=s.rw) (fun j hj=>hr j hj)]
   exact hc _ rfl
  ·exact hk.elim
 ·rename_i t l c ho
  simp only [opK,ho] at hk
  split at hk
  ·rename_i d e kl nl kc nc hdst hte hl hc
   obtain ⟨h1,h2,hk⟩:=hk
   split at hk
   ·rename_i z hz
    obtain ⟨h3,h4,h5,h6,hk⟩:=hk
    refine zjK hT hdst hd hk fun s' _ hev=>?_
    simp only [opK,ho,hdst,hte,hev l (by simp [ho,Op.operands]),hev c (by simp [ho,Op.operands]),hl,hc]
    refine ⟨h1,h2,?_⟩
    simp only [hz]
    exact ⟨h3,h4,h5,h6,trivial⟩
   ·exact hk.elim
  ·exact hk.elim
 ·rename_i t n parts ho
  simp only [opK,ho] at hk
  split at hk
  ·rename_i d hdst
   unfold zyh at hk
   obtain ⟨ht,hk⟩:=hk
   split at hk
   ·rename_i e hte
    obtain ⟨he,hn,hidx,hbig,hk⟩:=hk
    obtain ⟨c,f,⟨hdf,hk⟩,hf,hp⟩:=zx0 hk
    rw [zt1] at hk
    have hin:zdA (o.dst.toList ++ (parts.toList.map fun x=>s.ev x.2).flatMap zd7) d:=zeB (by rw [hdst];exact ziw (by simp))
    refine ze1 hT hd (rd:=[]) (val:=.own d ((s.rw d).ver + 1)) (fz:=f) (d:=d) (r:=⟨(s.rw d).ver + 1,.sli e (T e).size false c⟩) hin (fun j hj=>zbw (hf j hj)) (by rw [hdst] at hk ⊢;exact hk) fun s' _ hl hev=>?_
    rw [hdst]
    simp only [opK,ho,hdst]
    refine ⟨ht,?_⟩
    simp only [hte]
    refine ⟨he,hn,hidx,hbig,?_⟩
    have hm:(parts.toList.map fun x=>s'.ev x.2) = parts.toList.map fun x=>s.ev x.2:=zFd fun x hx=>hev _ (by
     simp only [ho,Op.operands,List.mem_toArray,List.mem_map];exact ⟨x,hx,rfl⟩)
    rw [hm]
    refine hp s'.rw (fun p hp' j hj=>hl j (zbw (zdU hp' hj))) _ ⟨hdf,?_⟩
    rw [zt1,hl d hin]
   ·exact hk.elim
  ·exact hk.elim
 ·rename_i t x y ho
  unfold zFY at hk
  split at hk
  ·rename_i k ver hev
   split at hk
   ·obtain ⟨d,e,c,kd,m,hdst,hrow,h1,h2,h3,h4,hpy,h5,h6,hk⟩:=hk
    have hin:zdA [k] k:=ziw (by simp)
    refine zx1 (val:=.own k (ver + 1)) (fz:=[]) (d:=k) (r:=⟨ver + 1,.sli e 1 false (c.take m.toNat)⟩) (rd:=[]) (l:=[k]) hin (by simp) (by rw [zl7] at hk;rw [hdst];exact hk) fun s' _ hl hev'=>?_
    rw [hdst,← zl7]
    have hx':s'.ev x = .own k ver:=by rw [hev' x (by simp [ho,Op.operands]),hev]
    have hy':s'.ev y = .v (.int kd m):=by rw [hev' y (by simp [ho,Op.operands]),hpy]
    exact zCQ hT ho hdst (hd d hdst) hx' (by rw [hl k hin];exact hrow) h1 h2 h3 h4 hy' h5 h6
   ·exact read hk
  ·exact read hk
 ·rename_i c ho
  split at hk
  ·rename_i hc
   split at hk
   ·rename_i x y hargs
    simp only [opK,ho,hc] at hk
    split at hk
    ·rename_i x' y' t t2 d hargs' hty hdst
     have hxy:x' = x∧y' = y:=by rw [hargs] at hargs';simpa using hargs'.symm
     obtain ⟨rfl,rfl⟩:=hxy
     have hmem:∀ z,z = x' ∨ z = y'→z ∈ o.op.operands:=fun z hz=>by
      simp only [ho,Op.operands,Call.operands,hc,hargs]
      rcases hz with rfl | rfl <;> simp
     unfold zjV at hk
     obtain ⟨rfl,ht,hk⟩:=hk
     split at hk
     ·rename_i e hte
      obtain ⟨he,hby,hk⟩:=hk
      obtain ⟨fr,sz,news,⟨hsz,hfr,hk⟩,hdet⟩:=zrf hk
      have mk:∀ {p:PV} {k:Nat} {r:Row},zdA (o.dst.toList ++ zd7 (s.ev x')) k→K ⟨zd7 (s.ev y'),.ids (o.dst.toList ++ zd7 (s.ev x'))⟩ ((St.mk s.sl (upR [] k r s.rw)).put (some d) p)→(∀ s':St,(∀ k,zdA (o.dst.toList ++ zd7 (s.ev x')) k→s'.rw k = s.rw k)→s'.ev x' = s.ev x' →
       (match s'.ev x' with
        | .v u=>zdI u = true∧news.length * (T e).bytes ≤ 140737488355328∧zcR s' d (.sli e (T e).size false news) (fun v=>.own d v) = (St.mk s'.sl (upR [] k r s'.rw)).put (some d) p
        | .own k' ver=>(s'.rw k').ver = ver∧(match (s'.rw k').kind with
         | .nil=>news.length * (T e).bytes ≤ 140737488355328∧zc8 s' d k' (.sli e (T e).size false news) = (St.mk s'.sl (upR [] k r s'.rw)).put (some d) p
         | .sli e' sz' false c=>e' = e∧sz' = (T e).size∧(c.length + news.length) * (T e).bytes ≤ 140737488355328∧zc8 s' d k' (.sli e (T e).size false (c ++ news)) = (St.mk s'.sl (upR [] k r s'.rw)).put (some d) p
         | _=>False)
        | _=>False))→zjJ P T G s o K:=fun {p k r} hin h1 h2=>by
       refine ze1 hT hd (val:=p) (fz:=[]) (d:=k) (r:=r) hin (by simp) (by rw [hdst] at h1 ⊢;exact h1) fun s' hr hl hev=>?_
       rw [hdst]
       simp only [opK,ho,hc,hargs,hty,hdst]
       refine ⟨rfl,ht,?_⟩
       simp only [hte]
       refine ⟨he,hby,?_⟩
       rw [hev y' (hmem y' (.inr rfl)),zt0 (rw:=s.rw) (fun j hj=>hr j hj)]
       exact hdet _ ⟨hsz,hfr,h2 s' hl (hev x' (hmem x' (.inl rfl)))⟩
      split at hk
      ·rename_i u hev
       obtain ⟨h1,h2,hk⟩:=hk
       have hin:zdA (o.dst.toList ++ zd7 (s.ev x')) d:=zeB (by rw [hdst];exact ziw (by simp))
       rw [zix] at hk
       refine mk hin hk fun s' hl hx=>?_
       rw [hx,hev]
       exact ⟨h1,h2,by rw [zix,hl d hin]⟩
      ·rename_i k ver hev
       obtain ⟨hver,hk⟩:=hk
       have hin:zdA (o.dst.toList ++ zd7 (s.ev x')) k:=zbw (by rw [hev];exact zbV _)
       split at hk
       ·rename_i hkind
        obtain ⟨h1,hk⟩:=hk
        rw [ziy] at hk
        refine mk hin hk fun s' hl hx=>?_
        rw [hx,hev]
        simp only [hl k hin]
        refine ⟨hver,?_⟩
        simp only [hkind]
        exact ⟨h1,by rw [ziy,hl k hin]⟩
       ·rename_i e' sz' c' hkind
        obtain ⟨h1,h2,h3,hk⟩:=hk
        rw [ziy] at hk
        refine mk hin hk fun s' hl hx=>?_
        rw [hx,hev]
        simp only [hl k hin]
        refine ⟨hver,?_⟩
        simp only [hkind]
        exact ⟨h1,h2,h3,by rw [ziy,hl k hin]⟩
       ·exact hk.elim
      ·exact hk.elim
     ·exact hk.elim
    ·exact hk.elim
   ·exact hk.elim
  ·
   rename_i f hc
   simp only [nK,ho,hc] at hk
   have args:∀ s':St,(∀ k,zdA ((c.args.toList.map s.ev).flatMap (zdW s.rw zfi) ++ zdW s.rw (zfi + 1) (s.ev f)) k→s'.rw k = s.rw k)→(∀ y ∈ o.op.operands,s'.ev y = s.ev y)→∀ g caps,s.ev f = .clo g caps →
    s'.ev f = s.ev f∧(c.args.toList.map fun x=>zcl s'.rw zfi (s'.ev x)) ++ caps.map (zcl s'.rw zfi) = (c.args.toList.map fun x=>zcl s.rw zfi (s.ev x)) ++ caps.map (zcl s.rw zfi):=fun s' hr hev g caps hf =>
    ⟨hev f (by simp [ho,Op.operands,Call.operands,hc]),by
     congr 1
     ·refine List.map_congr_left fun x hx=>?_
      rw [hev x (by simp [ho,Op.operands,Call.operands,hc];exact .inr (by simpa using hx))]
      exact zpO _ _ fun k hk=>hr k (zeB (zdU (List.mem_map.2 ⟨x,hx,rfl⟩) hk))
     ·refine List.map_congr_left fun q hq=>zpO _ _ fun k hk=>hr k (zbw ?_)
      rw [hf]
      exact zdU hq hk⟩
   cases hdst:o.dst with
   | some d =>
     simp only [hdst] at hk
     rcases hk with hk | hk
     case inr =>
      unfold tdK at hk
      split at hk
      ·rename_i g caps hev
       rcases hk with ⟨k,v,e,e2,p,rows,rows',args,r,hat,hg,ht,hn,hdk,hk⟩ | ⟨k,vj,e,x,head,out,ok,fr,haf,hraw,hj,hpl,hdk,hjl,hk⟩ | ⟨rd,k,x,r,hcall,hdk,hk⟩
       ·have has:∀ j,(Tc.ids [d,k]).has j = true ↔ (j % 1000 = d % 1000 ∨ j % 1000 = k % 1000):=fun j=>by
         simp only [Tc.has,List.any_cons,List.any_nil,Bool.or_false,Bool.or_eq_true,beq_iff_eq]
         exact ⟨fun h=>h.imp Eq.symm Eq.symm,fun h=>h.imp Eq.symm Eq.symm⟩
        have hmod:∀ j,InT k p j→j % 1000 = k % 1000:=fun j hj=>by
         rcases hj with rfl | ⟨x,_,rfl⟩
         ·rfl
         ·rw [zbx];omega
        have hlm:∀ i,zal d i % 1000 = d % 1000:=fun i=>by unfold zal;omega
        refine ⟨⟨zaT (fun j=>(za1 s.rw k p j).ver) d r 0,zav (za1 s.rw k p) d (leaves r) 0,⟨[],.ids [d,k]⟩⟩,?_,fun j hj=>?_,fun s' hr hev'=>?_⟩
        ·have e1:s.step o ⟨zaT (fun j=>(za1 s.rw k p j).ver) d r 0,zav (za1 s.rw k p) d (leaves r) 0,⟨[],.ids [d,k]⟩⟩ = zam (s.killed k p) d r:=by
          unfold St.step zam;rw [hdst];rfl
         rw [e1];exact hk
        ·have hj:¬ (j % 1000 = d % 1000 ∨ j % 1000 = k % 1000):=fun h=>by
          have:=(has j).2 h
          rw [this] at hj;cases hj
         have h2:=(zbD (R:=za1 s.rw k p) (R':=za1 s.rw k p) (d:=d) (fun _=>rfl) j (leaves r) 0).2 fun ⟨m,_,hm⟩=>hj (.inl (by rw [hm];exact hlm _))
         show zav (za1 s.rw k p) d (leaves r) 0 j = s.rw j
         rw [h2.1,zb9 fun h=>hj (.inr (hmod j h))]
        ·have hag:∀ j,(j % 1000 = d % 1000 ∨ j % 1000 = k % 1000)→s'.rw j = s.rw j:=fun j hj=>hr j (.inr ((has j).2 hj))
         have hkag:∀ j,(j % 1000 = d % 1000 ∨ j % 1000 = k % 1000)→za1 s.rw k p j = za1 s'.rw k p j:=fun j hj=>by unfold za1;rw [hag j hj]
         have e1:s'.stepIn o ⟨zaT (fun j=>(za1 s.rw k p j).ver) d r 0,zav (za1 s.rw k p) d (leaves r) 0,⟨[],.ids [d,k]⟩⟩ = zam (s'.killed k p) d r:=by
          unfold St.stepIn zam
          rw [hdst,zdB (vr':=fun j=>(za1 s'.rw k p j).ver) (fun i=>by rw [hkag _ (.inl (hlm i))])]
          congr 2
          funext j
          obtain ⟨a1,a2⟩:=zbD (R:=za1 s.rw k p) (R':=za1 s'.rw k p) (d:=d) (fun i=>hkag _ (.inl (hlm i))) j (leaves r) 0
          by_cases hl:∃ m,m < (leaves r).length∧j = zal d (0 + m)
          ·have hb:(Tc.ids [d,k]).has j = true:=(has j).2 (.inl (by obtain ⟨m,_,rfl⟩:=hl;exact hlm _))
           simp only [hb,if_true]
           exact a1 hl
          ·obtain ⟨b1,b2⟩:=a2 hl
           show _ = zav (za1 s'.rw k p) d (leaves r) 0 j
           rw [b2]
           by_cases hb:(Tc.ids [d,k]).has j = true
           ·simp only [hb,if_true]
            rw [b1];exact hkag j ((has j).1 hb)
           ·simp only [hb,if_false]
            exact (zb9 fun h=>hb ((has j).2 (.inr (hmod j h)))).symm
         rw [e1]
         have hargs:c.args.toList.map s'.ev = c.args.toList.map s.ev:=List.map_congr_left fun x hx=>hev' x (by simp [ho,Op.operands,Call.operands,hc];exact .inr (by simpa using hx))
         have hf':s'.ev f = .clo g caps:=by rw [hev' f (by simp [ho,Op.operands,Call.operands,hc]),hev]
         refine zu9 (rows:=rows) ho hc hdst (hd d hdst) hf' hat (by rw [hargs];exact hg) ⟨?_,ht.len,fun i hi=>?_⟩ hn hdk
         ·rw [hag k (.inr rfl)];exact ht.top
         ·rw [hag (sid k (p.getD i 0)) (.inr (zaa _ _))];exact ht.row i hi
       ·have has:∀ j,(Tc.ids [d,k]).has j = true ↔ (j % 1000 = d % 1000 ∨ j % 1000 = k % 1000):=fun j=>by
         simp only [Tc.has,List.any_cons,List.any_nil,Bool.or_false,Bool.or_eq_true,beq_iff_eq]
         exact ⟨fun h=>h.imp Eq.symm Eq.symm,fun h=>h.imp Eq.symm Eq.symm⟩
        have hmod:∀ j,InT k [] j→j % 1000 = k % 1000:=fun j hj=>by
         rcases hj with rfl | ⟨x,_,rfl⟩
         ·rfl
         ·rw [zbx];omega
        have hlm:∀ i,zal d i % 1000 = d % 1000:=fun i=>by unfold zal;omega
        refine ⟨⟨zaT (fun j=>(za1 s.rw k [] j).ver) d (rvF e out ok) 0,zav (za1 s.rw k []) d (leaves (rvF e out ok)) 0,⟨[],.ids [d,k]⟩⟩,?_,fun j hj=>?_,fun s' hr hev'=>?_⟩
        ·have e1:s.step o ⟨zaT (fun j=>(za1 s.rw k [] j).ver) d (rvF e out ok) 0,zav (za1 s.rw k []) d (leaves (rvF e out ok)) 0,⟨[],.ids [d,k]⟩⟩ = zam (s.killed k []) d (rvF e out ok):=by
          unfold St.step zam;rw [hdst];rfl
         rw [e1];exact hk
        ·have hj:¬ (j % 1000 = d % 1000 ∨ j % 1000 = k % 1000):=fun h=>by
          have:=(has j).2 h
          rw [this] at hj;cases hj
         have h2:=(zbD (R:=za1 s.rw k []) (R':=za1 s.rw k []) (d:=d) (fun _=>rfl) j (leaves (rvF e out ok)) 0).2 fun ⟨m,_,hm⟩=>hj (.inl (by rw [hm];exact hlm _))
         show zav (za1 s.rw k []) d (leaves (rvF e out ok)) 0 j = s.rw j
         rw [h2.1,zb9 fun h=>hj (.inr (hmod j h))]
        ·have hag:∀ j,(j % 1000 = d % 1000 ∨ j % 1000 = k % 1000)→s'.rw j = s.rw j:=fun j hj=>hr j (.inr ((has j).2 hj))
         have hkag:∀ j,(j % 1000 = d % 1000 ∨ j % 1000 = k % 1000)→za1 s.rw k [] j = za1 s'.rw k [] j:=fun j hj=>by unfold za1;rw [hag j hj]
         have e1:s'.stepIn o ⟨zaT (fun j=>(za1 s.rw k [] j).ver) d (rvF e out ok) 0,zav (za1 s.rw k []) d (leaves (rvF e out ok)) 0,⟨[],.ids [d,k]⟩⟩ = zam (s'.killed k []) d (rvF e out ok):=by
          unfold St.stepIn zam
          rw [hdst,zdB (vr':=fun j=>(za1 s'.rw k [] j).ver) (fun i=>by rw [hkag _ (.inl (hlm i))])]
          congr 2
          funext j
          obtain ⟨a1,a2⟩:=zbD (R:=za1 s.rw k []) (R':=za1 s'.rw k []) (d:=d) (fun i=>hkag _ (.inl (hlm i))) j (leaves (rvF e out ok)) 0
          by_cases hl:∃ m,m < (leaves (rvF e out ok)).length∧j = zal d (0 + m)
          ·have hb:(Tc.ids [d,k]).has j = true:=(has j).2 (.inl (by obtain ⟨m,_,rfl⟩:=hl;exact hlm _))
           simp only [hb,if_true]
           exact a1 hl
          ·obtain ⟨b1,b2⟩:=a2 hl
           show _ = zav (za1 s'.rw k []) d (leaves (rvF e out ok)) 0 j
           rw [b2]
           by_cases hb:(Tc.ids [d,k]).has j = true
           ·simp only [hb,if_true]
            rw [b1];exact hkag j ((has j).1 hb)
           ·simp only [hb,if_false]
            exact (zb9 fun h=>hb ((has j).2 (.inr (hmod j h)))).symm
         rw [e1]
         have hargs:c.args.toList.map s'.ev = c.args.toList.map s.ev:=List.map_congr_left fun x hx=>hev' x (by simp [ho,Op.operands,Call.operands,hc];exact .inr (by simpa using hx))
         have hf':s'.ev f = .clo g caps:=by rw [hev' f (by simp [ho,Op.operands,Call.operands,hc]),hev]
         exact zu3 ho hc hdst (hd d hdst) hf' haf (by rw [hargs];exact hraw) (.inl ⟨fr,rfl⟩) (by rw [hag k (.inr rfl)];exact hj) hpl (fun h=>hdk (by rw [h])) hjl
       ·have has:∀ j,(Tc.ids [d,k]).has j = true ↔ (j % 1000 = d % 1000 ∨ j % 1000 = k % 1000):=fun j=>by
         simp only [Tc.has,List.any_cons,List.any_nil,Bool.or_false,Bool.or_eq_true,beq_iff_eq]
         exact ⟨fun h=>h.imp Eq.symm Eq.symm,fun h=>h.imp Eq.symm Eq.symm⟩
        have hlm:∀ i,zal d i % 1000 = d % 1000:=fun i=>by unfold zal;omega
        refine ⟨⟨zaT (fun j=>((s.row k r).rw j).ver) d x 0,zav (s.row k r).rw d (leaves x) 0,⟨rd,.ids [d,k]⟩⟩,?_,fun j hj=>?_,fun s' hr hev'=>?_⟩
        ·have e1:s.step o ⟨zaT (fun j=>((s.row k r).rw j).ver) d x 0,zav (s.row k r).rw d (leaves x) 0,⟨rd,.ids [d,k]⟩⟩ = zam (s.row k r) d x:=by
          unfold St.step zam;rw [hdst];rfl
         rw [e1];exact hk
        ·have hj:¬ (j % 1000 = d % 1000 ∨ j % 1000 = k % 1000):=fun h=>by
          have:=(has j).2 h
          rw [this] at hj;cases hj
         have h2:=(zbD (R:=(s.row k r).rw) (R':=(s.row k r).rw) (d:=d) (fun _=>rfl) j (leaves x) 0).2 fun ⟨m,_,hm⟩=>hj (.inl (by rw [hm];exact hlm _))
         show zav (s.row k r).rw d (leaves x) 0 j = s.rw j
         rw [h2.1];exact if_neg fun h=>hj (.inr (by rw [h]))
        ·have hkag:∀ j,(j % 1000 = d % 1000 ∨ j % 1000 = k % 1000)→(s.row k r).rw j = (s'.row k r).rw j:=fun j hj=>by
          show (if j = k then r else s.rw j) = (if j = k then r else s'.rw j)
          rw [hr j (.inr ((has j).2 hj))]
         have e1:s'.stepIn o ⟨zaT (fun j=>((s.row k r).rw j).ver) d x 0,zav (s.row k r).rw d (leaves x) 0,⟨rd,.ids [d,k]⟩⟩ = zam (s'.row k r) d x:=by
          unfold St.stepIn zam
          rw [hdst,zdB (vr':=fun j=>((s'.row k r).rw j).ver) (fun i=>by rw [hkag _ (.inl (hlm i))])]
          congr 2
          funext j
          obtain ⟨a1,a2⟩:=zbD (R:=(s.row k r).rw) (R':=(s'.row k r).rw) (d:=d) (fun i=>hkag _ (.inl (hlm i))) j (leaves x) 0
          by_cases hl:∃ m,m < (leaves x).length∧j = zal d (0 + m)
          ·have hb:(Tc.ids [d,k]).has j = true:=(has j).2 (.inl (by obtain ⟨m,_,rfl⟩:=hl;exact hlm _))
           simp only [hb,if_true]
           exact a1 hl
          ·obtain ⟨b1,b2⟩:=a2 hl
           show _ = zav (s'.row k r).rw d (leaves x) 0 j
           rw [b2]
           by_cases hb:(Tc.ids [d,k]).has j = true
           ·simp only [hb,if_true]
            rw [b1];exact hkag j ((has j).1 hb)
           ·simp only [hb,if_false]
            exact (if_neg fun h=>hb ((has j).2 (.inr (by rw [h])))).symm
         rw [e1]
         have hargs:c.args.toList.map s'.ev = c.args.toList.map s.ev:=List.map_congr_left fun x hx=>hev' x (by simp [ho,Op.operands,Call.operands,hc];exact .inr (by simpa using hx))
         have hf':s'.ev f = .clo g caps:=by rw [hev' f (by simp [ho,Op.operands,Call.operands,hc]),hev]
         intro a w hs K' Q hK
         refine zfL (K:=fun S=>S = zam (s'.row k r) d x) ho hc (fun y hy=>by rw [hdst] at hy;cases hy;exact hd d hdst) ?_ hs fun s1 a' w' hw hs1=>hK a' w' (hw ▸ hs1)
         rw [hf']
         show askG P s' g (c.args.toList.map s'.ev ++ caps) o.dst _
         rw [hargs,hdst]
         exact hcall s' (hr k (.inr ((has k).2 (.inr rfl)))) (fun a ha=>hr a (.inl (List.any_eq_true.2 ⟨a,ha,by simp⟩))) _ rfl
      ·exact hk.elim
     unfold zec at hk
     split at hk
     ·rename_i g caps hev
      obtain ⟨rv,hac,hk⟩:=hk
      have vers:∀ s':St,(∀ k,(Tc.res d).has k = true→s'.rw k = s.rw k)→zaT (fun k=>(s'.rw k).ver) d rv 0 = zaT (fun k=>(s.rw k).ver) d rv 0∧∀ k,zav s'.rw d (leaves rv) 0 k = if (Tc.res d).has k = true then zav s.rw d (leaves rv) 0 k else s'.rw k:=fun s' hr=>by
       have hleaf:∀ i,s'.rw (zal d i) = s.rw (zal d i):=fun i=>hr _ (by simp [Tc.has,zal])
       refine ⟨?_,fun k=>?_⟩
       ·have e0:∀ (r:RV) (i:Nat),zbN (fun k=>(s'.rw k).ver) d r i = zbN (fun k=>(s.rw k).ver) d r i:=fun r i=>by
         cases r <;> simp only [zbN,hleaf]
        have eL:∀ (f g:RV→Nat→PV),(∀ r i,f r i = g r i)→∀ l i,zbg f l i = zbg g l i:=fun f g h l=>by
         induction l with
         | nil=>intro i;rfl
         | cons r rs ih=>intro i;simp only [zbg,h,ih]
        have e1:∀ (r:RV) (i:Nat),zbW (fun k=>(s'.rw k).ver) d r i = zbW (fun k=>(s.rw k).ver) d r i:=fun r i=>by
         cases r <;> simp only [zbW,e0,eL _ _ e0]
        cases rv <;> simp only [zaT,e1,e0,eL _ _ e1]
       ·have:∀ (ls:List (TypeId × Option Nat × List PV)) (i:Nat),zav s'.rw d ls i k = if (Tc.res d).has k = true then zav s.rw d ls i k else s'.rw k:=by
         intro ls
         induction ls with
         | nil =>
           intro i
           simp only [zav]
           by_cases hk:(Tc.res d).has k = true
           ·rw [if_pos hk];exact hr k hk
           ·rw [if_neg hk]
         | cons l ls ih =>
           intro i
           obtain ⟨e,sz,c⟩:=l
           simp only [zav]
           by_cases he:k = zal d i
           ·subst he
            rw [zaj,zaj,if_pos (by simp [Tc.has,zal]),hleaf]
            have hk:zbE s'.rw d i e sz c = zbE s.rw d i e sz c:=by
             cases sz <;> simp [zbE,zaO,hleaf]
            rw [hk]
           ·rw [zan _ _ he,zan _ _ he];exact ih (i + 1)
        exact this _ _
      refine ⟨⟨zaT (fun k=>(s.rw k).ver) d rv 0,zav s.rw d (leaves rv) 0,⟨(c.args.toList.map s.ev).flatMap (zdW s.rw zfi) ++ zdW s.rw (zfi + 1) (s.ev f),.res d⟩⟩,?_,fun k hn=>?_,fun s' hr hev'=>?_⟩
      ·have e:s.step o ⟨zaT (fun k=>(s.rw k).ver) d rv 0,zav s.rw d (leaves rv) 0,⟨(c.args.toList.map s.ev).flatMap (zdW s.rw zfi) ++ zdW s.rw (zfi + 1) (s.ev f),.res d⟩⟩ = zam s d rv:=by unfold St.step zam;rw [hdst]
       rw [e];exact hk
      ·have hn:(Tc.res d).has k = false:=hn
       have:=(vers s fun _ _=>rfl).2 k
       rw [hn] at this
       simpa using this
      ·obtain ⟨v1,v2⟩:=vers s' fun k hk=>hr k (.inr hk)
       have e:s'.stepIn o ⟨zaT (fun k=>(s.rw k).ver) d rv 0,zav s.rw d (leaves rv) 0,⟨(c.args.toList.map s.ev).flatMap (zdW s.rw zfi) ++ zdW s.rw (zfi + 1) (s.ev f),.res d⟩⟩ = zam s' d rv:=by
        unfold St.stepIn zam
        rw [hdst,v1]
        congr 2
        funext k
        exact (v2 k).symm
       rw [e]
       obtain ⟨a1,a2⟩:=args s' (fun k hk=>hr k (.inl (zdV hk))) hev' g caps hev
       obtain ⟨s2,rfl,he⟩:=zmf (K:=(· = zam s' d rv)) (s:=s') ho hc hdst (hd d hdst) (by
        unfold zec
        rw [a1,hev]
        simp only
        rw [a2]
        exact ⟨rv,hac,rfl⟩)
       exact he
     ·exact hk.elim
   | none =>
     simp only [hdst] at hk
     unfold zec at hk
     split at hk
     ·rename_i g caps hev
      obtain ⟨rv,hac,hk⟩:=hk
      refine ⟨⟨.junk,s.rw,⟨(c.args.toList.map s.ev).flatMap (zdW s.rw zfi) ++ zdW s.rw (zfi + 1) (s.ev f),.ids []⟩⟩,?_,fun k _=>rfl,fun s' hr hev'=>?_⟩
      ·have e:s.step o ⟨.junk,s.rw,⟨(c.args.toList.map s.ev).flatMap (zdW s.rw zfi) ++ zdW s.rw (zfi + 1) (s.ev f),.ids []⟩⟩ = s:=by unfold St.step St.put;rw [hdst]
       rw [e];exact hk
      ·have e:s'.stepIn o ⟨.junk,s.rw,⟨(c.args.toList.map s.ev).flatMap (zdW s.rw zfi) ++ zdW s.rw (zfi + 1) (s.ev f),.ids []⟩⟩ = s':=by
        unfold St.stepIn St.put
        rw [hdst]
        simp only [Tc.has,List.any_nil,Bool.false_eq_true,if_false]
       rw [e]
       obtain ⟨a1,a2⟩:=args s' (fun k hk=>hr k (.inl (zdV hk))) hev' g caps hev
       obtain ⟨s2,rfl,he⟩:=ziz (G:=G) (K:=(· = s')) (s:=s') (o:=o) hT hd (by
        simp only [opK,ho,hc,hdst]
        refine .inl ?_
        unfold zec
        rw [a1,hev]
        simp only
        rw [a2]
        exact ⟨rv,hac,trivial⟩)
       exact he
     ·exact hk.elim
  ·exact read hk
 ·exact read hk
end
end Go.Abs

/- DERIVED by an AI agent. Code; a function's contract from its text. No program in sight. -/
namespace Go.Abs
set_option linter.unusedSimpArgs false
set_option linter.unusedVariables false
theorem zB5 {s:St} {d:Nat} {p:PV} (h:s.sl d = p):s.put (some d) p = s:=by
 unfold St.put
 have:(fun i=>if i = d then p else s.sl i) = s.sl:=by
  funext i
  by_cases e:i = d
  ·rw [if_pos e,e,h]
  ·rw [if_neg e]
 show ({ sl:=fun i=>if i = d then p else s.sl i,rw:=s.rw }:St) = s
 rw [this]
section
variable {P:Program} {T:Tab} {G:Ghost} {ops:Array Oper}
theorem zuV [zai] (hT:T.Ok P):∀ (l:List Oper) (acc:List Ent) (s:St) (K:St→Prop),(∀ o ∈ l,∀ d,o.dst = some d→d < G.n)→zeC P T ops acc l s K→∃ tr s',Tr P G ops l s tr s'∧zkP ops (acc.reverse ++ tr.map (·.e)) = true∧K s':=by
 intro l
 induction l with
 | nil=>intro acc s K _ h;exact ⟨[],s,.nil s,by simpa using h.1,h.2⟩
 | cons o os ih =>
   intro acc s K hd hk
   have hd0:=hd o (by simp)
   have hds:∀ o ∈ os,∀ d,o.dst = some d→d < G.n:=fun o ho=>hd o (by simp [ho])
   have run:∀ (hg:zzN ops s o = some true),dK P T s o (fun e s2=>zeC P T ops (e :: acc) os s2 K)→∃ tr s',Tr P G ops (o :: os) s tr s'∧zkP ops (acc.reverse ++ tr.map (·.e)) = true∧K s':=fun hg hk=>by
    obtain ⟨x,hx,hr,he⟩:=zCP (G:=G) hT hd0 hk
    obtain ⟨tr,s',ht,hl,hk'⟩:=ih _ _ K hds hx
    exact ⟨x :: tr,s',.cons (.step hg hr he) ht,by simpa using hl,hk'⟩
   have skp:zzN ops s o = some false→zeC P T ops (⟨[],.ids []⟩ :: acc) os (s.put o.dst (.v undef)) K→∃ tr s',Tr P G ops (o :: os) s tr s'∧zkP ops (acc.reverse ++ tr.map (·.e)) = true∧K s':=fun hg hk=>by
    obtain ⟨tr,s',ht,hl,hk'⟩:=ih _ _ K hds hk
    have e:s.step o ⟨.v undef,s.rw,⟨[],.ids []⟩⟩ = s.put o.dst (.v undef):=by unfold St.step;rfl
    exact ⟨⟨.v undef,s.rw,⟨[],.ids []⟩⟩ :: tr,s',.cons (.skip hg rfl rfl rfl) (by rw [e];exact ht),by simpa using hl,hk'⟩
   simp only [zeC,zt4] at hk
   cases hg:o.guard with
   | none =>
     simp only [hg] at hk
     exact run (by simp [zzN,hg]) hk
   | some jw =>
     obtain ⟨j,want⟩:=jw
     simp only [hg] at hk
     split at hk
     ·rename_i d hdj
      split at hk
      ·rename_i b hb
       by_cases hbw:b = want
       ·have h1:=hk.1 hbw
        rw [zB5 (by rw [hb,hbw])] at h1
        exact run (by simp [zzN,hg,hdj,hb,hbw]) h1
       ·have hbw':b = !want:=by cases b <;> cases want <;> simp_all
        have h2:=hk.2 hbw'
        rw [zB5 (s:=s) (by rw [hb,hbw'])] at h2
        exact skp (by simp [zzN,hg,hdj,hb,hbw]) h2
      ·rename_i cs hb
       exact skp (by simp [zzN,hg,hdj,hb]) hk
      ·exact hk.elim
     ·exact hk.elim
theorem zuW [zai] (hT:T.Ok P) (hm:P.follows .mixedOrders = true) {id:Nat} (ho:zjN ops = true) {s:St} {K:St→Prop} (hd:∀ o ∈ ops,∀ d,o.dst = some d→d < G.n) (hk:zeC P T ops [] ops.toList s K) {Q:Exit→Act→World→Prop}
 (hQ:∀ s' a' w',K s'→Sim G s' a' w'→Q .normal a' w') {a:Act} {w:World} (hs:Sim G s a w):(Code.region id ops true).wp P Q a w:=by
 obtain ⟨tr,s',ht,hln,hk'⟩:=zuV (G:=G) hT ops.toList [] s K (fun o h=>hd o (by simpa using h)) hk
 refine wp_region_any hm ?_
 obtain ⟨E,hsE⟩:=hs
 have hs1:Sim G s a w.drew:=⟨E,hsE.ext (Ext.drew w)⟩
 have h0:∀ k,(Array.replicate ops.size false).getD k false = false:=fun k=>by
  rw [Array.getD_eq_getD_getElem?,Array.getElem?_replicate];split <;> rfl
 have e0:(fun k=>(Array.replicate ops.size false).getD k false) = fun _=>false:=funext h0
 refine zx6 (zu6 ho) (zAa (by simpa using hln)) ht hd (fun a w h=>hQ s' a w hk' h) ops.size _ a w.drew (by simp) ?_ ?_ ?_
 ·rw [e0];intro j oj hj h;cases h
 ·rw [e0]
  have l0:∀ n (p:Nat→Bool),zbm n (fun k=>false && p k) = none:=by
   intro n p;induction n with
   | zero=>rfl
   | succ n ih=>simp only [zbm];simpa using ih
  have e:stD ops tr s (fun _=>false) = s:=by
   unfold stD
   have e1:zh5 ops.toList tr s (fun _=>false) = s.sl:=by funext t;unfold zh5;rw [l0]
   have e2:zh6 ops.toList tr s (fun _=>false) = s.rw:=by funext k;unfold zh6;rw [l0]
   rw [e1,e2]
  rw [e];exact hs1
 ·have:(Array.replicate ops.size false).toList.length = ops.size:=by simp
  exact Nat.le_trans List.count_le_length (Nat.le_of_eq this)
end
inductive AX where
 | norm
 | exit (id:Nat)
 | ret
def AX.blk (id:Nat) (Q:AX→St→Prop):AX→St→Prop
 | .norm,s=>Q .norm s
 | .ret,s=>Q .ret s
 | .exit i,s=>if i = id then Q .norm s else Q (.exit i) s
def AX.seq (K:St→Prop) (Q:AX→St→Prop):AX→St→Prop
 | .norm,s=>K s
 | .ret,s=>Q .ret s
 | .exit i,s=>Q (.exit i) s
def zpL [zai] (body:(AX→St→Prop)→St→Prop) (Q:AX→St→Prop) (s:St):Prop :=
 ∃ (α:Type) (I:α→St→Prop) (μ:α→Nat),(∃ x s0,Wk s s0∧I x s0) ∧
  ∀ x s1,I x s1→body (AX.seq (fun s2=>∃ x' s3,Wk s2 s3∧I x' s3∧μ x' < μ x) Q) s1
def cwp [zai] (P:Program) (T:Tab):Code→(AX→St→Prop)→St→Prop
 | .skip,Q,s=>Q .norm s
 | .region _ ops draw,Q,s=>(match draw with
   | false=>zq7 P T ops ops.toList s (Q .norm)
   | true=>zjN ops = true∧zeC P T ops [] ops.toList s (Q .norm))
 | .seq x y,Q,s=>cwp P T x (AX.seq (cwp P T y Q) Q) s
 | .cond c x y,Q,s=>(match s.ev c with | .v (.bool b)=>(b = true→cwp P T x Q s)∧(b = false→cwp P T y Q s) | _=>False)
 | .block id x,Q,s=>cwp P T x (AX.blk id Q) s
 | .loop x,Q,s=>zpL (cwp P T x) Q s
 | .exit id,Q,s=>Q (.exit id) s
 | .ret,Q,s=>Q .ret s
 | .label _,Q,s=>Q .norm s
 | _,_,_=>False
def fits (n:Nat):Code→Bool
 | .region _ ops _=>ops.all fun o=>match o.dst with | some d=>decide (d < n) | none=>true
 | .seq x y=>fits n x && fits n y
 | .cond _ x y=>fits n x && fits n y
 | .block _ x=>fits n x
 | .loop x=>fits n x
 | _=>true
def zGd [zai] (G:Ghost) (Q:AX→St→Prop):Exit→Act→World→Prop
 | .normal,a,w=>∃ s,Sim G s a w∧Q .norm s
 | .exit id,a,w=>∃ s,Sim G s a w∧Q (.exit id) s
 | .ret,a,w=>∃ s,Sim G s a w∧Q .ret s
 | _,_,_=>False
section
variable {P:Program} {T:Tab} {G:Ghost}
theorem zgx [zai] (hT:T.Ok P) (hm:P.follows .mixedOrders = true):∀ (c:Code),fits G.n c = true→∀ (Q:AX→St→Prop) (s:St),cwp P T c Q s→∀ (a:Act) (w:World),Sim G s a w→c.wp P (zGd G Q) a w:=by
 intro c
 induction c with
 | skip=>intro _ Q s hk a w hs;exact wp_skip ⟨s,hs,hk⟩
 | region id ops draw =>
   intro hf Q s hk a w hs
   have hd:∀ o ∈ ops,∀ d,o.dst = some d→d < G.n:=fun o ho d hod=>by
    simp only [fits,Array.all_eq_true'] at hf
    have:=hf o ho
    rw [hod] at this
    simpa using this
   cases draw with
   | false =>
     have hk':zq7 P T ops ops.toList s (Q .norm):=hk
     exact wp_region_list (zx9 hT ops.toList s (Q .norm) (fun o h=>hd o (by simpa using h)) hk' (fun s' a' w' hq hs'=>⟨s',hs',hq⟩) a w hs)
   | true =>
     have hk':zjN ops = true∧zeC P T ops [] ops.toList s (Q .norm):=hk
     exact zuW hT hm hk'.1 hd hk'.2 (fun s' a' w' hq hs'=>⟨s',hs',hq⟩) hs
 | seq x y ihx ihy =>
   intro hf Q s hk a w hs
   simp only [fits,Bool.and_eq_true] at hf
   refine wp_seq (wp_mono (ihx hf.1 _ s hk a w hs) fun e a' w' h=>?_)
   cases e with
   | normal=>obtain ⟨s',hs',hq⟩:=h;exact ihy hf.2 Q s' hq a' w' hs'
   | exit id=>exact h
   | ret=>exact h
   | goto l=>exact h.elim
   | panic ch=>exact h.elim
   | outgrown=>exact h.elim
 | cond c x y ihx ihy =>
   intro hf Q s hk a w hs
   simp only [fits,Bool.and_eq_true] at hf
   simp only [cwp] at hk
   split at hk
   ·rename_i b hb
    obtain ⟨E,hsE⟩:=hs
    have hv:=zaB hsE.slots c
    rw [hb] at hv
    refine wp_cond hv.v_eq ?_
    cases b with
    | true=>exact ihx hf.1 Q s (hk.1 rfl) a w ⟨E,hsE⟩
    | false=>exact ihy hf.2 Q s (hk.2 rfl) a w ⟨E,hsE⟩
   ·exact hk.elim
 | block id x ih =>
   intro hf Q s hk a w hs
   refine wp_block (wp_mono (ih hf _ s hk a w hs) fun e a' w' h=>?_)
   cases e with
   | normal=>exact h
   | exit i =>
     obtain ⟨s',hs',hq⟩:=h
     simp only [Exit.inBlock]
     simp only [AX.blk] at hq
     by_cases hi:i = id
     ·rw [if_pos hi] at hq ⊢;exact ⟨s',hs',hq⟩
     ·rw [if_neg hi] at hq ⊢;exact ⟨s',hs',hq⟩
   | ret=>exact h
   | goto l=>exact h.elim
   | panic ch=>exact h.elim
   | outgrown=>exact h.elim
 | loop x ih =>
   intro hf Q s hk a w hs
   obtain ⟨α,I,μ,⟨x0,s0,hw0,hI0⟩,hround⟩:=hk
   have key:∀ n x1 s1,μ x1 = n→I x1 s1→∀ a w,Sim G s1 a w→∀ (b:Frame) (k:List Item) (cs:List Frame),
    ∃ e a' w',zGd G Q e a' w'∧Arrives P (lone (b.at a (.code x :: .inLoop x :: k)) cs w) b k cs e a' w':=by
    intro n
    induction n using Nat.strongRecOn with
    | _ n ihn =>
      intro x1 s1 hn hI a w hs b k cs
      obtain ⟨e,a₁,w₁,hq,harr⟩:=ih hf _ s1 (hround x1 s1 hI) a w hs b (.inLoop x :: k) cs
      cases e with
      | normal =>
        obtain ⟨s2,hs2,x',s3,hw3,hI3,hlt⟩:=hq
        obtain ⟨e₂,a₂,w₂,hq₂,harr₂⟩:=ihn (μ x') (hn ▸ hlt) x' s3 rfl hI3 a₁ w₁ (hw3 G a₁ w₁ hs2) b k cs
        exact ⟨e₂,a₂,w₂,hq₂,.of_steps (Steps.trans harr (.one step_inLoop)) harr₂⟩
      | exit id=>exact ⟨.exit id,a₁,w₁,hq,.pass (x:=.inLoop x) rfl (fun _ _=>.inl (by simp)) harr⟩
      | ret=>exact ⟨.ret,a₁,w₁,hq,.pass (x:=.inLoop x) rfl (fun _ _=>.inl (by simp)) harr⟩
      | goto l=>exact hq.elim
      | panic ch=>exact hq.elim
      | outgrown=>exact hq.elim
   intro b k cs
   obtain ⟨e,a',w',hq,harr⟩:=key _ x0 s0 rfl hI0 a w (hw0 G a w hs) b k cs
   exact ⟨e,a',w',hq,.of_steps (.one step_loop) harr⟩
 | exit id=>intro _ Q s hk a w hs;exact wp_exit ⟨s,hs,hk⟩
 | ret=>intro _ Q s hk a w hs;exact wp_ret ⟨s,hs,hk⟩
 | label l=>intro _ Q s hk a w hs;exact wp_label ⟨s,hs,hk⟩
 | rangeFunc _ _ _ _=>intro _ Q s hk;exact hk.elim
 | scope _ _=>intro _ Q s hk;exact hk.elim
 | goto _=>intro _ Q s hk;exact hk.elim
 | refuse _=>intro _ Q s hk;exact hk.elim
end
def zHR [zai] (P:Program) (n:Nat) (c:Code) (Q:AX→St→Prop) (s:St):Prop :=
 ∀ G:Ghost,G.n = n→∀ (a:Act) (w:World),Sim G s a w→c.wp P (zGd G Q) a w
theorem zCO [zai] {P:Program} {T:Tab} {n:Nat} {Q:AX→St→Prop} {s:St} {c:Code} (hT:T.Ok P) (hm:P.follows .mixedOrders = true) (hf:fits n c = true) (h:cwp P T c Q s):zHR P n c Q s :=
 fun G hn a w hs=>zgx hT hm c (by rw [hn];exact hf) Q s h a w hs
end Go.Abs

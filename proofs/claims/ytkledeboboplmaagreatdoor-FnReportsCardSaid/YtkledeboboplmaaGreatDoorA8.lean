/- DERIVED by an AI agent. -/
import Derived.Test.YtkledeboboplmaaGreatDoorA7
namespace Go.Abs
set_option linter.unusedSimpArgs false
def zHE:PV->List Nat | .own k _=>[k % 1000] | .ref k _ _=>[k % 1000] | _=>[]
def ze3:PV->List Nat | .own k _=>[k % 1000] | .ref k _ _=>[k % 1000] | .ag c=>c.flatMap zHE | _=>[]
def zee (l:List Nat) (k:Nat):Prop:=∃ a ∈ l,a % 1000 = k % 1000
theorem zbS (k:Nat):zee [k % 1000] k:=⟨_,List.mem_singleton.2 rfl,Nat.mod_mod _ _⟩
theorem zkP {l:List Nat} {k:Nat} (h:k ∈ l):zee l k:=⟨_,h,rfl⟩
theorem zf6 {l m:List Nat} {k:Nat} (h:zee l k):zee (l ++ m) k:=by obtain ⟨a,ha,e⟩:=h;exact ⟨a,List.mem_append.2 (.inl ha),e⟩
theorem zbH {l m:List Nat} {k:Nat} (h:zee m k):zee (l ++ m) k:=by obtain ⟨a,ha,e⟩:=h;exact ⟨a,List.mem_append.2 (.inr ha),e⟩
theorem zs9 {a:Nat} {l:List Nat} {k:Nat} (h:zee l k):zee (a :: l) k:=by obtain ⟨b,hb,e⟩:=h;exact ⟨b,List.mem_cons_of_mem _ hb,e⟩
theorem zta {l:List Nat} {k:Nat}:zee (k % 1000 :: l) k:=⟨_,List.mem_cons_self,Nat.mod_mod _ _⟩
theorem zxN {l m:List Nat} {k:Nat} (h:zee l k) (hs:∀ a ∈ l,a ∈ m):zee m k:=by obtain ⟨a,ha,e⟩:=h;exact ⟨a,hs a ha,e⟩
theorem zeK {α:Type} {f:α->List Nat} {l:List α} {x:α} {k:Nat} (hx:x ∈ l) (h:zee (f x) k):zee (l.flatMap f) k:=by obtain ⟨a,ha,e⟩:=h;exact ⟨a,List.mem_flatMap.2 ⟨x,hx,ha⟩,e⟩
theorem zeL {e:Ent} {k:Nat} (h:zee e.rd k):e.looks k = true:=by
 obtain ⟨a,ha,h⟩:=h
 unfold Ent.looks
 simp only [List.any_eq_true,beq_iff_eq]
 exact ⟨a,ha,h⟩
theorem zio [zae] {l:List Nat} {k:Nat}:(Tc.ids l).has k = true ↔ zee l k:=zuD
theorem zjT [zae] {l:List Nat} {k:Nat} (h:(Tc.ids l).has k = false):¬ zee l k:=fun hn=>by rw [zio.2 hn] at h;cases h
def same (rw rw':Nat->Row) (p:PV):Prop:=∀ k,zee (ze3 p) k->rw' k = rw k
section
variable {P:Program} {T:Tab} {rw rw':Nat->Row} {p:PV}
theorem zCq [zae] (hs:same rw rw' p) (K:Md->List PV->Nat->Prop):zue rw' p K = zue rw p K:=by
 cases p <;> first | rfl | (simp only [zue];rw [hs _ (zbS _)])
theorem zxO [zae] (hs:same rw rw' p) (K:Bool->Nat->List PV->Prop):slK rw' p K = slK rw p K:=by
 cases p <;> first | rfl | (simp only [slK];rw [hs _ (zbS _)])
theorem zyM [zae] (hs:same rw rw' p) (K:Bool->Nat->List PV->Prop):zhu rw' p K = zhu rw p K:=by
 cases p <;> first | rfl | (simp only [zhu];rw [hs _ (zbS _)])
theorem zja [zae] (hs:same rw rw' p) (A:Prop):zdW rw' p A = zdW rw p A:=by
 cases p <;> first | rfl | (simp only [zdW];rw [hs _ (zbS _)])
theorem ze4 [zae] (hs:same rw rw' p) (K:List PV->Prop):za5 rw' p K = za5 rw p K:=by
 cases p <;> first | rfl | (simp only [za5];rw [hs _ (zbS _)])
theorem zma [zae] {i:PV} {t:TypeId} (hs:same rw rw' p) (K:PV->Prop):zbz T rw' t p i K = zbz T rw t p i K:=by
 unfold zbz
 simp only [zja hs]
 cases p <;> first | rfl | (simp only;rw [hs _ (zbS _)])
theorem zCr [zae] (hs:same rw rw' p) (K:Nat->Nat->Prop):zzV rw' p K = zzV rw p K:=by
 cases p <;> first | rfl | (simp only [zzV];rw [hs _ (zbS _)])
theorem zCs [zae] {t:TypeId} (hs:same rw rw' p) (K:PV->Prop):zCZ T rw' t p K = zCZ T rw t p K:=by
 unfold zCZ
 simp only [zCr hs]
theorem zuA [zae] {ev:Operand->PV} {t:TypeId} {lo hi mx:Option Operand} (hs:same rw rw' p) (K:PV->Prop):zbJ T rw' ev t p lo hi mx K = zbJ T rw ev t p lo hi mx K:=by
 unfold zbJ
 simp only [zyM hs]
theorem zyN [zae] {a b:TypeId} (hs:same rw rw' p) (K:PV->Prop):zg0 T rw' a b p K = zg0 T rw a b p K:=by
 unfold zg0
 simp only [zxO hs]
theorem zyO [zae] {i:PV} {t:TypeId} (hs:same rw rw' p) (K:PV->Prop):zkk T rw' t p i K = zkk T rw t p i K:=by
 cases p with
 | own k ver =>
   have e:=hs k (zbS k)
   cases i with
   | v x=>cases x with
     | int kd a=>cases kd <;> first | rfl | simp only [zkk,e]
     | _=>rfl
   | _=>rfl
 | _=>rfl
theorem zCt [zae] {ev:Operand->PV} {op:Op} (h:∀ x ∈ op.operands,same rw rw' (ev x)) (K:PV->Prop):zkl T rw' ev op K = zkl T rw ev op K:=by
 unfold zkl
 cases op <;> try rfl
 case convert a b x=>exact zyN (h x (by simp [Op.operands])) K
 case load t x=>exact zCq (h x (by simp [Op.operands])) _
 case fieldAddr t x f=>simp only [zja (h x (by simp [Op.operands]))]
 case indexAddr t x i=>exact zma (h x (by simp [Op.operands])) K
 case slice t x lo hi mx=>exact zuA (h x (by simp [Op.operands])) K
 case nilCheck x=>exact zja (h x (by simp [Op.operands])) _
 case lookup t x i ok=>exact congrArg (ok = false/\·) (zyO (h x (by simp [Op.operands])) K)
 case call c =>
  dsimp only
  split
  ·rename_i x t;exact zCs (h x (by simp [Op.operands,Call.operands])) K
  ·rfl
  ·rfl
  ·rfl
theorem zyP [zae] {fs:List (Nat × TypeId)}:∀ (pp:List (Nat × PV)) (c:List PV) (K:List PV->Prop),(∀ x ∈ pp,same rw rw' x.2)->zdF T rw' fs pp c K = zdF T rw fs pp c K:=by
 intro pp
 induction pp with
 | nil=>intro c K _;rfl
 | cons x pp ih =>
   intro c K h
   obtain ⟨i,p⟩:=x
   have h0:same rw rw' p:=h (i,p) sp
   have ih':∀ c K,zdF T rw' fs pp c K = zdF T rw fs pp c K:=fun c K=>ih c K fun y hy=>h y (by simp [hy])
   simp only [zdF,ih',ze4 h0]
theorem zCu {fs:List (Nat × TypeId)}:∀ (pp:List (Nat × PV)) (c:List PV) (K:List PV->Prop),zdF T rw fs pp c K->∃ c',K c'/\zdF T rw fs pp c (· = c'):=by
 intro pp
 induction pp with
 | nil=>intro c K h;exact ⟨c,h,rfl⟩
 | cons x pp ih =>
   intro c K h
   obtain ⟨i,p⟩:=x
   unfold zdF at h ⊢
   split at h
   ·rename_i off ft hfi
    unfold za5 at h ⊢
    split at h <;> first
     | exact h.elim
     | (obtain ⟨a1,a2,h⟩:=h;obtain ⟨c',h1,h2⟩:=ih _ _ h;exact ⟨c',h1,a1,a2,h2⟩)
     | (obtain ⟨q,a1,a2,h⟩:=h;obtain ⟨c',h1,h2⟩:=ih _ _ h;exact ⟨c',h1,q,a1,a2,h2⟩)
     | (obtain ⟨q,q2,a1,a2,h⟩:=h;obtain ⟨c',h1,h2⟩:=ih _ _ h;exact ⟨c',h1,q,q2,a1,a2,h2⟩)
   ·exact h.elim
end
def zfM (T:Tab) (rw:Nat->Row) (ev:Operand->PV) (op:Op) (K:PV->Prop):Prop :=
 match op with
 | .build t parts=>zhs T rw ev t parts K
 | op=>zkl T rw ev op K
def zuB (k:Nat) (c:List PV):List Nat:=c.flatMap fun q=>match q with | .own j _=>if j % 1000 = k % 1000 then [] else [j % 1000] | _=>[]
def zeM (rw:Nat->Row):Nat->PV->List Nat
 | 0,_=>[]
 | n + 1,p=>match p with
   | .own k _=>k % 1000 :: (match (rw k).kind with | .tab _ c=>zuB k c | _=>[])
   | .ref k _ _=>k % 1000 :: (match (rw k).kind with | .box _ c=>c.flatMap (zeM rw n) | _=>[])
   | .ag c=>c.flatMap (zeM rw n)
   | .clo _ c=>c.flatMap (zeM rw n)
   | _=>[]
theorem ztb [zae] {rw rw':Nat->Row}:∀ (n:Nat) (p:PV),(∀ k,zee (zeM rw n p) k->rw' k = rw k)->zcS rw' n p = zcS rw n p:=by
 intro n
 induction n with
 | zero=>intro p _;rfl
 | succ n ih =>
   intro p h
   have lst:∀ c:List PV,(∀ k,zee (c.flatMap (zeM rw n)) k->rw' k = rw k)->c.map (zcS rw' n) = c.map (zcS rw n):=fun c hc =>
    List.map_congr_left fun q hq=>ih q fun k hk=>hc k (zeK hq hk)
   cases p with
   | own k ver =>
     have h0:=h k zta
     simp only [zcS,h0]
     split
     ·cases hk:(rw k).kind with
      | tab e c =>
        simp only
        congr 1
        refine List.map_congr_left fun q hq=>?_
        cases q with
        | own j v =>
          have hj:rw' j = rw j:=h j (by
           simp only [zeM,hk]
           by_cases he:j % 1000 = k % 1000
           ·exact ⟨_,List.mem_cons_self,by rw [Nat.mod_mod];exact he.symm⟩
           ·exact zs9 (zeK hq (by simp only [he,if_false];exact zbS j)))
          simp only [znK,hj]
        | _=>rfl
      | _=>rfl
     ·rfl
   | ref k ver off =>
     have h0:=h k zta
     simp only [zcS,h0]
     split
     ·cases hk:(rw k).kind with
      | box t c=>simp only;rw [lst c fun j hj=>h j (by simp only [zeM,hk];exact zs9 hj)]
      | _=>rfl
     ·rfl
   | ag c=>simp only [zcS];rw [lst c fun j hj=>h j hj]
   | clo f c=>simp only [zcS];rw [lst c fun j hj=>h j hj]
   | _=>rfl
def zHF (s:St) (d:Nat) (x:RV):Option PV->St | none=>zal s d x | some p=>s.put (some d) p
def zMk [zae] (P:Program) (s:St) (g:FuncId) (raw:List PV) (d:Nat) (K:List Nat->Nat->St->Prop):Prop :=
 (∃ (k v e e2:Nat) (p:List Nat) (rows rows':List (List PV)) (args:List PV) (r:RV),
  AT P g args e e2 rows rows' (.rv r)/\GiveL [(k,v)] raw args/\TabIs s.rw k v e e2 p rows/\p.Nodup/\d % 1000 ≠ k % 1000/\K [] k (zal (s.killed k p) d r)) \/
 (∃ (j vj e:Nat) (pre pre' head out:List PV) (ok:Bool),
  AF P g pre head e out ok/\zID pre pre'/\raw = pre' ++ [.own j vj]/\s.rw j = ⟨vj,.sli e 1 false head⟩/\zbs head/\d % 1000 ≠ j % 1000/\j < lent/\K [] j (zal (s.killed j []) d (rvF e out ok))) \/
 (∃ (rd:List Nat) (k:Nat) (x:RV) (r:Row) (q:Option PV),(∀ s':St,s'.rw k = s.rw k->(∀ a ∈ rd,s'.rw a = s.rw a)->∀ K':St->Prop,K' (zHF (s'.row k r) d x q)->askG P s' g raw (some d) K')/\d % 1000 ≠ k % 1000/\K rd k (zHF (s.row k r) d x q))
def tdK [zae] (P:Program) (s:St) (f:Operand) (c:Call) (d:Nat) (K:Ent->St->Prop):Prop :=
 match s.ev f with | .clo g caps=>zMk P s g (c.args.toList.map s.ev ++ caps) d (fun rd k s1=>K ⟨rd,.ids [d,k]⟩ s1) | _=>False
def nK [zae] (P:Program) (s:St) (o:Oper) (K:Ent->St->Prop):Prop :=
 match o.op with
 | .call c=>(match c.callee with
  | .value f=>(match o.dst with
   | some d=>(ze8 P s.rw s.ev f c.args fun rv=>K ⟨(c.args.toList.map s.ev).flatMap (zeM s.rw zgZ) ++ zeM s.rw (zgZ + 1) (s.ev f),.res d⟩ (zal s d rv)) \/ tdK P s f c d K
   | none=>ze8 P s.rw s.ev f c.args fun _=>K ⟨(c.args.toList.map s.ev).flatMap (zeM s.rw zgZ) ++ zeM s.rw (zgZ + 1) (s.ev f),.ids []⟩ s)
  | _=>False)
 | _=>False
def zqf (s:St) (o:Oper):List Nat:=match zqi o with | true=>[] | false=>(o.op.operands.toList.map s.ev).flatMap ze3
def zPf (T:Tab) (s:St) (dst:Option Nat) (t:TypeId) (r:Row) (k ver:Nat) (py:PV) (K:Ent->St->Prop):Prop :=
 ∃ (d e:Nat) (c:List PV) (kd:IntKind) (m:Int),dst = some d/\r = ⟨ver,.sli e 1 false c⟩/\0 < (T t).size/\(T t).k = .sli e/\0 < (T e).size/\(T e).size = 1/\py = .v (.int kd m)/\0 <= m/\m <= (c.length:Int) /\
  K ⟨[],.ids [k]⟩ ((s.row k ⟨ver + 1,.sli e 1 false (c.take m.toNat)⟩).put (some d) (.own k (ver + 1)))
def zNe (T:Tab) (s:St) (o:Oper) (t:TypeId) (px py:PV) (K:Ent->St->Prop):Prop :=
 match px with
 | .own k ver=>(match (s.rw k).kind with
  | .sli _ _ false _=>zPf T s o.dst t (s.rw k) k ver py K
  | _=>zfM T s.rw s.ev o.op fun p=>K ⟨zqf s o,.ids []⟩ (s.put o.dst p))
 | _=>zfM T s.rw s.ev o.op fun p=>K ⟨zqf s o,.ids []⟩ (s.put o.dst p)
def dK [zae] (P:Program) (T:Tab) (s:St) (o:Oper) (K:Ent->St->Prop):Prop :=
 match o.op with
 | .store _ ad x=>opK P T s o (K ⟨[],.ids (ze3 (s.ev ad) ++ ze3 (s.ev x))⟩)
 | .alloc _=>opK P T s o (K ⟨[],.ids o.dst.toList⟩)
 | .box _ x=>opK P T s o (K ⟨ze3 (s.ev x),.ids o.dst.toList⟩)
 | .makeSlice _ _ _=>opK P T s o (K ⟨[],.ids o.dst.toList⟩)
 | .buildSlice _ _ parts=>opK P T s o (K ⟨[],.ids (o.dst.toList ++ (parts.toList.map fun x=>s.ev x.2).flatMap ze3)⟩)
 | .slice t x none (some y) none=>zNe T s o t (s.ev x) (s.ev y) K
 | .call c=>(match c.callee with
  | .builtin .append=>(match c.args with | ⟨[x,y]⟩=>opK P T s o (K ⟨ze3 (s.ev y),.ids (o.dst.toList ++ ze3 (s.ev x))⟩) | _=>False)
  | .value _=>nK P s o K
  | _=>zfM T s.rw s.ev o.op fun p=>K ⟨zqf s o,.ids []⟩ (s.put o.dst p))
 | _=>zfM T s.rw s.ev o.op fun p=>K ⟨zqf s o,.ids []⟩ (s.put o.dst p)
def zf7 [zae] (P:Program) (T:Tab) (ops:Array Oper):List Ent->List Oper->St->(St->Prop)->Prop
 | acc,[],s,K=>znH ops acc.reverse = true/\K s
 | acc,o :: os,s,K=>zxS ops s o
  (fun s1=>dK P T s1 o fun e s2=>zf7 P T ops (e :: acc) os s2 K)
  (fun s2=>zf7 P T ops (⟨[],.ids []⟩ :: acc) os s2 K)
section
variable {P:Program} {T:Tab} {G:Ghost} {ops:Array Oper}
theorem zFf [zae] {rw:Nat->Row} {ev:Operand->PV} {op:Op} {K:PV->Prop} (h:zkl T rw ev op K):∃ p,K p/\∀ K':PV->Prop,K' p->zkl T rw ev op K':=by
 unfold zkl at h ⊢
 split at h
 ·exact ⟨_,h,fun _ h=>h⟩
 ·exact ⟨_,h,fun _ h=>h⟩
 ·split at h
  ·rename_i t _
   cases t with
   | true=>exact ⟨_,h.1 rfl,fun _ h'=>⟨fun _=>h',fun h=>by cases h⟩⟩
   | false=>exact ⟨_,h.2 rfl,fun _ h'=>⟨(fun h=>by cases h),fun _=>h'⟩⟩
  ·exact h.elim
 ·exact zxZ h
 ·exact zCU h
 ·exact ztq h
 ·obtain ⟨m,c,off,h,hd⟩:=zxX h
  obtain ⟨p,hp,hl⟩:=zjh h
  exact ⟨p,hp,fun K' hk=>hd _ (hl _ hk)⟩
 ·obtain ⟨o',ft,h,hd⟩:=zgH h
  obtain ⟨hptr,h⟩:=h
  obtain ⟨hk,hs⟩:=zge h
  exact ⟨_,hk,fun K' hk=>hd _ ⟨hptr,hs _ hk⟩⟩
 ·rename_i t x f
  obtain ⟨o',ft,h,hd⟩:=zgH h
  cases he:ev x with
  | ag c =>
    rw [he] at h
    obtain ⟨p,hp,hl⟩:=zjh h
    exact ⟨p,hp,fun K' hk=>hd _ (hl _ hk)⟩
  | _=>rw [he] at h;exact h.elim
 ·exact zhe h
 ·obtain ⟨hs,h⟩:=h
  split at h
  ·exact ⟨_,h.2.2,fun _ hk=>⟨hs,h.1,h.2.1,hk⟩⟩
  ·obtain ⟨p,hp,hl⟩:=zjh h.2.2
   exact ⟨p,hp,fun _ hk=>⟨hs,h.1,h.2.1,hl _ hk⟩⟩
  ·exact h.elim
 ·exact zpg h
 ·split at h
  ·exact ⟨_,h.2,fun _ hk=>⟨h.1,hk⟩⟩
  ·exact h.elim
 ·split at h
  ·exact ⟨_,h.2,fun _ hk=>⟨h.1,hk⟩⟩
  ·exact h.elim
 ·obtain ⟨hk,hs⟩:=zge h
  exact ⟨_,hk,fun K' hk=>hs _ hk⟩
 ·split at h
  ·exact zxY h
  ·exact ze9 h
  ·exact ze9 h
  ·exact h.elim
 ·obtain ⟨h1,h⟩:=h
  obtain ⟨p,hp,hd⟩:=ztu h
  exact ⟨p,hp,fun K' hk=>⟨h1,hd _ hk⟩⟩
 ·exact h.elim
theorem zCv [zae] {rw:Nat->Row} {ev:Operand->PV} {op:Op} {K:PV->Prop} (h:zfM T rw ev op K):∃ p,K p/\zfM T rw ev op (· = p):=by
 unfold zfM at h ⊢
 split at h
 ·unfold zhs at h ⊢
  obtain ⟨h1,h⟩:=h
  split at h
  ·rename_i fs hfs
   obtain ⟨h2,h⟩:=h
   obtain ⟨c',h3,h4⟩:=zCu _ _ _ h
   refine ⟨_,h3,h1,h2,?_⟩
   refine (?_:zdF T rw fs _ _ (fun c=>PV.ag c = PV.ag c'))
   have e:(fun c=>PV.ag c = PV.ag c') = (· = c'):=by funext c;simp
   rw [e];exact h4
  ·exact h.elim
 ·obtain ⟨p,hp,hd⟩:=zFf h
  exact ⟨p,hp,hd _ rfl⟩
theorem zyQ [zae] {rw rw':Nat->Row} {ev:Operand->PV} {op:Op} (h:∀ x ∈ op.operands,same rw rw' (ev x)) (K:PV->Prop):zfM T rw' ev op K = zfM T rw ev op K:=by
 unfold zfM
 split
 ·rename_i t parts
  unfold zhs
  split
  ·rename_i fs hfs
   rw [zyP _ _ _ fun x hx=>by
    obtain ⟨y,hy,rfl⟩:=List.mem_map.1 hx
    exact h y.2 (by simp only [Op.operands,List.mem_toArray,List.mem_map];exact ⟨y,hy,rfl⟩)]
  ·rfl
 ·exact zCt h K
theorem zyR {rw rw':Nat->Row} {ev:Operand->PV} {o:Oper} {K:PV->Prop} (hf:zqi o = true) (h:zfM T rw ev o.op K):zfM T rw' ev o.op K:=by
 unfold zqi at hf
 split at hf <;> first
  | (rename_i ho;rw [ho] at h ⊢;exact h)
  | cases hf
theorem zyS [zae] (hT:T.Ok P) {s:St} {K:PV->Prop} {o:Oper} (hk:zfM T s.rw s.ev o.op K):∃ p,K p/\zhf P G s o p:=by
 unfold zfM at hk
 split at hk
 ·rename_i t parts ho;exact zjZ hT ho hk
 ·exact ztr hT hk
theorem zMl {s s':St} {l:List (Nat × Operand)} (h:∀ x ∈ l,s'.ev x.2 = s.ev x.2):(l.map fun x=>s'.ev x.2) = l.map fun x=>s.ev x.2:=List.map_congr_left h
def upR (fz:List Nat) (d:Nat) (r:Row) (rw:Nat->Row):Nat->Row:=fun i=>if i = d then r else zis rw fz i
theorem zkQ [zae] (s:St) (d:Nat) (kd:RK) (p:Nat->PV):zcX s d kd p = (St.mk s.sl (upR [] d ⟨(s.rw d).ver + 1,kd⟩ s.rw)).put (some d) (p ((s.rw d).ver + 1)):=by
 unfold zcX St.row upR;rw [zgF]
theorem zkR [zae] (s:St) (d k:Nat) (kd:RK):zdG s d k kd = (St.mk s.sl (upR [] k ⟨(s.rw k).ver + 1,kd⟩ s.rw)).put (some d) (.own k ((s.rw k).ver + 1)):=by
 unfold zdG St.row upR;rw [zgF]
theorem zo5 [zae] (s:St) (k:Nat) (r:Row):s.row k r = St.mk s.sl (upR [] k r s.rw):=by
 unfold St.row upR;rw [zgF]
theorem zxP (s:St) (fz:List Nat) (k:Nat) (r:Row):(s.freeze fz).row k r = St.mk s.sl (upR fz k r s.rw):=rfl
theorem ztc [zae] {rw:Nat->Row} {p:PV} {K:List PV->List Nat->Prop} (hk:zds rw p K):∃ c f,K c f/\(∀ j ∈ f,zee (ze3 p) j)/\∀ rw',same rw rw' p->zds rw' p (fun a b=>a = c/\b = f):=by
 unfold zds at hk
 split at hk
 ·exact ⟨_,_,hk.2,sp,fun rw' _=>⟨hk.1,rfl,rfl⟩⟩
 ·exact ⟨_,_,hk.2,sp,fun rw' _=>⟨hk.1,rfl,rfl⟩⟩
 ·rename_i k ver
  obtain ⟨h1,h2,hk⟩:=hk
  split at hk
  ·rename_i hkd
   refine ⟨_,_,hk,sp,fun rw' hs=>?_⟩
   have:=hs k (zbS _)
   unfold zds
   simp only [this,hkd]
   exact ⟨h1,h2,sp⟩
  ·rename_i hkd
   refine ⟨_,_,hk,fun j hj=>by rw [List.mem_singleton.1 hj];exact zbS _,fun rw' hs=>?_⟩
   have:=hs k (zbS _)
   unfold zds
   simp only [this,hkd]
   exact ⟨h1,h2,sp⟩
  ·exact hk.elim
 ·exact ⟨_,_,hk.2,sp,fun rw' _=>⟨hk.1,rfl,rfl⟩⟩
 ·exact hk.elim
theorem zCw [zae] {rw:Nat->Row} {es:Nat}:∀ {ps:List PV} {K:List PV->List Nat->Prop},znJ rw es ps K->∃ c f,K c f/\(∀ j ∈ f,zee (ps.flatMap ze3) j)/\∀ rw',(∀ p ∈ ps,same rw rw' p)->∀ K':List PV->List Nat->Prop,K' c f->znJ rw' es ps K':=by
 intro ps
 induction ps with
 | nil=>intro K h;exact ⟨_,_,h,sp,fun _ _ K' h=>h⟩
 | cons p ps ih =>
   intro K h
   obtain ⟨c,f,⟨hl,h⟩,hf,hp⟩:=ztc h
   obtain ⟨cs,fs,h,hfs,hs⟩:=ih h
   refine ⟨_,_,h,fun j hj=>?_,fun rw' hsame K' hK=>?_⟩
   ·rw [List.flatMap_cons]
    rcases List.mem_append.1 hj with h | h
    ·exact zf6 (hf j h)
    ·exact zbH (hfs j h)
   ·have h1:=hp rw' (hsame p sp)
    have back:∀ {K2:List PV->List Nat->Prop},K2 c f->zds rw' p K2:=fun {K2} hk2=>by
     unfold zds at h1 ⊢
     split at h1
     ·obtain ⟨q1,rfl,rfl⟩:=h1;exact ⟨q1,hk2⟩
     ·obtain ⟨q1,rfl,rfl⟩:=h1;exact ⟨q1,hk2⟩
     ·obtain ⟨q1,q2,h1⟩:=h1
      refine ⟨q1,q2,?_⟩
      split at h1
      ·obtain ⟨rfl,rfl⟩:=h1;exact hk2
      ·obtain ⟨rfl,rfl⟩:=h1;exact hk2
      ·exact h1.elim
     ·obtain ⟨q1,rfl,rfl⟩:=h1;exact ⟨q1,hk2⟩
     ·exact h1.elim
    exact back ⟨hl,hs rw' (fun q hq=>hsame q (by simp [hq])) (fun cs' fs'=>K' (c ++ cs') (f ++ fs')) hK⟩
theorem zjb {rw:Nat->Row} {p:PV} {K:List PV->Prop} (hk:za5 rw p K):∃ c,K c/\(∀ q ∈ c,∀ j ∈ zHE q,j ∈ ze3 p)/\∀ K':List PV->Prop,K' c->za5 rw p K':=by
 have one:∀ q:PV,∀ q' ∈ [q],∀ j ∈ zHE q',j ∈ ze3 q:=fun q q' hq j hj=>by
  rw [List.mem_singleton.1 hq] at hj
  cases q <;> simp [zHE] at hj <;> simp [ze3,hj]
 unfold za5 at hk ⊢
 split at hk
 ·exact ⟨_,hk,fun q hq j hj=>List.mem_flatMap.2 ⟨q,hq,hj⟩,fun _ h=>h⟩
 ·exact ⟨_,hk.2,one _,fun _ h=>⟨hk.1,h⟩⟩
 ·exact ⟨_,hk,one _,fun _ h=>h⟩
 ·exact ⟨_,hk,one _,fun _ h=>h⟩
 ·exact ⟨_,hk,one _,fun _ h=>h⟩
 ·exact ⟨_,hk.2.2,one _,fun _ h=>⟨hk.1,hk.2.1,h⟩⟩
 ·exact ⟨_,hk.2.2,one _,fun _ h=>⟨hk.1,hk.2.1,h⟩⟩
 ·exact hk.elim
theorem ztd [zae] {rw rw':Nat->Row} {p:PV} (hs:∀ j,zee (zHE p) j->rw' j = rw j) (h:zj1 rw p):zj1 rw' p:=by
 cases p <;> first | exact h | (simp only [zj1] at h ⊢;rw [hs _ (zbS _)];exact h)
def zmb [zae] (P:Program) (_T:Tab) (G:Ghost) (s:St) (o:Oper) (K:Ent->St->Prop):Prop :=
 ∃ x:Stp,K x.e (s.step o x)/\(∀ k,x.e.tc.has k = false->x.rows k = s.rw k) /\
  ∀ s':St,(∀ k,x.e.looks k = true \/ x.e.tc.has k = true->s'.rw k = s.rw k)->(∀ y ∈ o.op.operands,s'.ev y = s.ev y)->za9 P G s' o (s'.stepIn o x)
theorem zgC [zae] (hT:T.Ok P) {s:St} {o:Oper} {K:Ent->St->Prop} (hd:∀ d,o.dst = some d->d < G.n) {val:PV} {fz:List Nat} {d:Nat} {r:Row} {rd l:List Nat} (hdl:zee l d) (hfl:∀ j ∈ fz,zee l j)
 (h1:K ⟨rd,.ids l⟩ ((St.mk s.sl (upR fz d r s.rw)).put o.dst val))
 (h2:∀ s':St,(∀ k,zee rd k->s'.rw k = s.rw k)->(∀ k,zee l k->s'.rw k = s.rw k)->(∀ y ∈ o.op.operands,s'.ev y = s.ev y)->opK P T s' o (· = (St.mk s'.sl (upR fz d r s'.rw)).put o.dst val)):zmb P T G s o K:=by
 refine ⟨⟨val,upR fz d r s.rw,⟨rd,.ids l⟩⟩,h1,fun k hk=>?_,fun s' hr hev=>?_⟩
 ·have hk:¬ zee l k:=zjT hk
  show upR fz d r s.rw k = s.rw k
  unfold upR zis
  rw [if_neg (fun e=>hk (by rw [e];exact hdl)),if_neg (fun e=>hk (hfl k e))]
 ·have e:s'.stepIn o ⟨val,upR fz d r s.rw,⟨rd,.ids l⟩⟩ = (St.mk s'.sl (upR fz d r s'.rw)).put o.dst val:=by
   unfold St.stepIn
   congr 2
   funext k
   by_cases hk:(Tc.ids l).has k = true
   ·rw [if_pos hk]
    have:=hr k (.inr hk)
    show upR fz d r s.rw k = upR fz d r s'.rw k
    unfold upR zis
    rw [this]
   ·rw [if_neg hk]
    have hk:¬ zee l k:=fun h=>hk (zio.2 h)
    unfold upR zis
    rw [if_neg (fun e=>hk (by rw [e];exact hdl)),if_neg (fun e=>hk (hfl k e))]
  rw [e]
  obtain ⟨s2,rfl,he⟩:=zkS (G:=G) hT hd (h2 s' (fun k hk=>hr k (.inl (zeL hk))) (fun k hk=>hr k (.inr (zio.2 hk))) hev)
  exact he
theorem zCx [zae] {s:St} {o:Oper} {K:Ent->St->Prop} {val:PV} {fz:List Nat} {d:Nat} {r:Row} {rd l:List Nat} (hdl:zee l d) (hfl:∀ j ∈ fz,zee l j)
 (h1:K ⟨rd,.ids l⟩ ((St.mk s.sl (upR fz d r s.rw)).put o.dst val))
 (h2:∀ s':St,(∀ k,zee rd k->s'.rw k = s.rw k)->(∀ k,zee l k->s'.rw k = s.rw k)->(∀ y ∈ o.op.operands,s'.ev y = s.ev y)->za9 P G s' o ((St.mk s'.sl (upR fz d r s'.rw)).put o.dst val)):zmb P T G s o K:=by
 refine ⟨⟨val,upR fz d r s.rw,⟨rd,.ids l⟩⟩,h1,fun k hk=>?_,fun s' hr hev=>?_⟩
 ·have hk:¬ zee l k:=zjT hk
  show upR fz d r s.rw k = s.rw k
  unfold upR zis
  rw [if_neg (fun e=>hk (by rw [e];exact hdl)),if_neg (fun e=>hk (hfl k e))]
 ·have e:s'.stepIn o ⟨val,upR fz d r s.rw,⟨rd,.ids l⟩⟩ = (St.mk s'.sl (upR fz d r s'.rw)).put o.dst val:=by
   unfold St.stepIn
   congr 2
   funext k
   by_cases hk:(Tc.ids l).has k = true
   ·rw [if_pos hk]
    have:=hr k (.inr hk)
    show upR fz d r s.rw k = upR fz d r s'.rw k
    unfold upR zis
    rw [this]
   ·rw [if_neg hk]
    have hk:¬ zee l k:=fun h=>hk (zio.2 h)
    unfold upR zis
    rw [if_neg (fun e=>hk (by rw [e];exact hdl)),if_neg (fun e=>hk (hfl k e))]
  rw [e]
  exact h2 s' (fun k hk=>hr k (.inl (zeL hk))) (fun k hk=>hr k (.inr (zio.2 hk))) hev
theorem zuC [zae] (hT:T.Ok P) {s:St} {o:Oper} {K:Ent->St->Prop} {t:TypeId} {ad x:Operand} (ho:o.op = .store t ad x) (hd:∀ d,o.dst = some d->d < G.n)
 (hk:opK P T s o (K ⟨[],.ids (ze3 (s.ev ad) ++ ze3 (s.ev x))⟩)):zmb P T G s o K:=by
 simp only [opK,ho] at hk
 obtain ⟨hdst,ht,hk⟩:=hk
 have ops':∀ s':St,(∀ y ∈ o.op.operands,s'.ev y = s.ev y)->s'.ev ad = s.ev ad/\s'.ev x = s.ev x:=fun s' hev=>⟨hev _ (by simp [ho,Op.operands]),hev _ (by simp [ho,Op.operands])⟩
 split at hk
 ·rename_i k ver off hev
  obtain ⟨hver,hk⟩:=hk
  have hin:zee (ze3 (s.ev ad) ++ ze3 (s.ev x)) k:=by rw [hev];exact zf6 (zbS _)
  have hput:∀ (s':St) (p:PV),s'.put o.dst p = s':=fun s' p=>by rw [hdst];rfl
  split at hk
  ·rename_i bt c hkind
   obtain ⟨new,⟨h1,h2,h3,hk⟩,hin2,hc⟩:=zjb hk
   refine zgC hT hd (rd:=[]) (val:=.junk) (fz:=[]) (d:=k) (r:=⟨ver,.box bt (spl c off new)⟩) hin sp (by rw [hput,<- zo5];exact hk) fun s' _ hl hev'=>?_
   obtain ⟨e1,e2⟩:=ops' s' hev'
   rw [hput,<- zo5]
   simp only [opK,ho]
   refine ⟨hdst,ht,?_⟩
   rw [e1,hev,e2]
   have hk':=hl k hin
   simp only [hk']
   refine ⟨hver,?_⟩
   simp only [hkind]
   rw [ze4 (rw:=s.rw) (fun j hj=>hl j (zbH hj))]
   exact hc _ ⟨h1,h2,fun p hp=>ztd (fun j hj=>hl j (zbH (zxN hj (hin2 p hp)))) (h3 p hp),rfl⟩
  ·rename_i e sz c hkind
   obtain ⟨new,fz,⟨h1,h2,h3,hk⟩,hf,hc⟩:=ztc hk
   refine zgC hT hd (rd:=[]) (val:=.junk) (fz:=fz) (d:=k) (r:=⟨ver,.sli e sz false (spl c off new)⟩) hin (fun j hj=>zbH (hf j hj)) (by rw [hput,<- zxP];exact hk) fun s' _ hl hev'=>?_
   obtain ⟨e1,e2⟩:=ops' s' hev'
   rw [hput,<- zxP]
   simp only [opK,ho]
   refine ⟨hdst,ht,?_⟩
   rw [e1,hev,e2]
   have hk':=hl k hin
   simp only [hk']
   refine ⟨hver,?_⟩
   simp only [hkind]
   have hc':=hc s'.rw (fun j hj=>hl j (zbH hj))
   unfold zds at hc' ⊢
   split at hc'
   ·obtain ⟨q1,rfl,rfl⟩:=hc';exact ⟨q1,h1,h2,h3,rfl⟩
   ·obtain ⟨q1,rfl,rfl⟩:=hc';exact ⟨q1,h1,h2,h3,rfl⟩
   ·obtain ⟨q1,q2,hc'⟩:=hc'
    refine ⟨q1,q2,?_⟩
    split at hc'
    ·obtain ⟨rfl,rfl⟩:=hc';exact ⟨h1,h2,h3,rfl⟩
    ·obtain ⟨rfl,rfl⟩:=hc';exact ⟨h1,h2,h3,rfl⟩
    ·exact hc'.elim
   ·obtain ⟨q1,rfl,rfl⟩:=hc';exact ⟨q1,h1,h2,h3,rfl⟩
   ·exact hc'.elim
  ·rename_i e c hkind
   obtain ⟨new,⟨h1,h2,h3,hk⟩,hin2,hc⟩:=zjb hk
   refine zgC hT hd (rd:=[]) (val:=.junk) (fz:=[]) (d:=k) (r:=⟨ver,.tab e (spl c off new)⟩) hin sp (by rw [hput,<- zo5];exact hk) fun s' _ hl hev'=>?_
   obtain ⟨e1,e2⟩:=ops' s' hev'
   rw [hput,<- zo5]
   simp only [opK,ho]
   refine ⟨hdst,ht,?_⟩
   rw [e1,hev,e2]
   have hk':=hl k hin
   simp only [hk']
   refine ⟨hver,?_⟩
   simp only [hkind]
   rw [ze4 (rw:=s.rw) (fun j hj=>hl j (zbH hj))]
   exact hc _ ⟨h1,h2,fun p hp=>ztd (fun j hj=>hl j (zbH (zxN hj (hin2 p hp)))) (h3 p hp),rfl⟩
  ·exact hk.elim
 ·exact hk.elim
theorem zmc [zae] (hT:T.Ok P) {s:St} {o:Oper} {K:Ent->St->Prop} {d:Nat} {kd:RK} {p:Nat->PV} {rd:List Nat} (hdst:o.dst = some d) (hd:∀ d,o.dst = some d->d < G.n) (h1:K ⟨rd,.ids o.dst.toList⟩ (zcX s d kd p))
 (h2:∀ s':St,(∀ k,zee rd k->s'.rw k = s.rw k)->(∀ y ∈ o.op.operands,s'.ev y = s.ev y)->opK P T s' o (· = zcX s' d kd p)):zmb P T G s o K:=by
 have hin:zee o.dst.toList d:=by rw [hdst];exact zkP sp
 refine zgC hT hd (val:=p ((s.rw d).ver + 1)) (fz:=[]) (d:=d) (r:=⟨(s.rw d).ver + 1,kd⟩) hin sp (by rw [zkQ] at h1;rw [hdst] at h1 ⊢;exact h1) fun s' hr hl hev=>?_
 have:=h2 s' hr hev
 rw [zkQ,hl d hin,<- hdst] at this
 exact this
theorem zIB [zae] (hT:T.Ok P) {s:St} {o:Oper} {K:Ent->St->Prop} (hd:∀ d,o.dst = some d->d < G.n) (hk:dK P T s o K):zmb P T G s o K:=by
 have read:(zfM T s.rw s.ev o.op fun p=>K ⟨zqf s o,.ids []⟩ (s.put o.dst p))->zmb P T G s o K:=fun hk=>by
  obtain ⟨p,hp,hq⟩:=zCv hk
  refine ⟨⟨p,s.rw,⟨zqf s o,.ids []⟩⟩,hp,fun _ _=>rfl,fun s' hr hev=>?_⟩
  have e:s'.stepIn o ⟨p,s.rw,⟨zqf s o,.ids []⟩⟩ = s'.put o.dst p:=by
   unfold St.stepIn
   simp only [Tc.has,List.any_nil,Bool.false_eq_true,if_false]
  rw [e]
  have hq':zfM T (St.mk s.sl s'.rw).rw (St.mk s.sl s'.rw).ev o.op (· = p):=by
   cases hf:zqi o with
   | true=>exact zyR hf hq
   | false =>
     refine (zyQ (rw:=s.rw) (rw':=s'.rw) (ev:=s.ev) (fun x hx k hk=>hr k (.inl (zeL ?_))) _).mpr hq
     simp only [zqf,hf]
     exact zeK (List.mem_map.2 ⟨x,by simpa using hx,rfl⟩) hk
  obtain ⟨q,rfl,hy⟩:=zyS (G:=G) hT hq'
  exact (hy.congr (s1:=s') rfl hev).effects hd
 unfold dK at hk
 split at hk
 ·rename_i t ad x ho;exact zuC hT ho hd hk
 ·rename_i t ho
  simp only [opK,ho] at hk
  split at hk
  ·rename_i d hdst
   refine zmc hT hdst hd hk.2 fun s' _ _=>?_
   simp only [opK,ho,hdst]
   exact ⟨hk.1,trivial⟩
  ·exact hk.elim
 ·rename_i t x ho
  simp only [opK,ho] at hk
  split at hk
  ·rename_i d hdst
   obtain ⟨new,hk,_,hc⟩:=zjb hk
   refine zmc hT hdst hd hk fun s' hr hev=>?_
   simp only [opK,ho,hdst]
   rw [hev x (by simp [ho,Op.operands]),ze4 (rw:=s.rw) (fun j hj=>hr j hj)]
   exact hc _ rfl
  ·exact hk.elim
 ·rename_i t l c ho
  simp only [opK,ho] at hk
  split at hk
  ·rename_i d e kl nl kc nc hdst hte hl hc
   obtain ⟨h1,h2,hk⟩:=hk
   split at hk
   ·rename_i z hz
    obtain ⟨h3,h4,h5,h6,hk⟩:=hk
    refine zmc hT hdst hd hk fun s' _ hev=>?_
    simp only [opK,ho,hdst,hte,hev l (by simp [ho,Op.operands]),hev c (by simp [ho,Op.operands]),hl,hc]
    refine ⟨h1,h2,?_⟩
    simp only [hz]
    exact ⟨h3,h4,h5,h6,trivial⟩
   ·exact hk.elim
  ·exact hk.elim
 ·rename_i t n parts ho
  simp only [opK,ho] at hk
  split at hk
  ·rename_i d hdst
   unfold zCM at hk
   obtain ⟨ht,hk⟩:=hk
   split at hk
   ·rename_i e hte
    obtain ⟨he,hn,hidx,hbig,hk⟩:=hk
    obtain ⟨c,f,⟨hdf,hk⟩,hf,hp⟩:=zCw hk
    rw [zxP] at hk
    have hin:zee (o.dst.toList ++ (parts.toList.map fun x=>s.ev x.2).flatMap ze3) d:=zf6 (by rw [hdst];exact zkP sp)
    refine zgC hT hd (rd:=[]) (val:=.own d ((s.rw d).ver + 1)) (fz:=f) (d:=d) (r:=⟨(s.rw d).ver + 1,.sli e (T e).size false c⟩) hin (fun j hj=>zbH (hf j hj)) (by rw [hdst] at hk ⊢;exact hk) fun s' _ hl hev=>?_
    rw [hdst]
    simp only [opK,ho,hdst]
    refine ⟨ht,?_⟩
    simp only [hte]
    refine ⟨he,hn,hidx,hbig,?_⟩
    have hm:(parts.toList.map fun x=>s'.ev x.2) = parts.toList.map fun x=>s.ev x.2:=zMl fun x hx=>hev _ (by
     simp only [ho,Op.operands,List.mem_toArray,List.mem_map];exact ⟨x,hx,rfl⟩)
    rw [hm]
    refine hp s'.rw (fun p hp' j hj=>hl j (zbH (zeK hp' hj))) _ ⟨hdf,?_⟩
    rw [zxP,hl d hin]
   ·exact hk.elim
  ·exact hk.elim
 ·rename_i t x y ho
  unfold zNe at hk
  split at hk
  ·rename_i k ver hev
   split at hk
   ·obtain ⟨d,e,c,kd,m,hdst,hrow,h1,h2,h3,h4,hpy,h5,h6,hk⟩:=hk
    have hin:zee [k] k:=zkP sp
    refine zCx (val:=.own k (ver + 1)) (fz:=[]) (d:=k) (r:=⟨ver + 1,.sli e 1 false (c.take m.toNat)⟩) (rd:=[]) (l:=[k]) hin sp (by rw [zo5] at hk;rw [hdst];exact hk) fun s' _ hl hev'=>?_
    rw [hdst,<- zo5]
    have hx':s'.ev x = .own k ver:=by rw [hev' x (by simp [ho,Op.operands]),hev]
    have hy':s'.ev y = .v (.int kd m):=by rw [hev' y (by simp [ho,Op.operands]),hpy]
    exact zIC hT ho hdst (hd d hdst) hx' (by rw [hl k hin];exact hrow) h1 h2 h3 h4 hy' h5 h6
   ·exact read hk
  ·exact read hk
 ·rename_i c ho
  split at hk
  ·rename_i hc
   split at hk
   ·rename_i x y hargs
    simp only [opK,ho,hc] at hk
    split at hk
    ·rename_i x' y' t t2 d hargs' hty hdst
     have hxy:x' = x/\y' = y:=by rw [hargs] at hargs';simpa using hargs'.symm
     obtain ⟨rfl,rfl⟩:=hxy
     have hmem:∀ z,z = x' \/ z = y'->z ∈ o.op.operands:=fun z hz=>by
      simp only [ho,Op.operands,Call.operands,hc,hargs]
      rcases hz with rfl | rfl <;> simp
     unfold zmm at hk
     obtain ⟨rfl,ht,hk⟩:=hk
     split at hk
     ·rename_i e hte
      obtain ⟨he,hby,hk⟩:=hk
      obtain ⟨fr,sz,news,⟨hsz,hfr,hk⟩,hdet⟩:=zuP hk
      have mk:∀ {p:PV} {k:Nat} {r:Row},zee (o.dst.toList ++ ze3 (s.ev x')) k->K ⟨ze3 (s.ev y'),.ids (o.dst.toList ++ ze3 (s.ev x'))⟩ ((St.mk s.sl (upR [] k r s.rw)).put (some d) p)->(∀ s':St,(∀ k,zee (o.dst.toList ++ ze3 (s.ev x')) k->s'.rw k = s.rw k)->s'.ev x' = s.ev x' ->
       (match s'.ev x' with
        | .v u=>zey u = true/\news.length * (T e).bytes <= 140737488355328/\zcX s' d (.sli e (T e).size false news) (fun v=>.own d v) = (St.mk s'.sl (upR [] k r s'.rw)).put (some d) p
        | .own k' ver=>(s'.rw k').ver = ver/\(match (s'.rw k').kind with
         | .nil=>news.length * (T e).bytes <= 140737488355328/\zdG s' d k' (.sli e (T e).size false news) = (St.mk s'.sl (upR [] k r s'.rw)).put (some d) p
         | .sli e' sz' false c=>e' = e/\sz' = (T e).size/\(c.length + news.length) * (T e).bytes <= 140737488355328/\zdG s' d k' (.sli e (T e).size false (c ++ news)) = (St.mk s'.sl (upR [] k r s'.rw)).put (some d) p
         | _=>False)
        | _=>False))->zmb P T G s o K:=fun {p k r} hin h1 h2=>by
       refine zgC hT hd (val:=p) (fz:=[]) (d:=k) (r:=r) hin sp (by rw [hdst] at h1 ⊢;exact h1) fun s' hr hl hev=>?_
       rw [hdst]
       simp only [opK,ho,hc,hargs,hty,hdst]
       refine ⟨rfl,ht,?_⟩
       simp only [hte]
       refine ⟨he,hby,?_⟩
       rw [hev y' (hmem y' (.inr rfl)),zxO (rw:=s.rw) (fun j hj=>hr j hj)]
       exact hdet _ ⟨hsz,hfr,h2 s' hl (hev x' (hmem x' (.inl rfl)))⟩
      split at hk
      ·rename_i u hev
       obtain ⟨h1,h2,hk⟩:=hk
       have hin:zee (o.dst.toList ++ ze3 (s.ev x')) d:=zf6 (by rw [hdst];exact zkP sp)
       rw [zkQ] at hk
       refine mk hin hk fun s' hl hx=>?_
       rw [hx,hev]
       exact ⟨h1,h2,by rw [zkQ,hl d hin]⟩
      ·rename_i k ver hev
       obtain ⟨hver,hk⟩:=hk
       have hin:zee (o.dst.toList ++ ze3 (s.ev x')) k:=zbH (by rw [hev];exact zbS _)
       split at hk
       ·rename_i hkind
        obtain ⟨h1,hk⟩:=hk
        rw [zkR] at hk
        refine mk hin hk fun s' hl hx=>?_
        rw [hx,hev]
        simp only [hl k hin]
        refine ⟨hver,?_⟩
        simp only [hkind]
        exact ⟨h1,by rw [zkR,hl k hin]⟩
       ·rename_i e' sz' c' hkind
        obtain ⟨h1,h2,h3,hk⟩:=hk
        rw [zkR] at hk
        refine mk hin hk fun s' hl hx=>?_
        rw [hx,hev]
        simp only [hl k hin]
        refine ⟨hver,?_⟩
        simp only [hkind]
        exact ⟨h1,h2,h3,by rw [zkR,hl k hin]⟩
       ·exact hk.elim
      ·exact hk.elim
     ·exact hk.elim
    ·exact hk.elim
   ·exact hk.elim
  ·
   rename_i f hc
   simp only [nK,ho,hc] at hk
   have args:∀ s':St,(∀ k,zee ((c.args.toList.map s.ev).flatMap (zeM s.rw zgZ) ++ zeM s.rw (zgZ + 1) (s.ev f)) k->s'.rw k = s.rw k)->(∀ y ∈ o.op.operands,s'.ev y = s.ev y)->∀ g caps,s.ev f = .clo g caps ->
    s'.ev f = s.ev f/\(c.args.toList.map fun x=>zcS s'.rw zgZ (s'.ev x)) ++ caps.map (zcS s'.rw zgZ) = (c.args.toList.map fun x=>zcS s.rw zgZ (s.ev x)) ++ caps.map (zcS s.rw zgZ):=fun s' hr hev g caps hf =>
    ⟨hev f (by simp [ho,Op.operands,Call.operands,hc]),by
     congr 1
     ·refine List.map_congr_left fun x hx=>?_
      rw [hev x (by simp [ho,Op.operands,Call.operands,hc];exact .inr (by simpa using hx))]
      exact ztb _ _ fun k hk=>hr k (zf6 (zeK (List.mem_map.2 ⟨x,hx,rfl⟩) hk))
     ·refine List.map_congr_left fun q hq=>ztb _ _ fun k hk=>hr k (zbH ?_)
      rw [hf]
      exact zeK hq hk⟩
   cases hdst:o.dst with
   | some d =>
     simp only [hdst] at hk
     rcases hk with hk | hk
     case inr =>
      unfold tdK at hk
      split at hk
      ·rename_i g caps hev
       rcases hk with ⟨k,v,e,e2,p,rows,rows',args,r,hat,hg,ht,hn,hdk,hk⟩ | ⟨k,vj,e,pre,pre',head,out,ok,haf,hpre,hraw,hj,hpl,hdk,hjl,hk⟩ | ⟨rd,k,x,r,q,hcall,hdk,hk⟩
       ·have has:∀ j,(Tc.ids [d,k]).has j = true ↔ (j % 1000 = d % 1000 \/ j % 1000 = k % 1000):=fun j=>by
         simp only [Tc.has,List.any_cons,List.any_nil,Bool.or_false,Bool.or_eq_true,beq_iff_eq]
         exact ⟨fun h=>h.imp Eq.symm Eq.symm,fun h=>h.imp Eq.symm Eq.symm⟩
        have hmod:∀ j,InT k p j->j % 1000 = k % 1000:=fun j hj=>by
         rcases hj with rfl | ⟨x,_,rfl⟩
         ·rfl
         ·rw [zbN];omega
        have hlm:∀ i,zak d i % 1000 = d % 1000:=fun i=>by unfold zak;omega
        refine ⟨⟨zaY (fun j=>(zbf s.rw k p j).ver) d r 0,zaw (zbf s.rw k p) d (leaves r) 0,⟨[],.ids [d,k]⟩⟩,?_,fun j hj=>?_,fun s' hr hev'=>?_⟩
        ·have e1:s.step o ⟨zaY (fun j=>(zbf s.rw k p j).ver) d r 0,zaw (zbf s.rw k p) d (leaves r) 0,⟨[],.ids [d,k]⟩⟩ = zal (s.killed k p) d r:=by
          unfold St.step zal;rw [hdst];rfl
         rw [e1];exact hk
        ·have hj:¬ (j % 1000 = d % 1000 \/ j % 1000 = k % 1000):=fun h=>by
          have:=(has j).2 h
          rw [this] at hj;cases hj
         have h2:=(zbU (R:=zbf s.rw k p) (R':=zbf s.rw k p) (d:=d) (fun _=>rfl) j (leaves r) 0).2 fun ⟨m,_,hm⟩=>hj (.inl (by rw [hm];exact hlm _))
         show zaw (zbf s.rw k p) d (leaves r) 0 j = s.rw j
         rw [h2.1,zcw fun h=>hj (.inr (hmod j h))]
        ·have hag:∀ j,(j % 1000 = d % 1000 \/ j % 1000 = k % 1000)->s'.rw j = s.rw j:=fun j hj=>hr j (.inr ((has j).2 hj))
         have hkag:∀ j,(j % 1000 = d % 1000 \/ j % 1000 = k % 1000)->zbf s.rw k p j = zbf s'.rw k p j:=fun j hj=>by unfold zbf;rw [hag j hj]
         have e1:s'.stepIn o ⟨zaY (fun j=>(zbf s.rw k p j).ver) d r 0,zaw (zbf s.rw k p) d (leaves r) 0,⟨[],.ids [d,k]⟩⟩ = zal (s'.killed k p) d r:=by
          unfold St.stepIn zal
          rw [hdst,zef (vr':=fun j=>(zbf s'.rw k p j).ver) (fun i=>by rw [hkag _ (.inl (hlm i))])]
          congr 2
          funext j
          obtain ⟨a1,a2⟩:=zbU (R:=zbf s.rw k p) (R':=zbf s'.rw k p) (d:=d) (fun i=>hkag _ (.inl (hlm i))) j (leaves r) 0
          by_cases hl:∃ m,m < (leaves r).length/\j = zak d (0 + m)
          ·have hb:(Tc.ids [d,k]).has j = true:=(has j).2 (.inl (by obtain ⟨m,_,rfl⟩:=hl;exact hlm _))
           simp only [hb,if_true]
           exact a1 hl
          ·obtain ⟨b1,b2⟩:=a2 hl
           show _ = zaw (zbf s'.rw k p) d (leaves r) 0 j
           rw [b2]
           by_cases hb:(Tc.ids [d,k]).has j = true
           ·simp only [hb,if_true]
            rw [b1];exact hkag j ((has j).1 hb)
           ·simp only [hb,if_false]
            exact (zcw fun h=>hb ((has j).2 (.inr (hmod j h)))).symm
         rw [e1]
         have hargs:c.args.toList.map s'.ev = c.args.toList.map s.ev:=List.map_congr_left fun x hx=>hev' x (by simp [ho,Op.operands,Call.operands,hc];exact .inr (by simpa using hx))
         have hf':s'.ev f = .clo g caps:=by rw [hev' f (by simp [ho,Op.operands,Call.operands,hc]),hev]
         refine zyZ (rows:=rows) ho hc hdst (hd d hdst) hf' hat (by rw [hargs];exact hg) ⟨?_,ht.len,fun i hi=>?_⟩ hn hdk
         ·rw [hag k (.inr rfl)];exact ht.top
         ·rw [hag (sid k (p.getD i 0)) (.inr (zdx _ _))];exact ht.row i hi
       ·have has:∀ j,(Tc.ids [d,k]).has j = true ↔ (j % 1000 = d % 1000 \/ j % 1000 = k % 1000):=fun j=>by
         simp only [Tc.has,List.any_cons,List.any_nil,Bool.or_false,Bool.or_eq_true,beq_iff_eq]
         exact ⟨fun h=>h.imp Eq.symm Eq.symm,fun h=>h.imp Eq.symm Eq.symm⟩
        have hmod:∀ j,InT k [] j->j % 1000 = k % 1000:=fun j hj=>by
         rcases hj with rfl | ⟨x,_,rfl⟩
         ·rfl
         ·rw [zbN];omega
        have hlm:∀ i,zak d i % 1000 = d % 1000:=fun i=>by unfold zak;omega
        refine ⟨⟨zaY (fun j=>(zbf s.rw k [] j).ver) d (rvF e out ok) 0,zaw (zbf s.rw k []) d (leaves (rvF e out ok)) 0,⟨[],.ids [d,k]⟩⟩,?_,fun j hj=>?_,fun s' hr hev'=>?_⟩
        ·have e1:s.step o ⟨zaY (fun j=>(zbf s.rw k [] j).ver) d (rvF e out ok) 0,zaw (zbf s.rw k []) d (leaves (rvF e out ok)) 0,⟨[],.ids [d,k]⟩⟩ = zal (s.killed k []) d (rvF e out ok):=by
          unfold St.step zal;rw [hdst];rfl
         rw [e1];exact hk
        ·have hj:¬ (j % 1000 = d % 1000 \/ j % 1000 = k % 1000):=fun h=>by
          have:=(has j).2 h
          rw [this] at hj;cases hj
         have h2:=(zbU (R:=zbf s.rw k []) (R':=zbf s.rw k []) (d:=d) (fun _=>rfl) j (leaves (rvF e out ok)) 0).2 fun ⟨m,_,hm⟩=>hj (.inl (by rw [hm];exact hlm _))
         show zaw (zbf s.rw k []) d (leaves (rvF e out ok)) 0 j = s.rw j
         rw [h2.1,zcw fun h=>hj (.inr (hmod j h))]
        ·have hag:∀ j,(j % 1000 = d % 1000 \/ j % 1000 = k % 1000)->s'.rw j = s.rw j:=fun j hj=>hr j (.inr ((has j).2 hj))
         have hkag:∀ j,(j % 1000 = d % 1000 \/ j % 1000 = k % 1000)->zbf s.rw k [] j = zbf s'.rw k [] j:=fun j hj=>by unfold zbf;rw [hag j hj]
         have e1:s'.stepIn o ⟨zaY (fun j=>(zbf s.rw k [] j).ver) d (rvF e out ok) 0,zaw (zbf s.rw k []) d (leaves (rvF e out ok)) 0,⟨[],.ids [d,k]⟩⟩ = zal (s'.killed k []) d (rvF e out ok):=by
          unfold St.stepIn zal
          rw [hdst,zef (vr':=fun j=>(zbf s'.rw k [] j).ver) (fun i=>by rw [hkag _ (.inl (hlm i))])]
          congr 2
          funext j
          obtain ⟨a1,a2⟩:=zbU (R:=zbf s.rw k []) (R':=zbf s'.rw k []) (d:=d) (fun i=>hkag _ (.inl (hlm i))) j (leaves (rvF e out ok)) 0
          by_cases hl:∃ m,m < (leaves (rvF e out ok)).length/\j = zak d (0 + m)
          ·have hb:(Tc.ids [d,k]).has j = true:=(has j).2 (.inl (by obtain ⟨m,_,rfl⟩:=hl;exact hlm _))
           simp only [hb,if_true]
           exact a1 hl
          ·obtain ⟨b1,b2⟩:=a2 hl
           show _ = zaw (zbf s'.rw k []) d (leaves (rvF e out ok)) 0 j
           rw [b2]
           by_cases hb:(Tc.ids [d,k]).has j = true
           ·simp only [hb,if_true]
            rw [b1];exact hkag j ((has j).1 hb)
           ·simp only [hb,if_false]
            exact (zcw fun h=>hb ((has j).2 (.inr (hmod j h)))).symm
         rw [e1]
         have hargs:c.args.toList.map s'.ev = c.args.toList.map s.ev:=List.map_congr_left fun x hx=>hev' x (by simp [ho,Op.operands,Call.operands,hc];exact .inr (by simpa using hx))
         have hf':s'.ev f = .clo g caps:=by rw [hev' f (by simp [ho,Op.operands,Call.operands,hc]),hev]
         exact zyT ho hc hdst (hd d hdst) hf' haf (by rw [hargs];exact hraw) hpre (by rw [hag k (.inr rfl)];exact hj) hpl (fun h=>hdk (by rw [h])) hjl
       ·have has:∀ j,(Tc.ids [d,k]).has j = true ↔ (j % 1000 = d % 1000 \/ j % 1000 = k % 1000):=fun j=>by
         simp only [Tc.has,List.any_cons,List.any_nil,Bool.or_false,Bool.or_eq_true,beq_iff_eq]
         exact ⟨fun h=>h.imp Eq.symm Eq.symm,fun h=>h.imp Eq.symm Eq.symm⟩
        have hkag:∀ s':St,(∀ j,(Tc.ids [d,k]).has j = true->s'.rw j = s.rw j)->∀ j,(j % 1000 = d % 1000 \/ j % 1000 = k % 1000)->(s.row k r).rw j = (s'.row k r).rw j:=fun s' hr j hj=>by
         show (if j = k then r else s.rw j) = (if j = k then r else s'.rw j)
         rw [hr j ((has j).2 hj)]
        have fin:∀ s':St,(∀ j,(⟨rd,.ids [d,k]⟩:Ent).looks j = true \/ (Tc.ids [d,k]).has j = true->s'.rw j = s.rw j)->(∀ y ∈ o.op.operands,s'.ev y = s.ev y)->za9 P G s' o (zHF (s'.row k r) d x q):=fun s' hr hev'=>by
         have hargs:c.args.toList.map s'.ev = c.args.toList.map s.ev:=List.map_congr_left fun x hx=>hev' x (by simp [ho,Op.operands,Call.operands,hc];exact .inr (by simpa using hx))
         have hf':s'.ev f = .clo g caps:=by rw [hev' f (by simp [ho,Op.operands,Call.operands,hc]),hev]
         intro a w hs K' Q hK
         refine zhw (K:=fun S=>S = zHF (s'.row k r) d x q) ho hc (fun y hy=>by rw [hdst] at hy;cases hy;exact hd d hdst) ?_ hs fun s1 a' w' hw hs1=>hK a' w' (hw ▸ hs1)
         rw [hf']
         show askG P s' g (c.args.toList.map s'.ev ++ caps) o.dst _
         rw [hargs,hdst]
         exact hcall s' (hr k (.inr ((has k).2 (.inr rfl)))) (fun a ha=>hr a (.inl (List.any_eq_true.2 ⟨a,ha,sp⟩))) _ rfl
        cases q with
        | some p =>
          refine ⟨⟨p,(s.row k r).rw,⟨rd,.ids [d,k]⟩⟩,?_,fun j hj=>?_,fun s' hr hev'=>?_⟩
          ·have e1:s.step o ⟨p,(s.row k r).rw,⟨rd,.ids [d,k]⟩⟩ = zHF (s.row k r) d x (some p):=by
            unfold St.step zHF;rw [hdst];rfl
           rw [e1];exact hk
          ·exact if_neg fun h=>by rw [(has j).2 (.inr (by rw [h]))] at hj;cases hj
          ·have e1:s'.stepIn o ⟨p,(s.row k r).rw,⟨rd,.ids [d,k]⟩⟩ = zHF (s'.row k r) d x (some p):=by
            unfold St.stepIn zHF
            rw [hdst]
            congr 2
            funext j
            by_cases hb:(Tc.ids [d,k]).has j = true
            ·simp only [hb,if_true]
             exact hkag s' (fun j hj=>hr j (.inr hj)) j ((has j).1 hb)
            ·simp only [hb,if_false]
             exact (if_neg fun h=>hb ((has j).2 (.inr (by rw [h])))).symm
           rw [e1]
           exact fin s' hr hev'
        | none =>
          have hlm:∀ i,zak d i % 1000 = d % 1000:=fun i=>by unfold zak;omega
          refine ⟨⟨zaY (fun j=>((s.row k r).rw j).ver) d x 0,zaw (s.row k r).rw d (leaves x) 0,⟨rd,.ids [d,k]⟩⟩,?_,fun j hj=>?_,fun s' hr hev'=>?_⟩
          ·have e1:s.step o ⟨zaY (fun j=>((s.row k r).rw j).ver) d x 0,zaw (s.row k r).rw d (leaves x) 0,⟨rd,.ids [d,k]⟩⟩ = zal (s.row k r) d x:=by
            unfold St.step zal;rw [hdst];rfl
           rw [e1];exact hk
          ·have hj:¬ (j % 1000 = d % 1000 \/ j % 1000 = k % 1000):=fun h=>by
            have:=(has j).2 h
            rw [this] at hj;cases hj
           have h2:=(zbU (R:=(s.row k r).rw) (R':=(s.row k r).rw) (d:=d) (fun _=>rfl) j (leaves x) 0).2 fun ⟨m,_,hm⟩=>hj (.inl (by rw [hm];exact hlm _))
           show zaw (s.row k r).rw d (leaves x) 0 j = s.rw j
           rw [h2.1];exact if_neg fun h=>hj (.inr (by rw [h]))
          ·have hkag:=hkag s' fun j hj=>hr j (.inr hj)
           have e1:s'.stepIn o ⟨zaY (fun j=>((s.row k r).rw j).ver) d x 0,zaw (s.row k r).rw d (leaves x) 0,⟨rd,.ids [d,k]⟩⟩ = zal (s'.row k r) d x:=by
            unfold St.stepIn zal
            rw [hdst,zef (vr':=fun j=>((s'.row k r).rw j).ver) (fun i=>by rw [hkag _ (.inl (hlm i))])]
            congr 2
            funext j
            obtain ⟨a1,a2⟩:=zbU (R:=(s.row k r).rw) (R':=(s'.row k r).rw) (d:=d) (fun i=>hkag _ (.inl (hlm i))) j (leaves x) 0
            by_cases hl:∃ m,m < (leaves x).length/\j = zak d (0 + m)
            ·have hb:(Tc.ids [d,k]).has j = true:=(has j).2 (.inl (by obtain ⟨m,_,rfl⟩:=hl;exact hlm _))
             simp only [hb,if_true]
             exact a1 hl
            ·obtain ⟨b1,b2⟩:=a2 hl
             show _ = zaw (s'.row k r).rw d (leaves x) 0 j
             rw [b2]
             by_cases hb:(Tc.ids [d,k]).has j = true
             ·simp only [hb,if_true]
              rw [b1];exact hkag j ((has j).1 hb)
             ·simp only [hb,if_false]
              exact (if_neg fun h=>hb ((has j).2 (.inr (by rw [h])))).symm
           rw [e1]
           exact fin s' hr hev'
      ·exact hk.elim
     unfold ze8 at hk
     split at hk
     ·rename_i g caps hev
      obtain ⟨rv,hac,hk⟩:=hk
      have vers:∀ s':St,(∀ k,(Tc.res d).has k = true->s'.rw k = s.rw k)->zaY (fun k=>(s'.rw k).ver) d rv 0 = zaY (fun k=>(s.rw k).ver) d rv 0/\∀ k,zaw s'.rw d (leaves rv) 0 k = if (Tc.res d).has k = true then zaw s.rw d (leaves rv) 0 k else s'.rw k:=fun s' hr=>by
       have hleaf:∀ i,s'.rw (zak d i) = s.rw (zak d i):=fun i=>hr _ (by simp [Tc.has,zak])
       refine ⟨?_,fun k=>?_⟩
       ·have e0:∀ (r:RV) (i:Nat),zbI (fun k=>(s'.rw k).ver) d r i = zbI (fun k=>(s.rw k).ver) d r i:=fun r i=>by
         cases r <;> simp only [zbI,hleaf]
        have eL:∀ (f g:RV->Nat->PV),(∀ r i,f r i = g r i)->∀ l i,zbl f l i = zbl g l i:=fun f g h l=>by
         induction l with
         | nil=>intro i;rfl
         | cons r rs ih=>intro i;simp only [zbl,h,ih]
        have e1:∀ (r:RV) (i:Nat),zbO (fun k=>(s'.rw k).ver) d r i = zbO (fun k=>(s.rw k).ver) d r i:=fun r i=>by
         cases r <;> simp only [zbO,e0,eL _ _ e0]
        cases rv <;> simp only [zaY,e1,e0,eL _ _ e1]
       ·have:∀ (ls:List (TypeId × Option Nat × List PV)) (i:Nat),zaw s'.rw d ls i k = if (Tc.res d).has k = true then zaw s.rw d ls i k else s'.rw k:=by
         intro ls
         induction ls with
         | nil =>
           intro i
           simp only [zaw]
           by_cases hk:(Tc.res d).has k = true
           ·rw [if_pos hk];exact hr k hk
           ·rw [if_neg hk]
         | cons l ls ih =>
           intro i
           obtain ⟨e,sz,c⟩:=l
           simp only [zaw]
           by_cases he:k = zak d i
           ·subst he
            rw [zaf,zaf,if_pos (by simp [Tc.has,zak]),hleaf]
            have hk:zbV s'.rw d i e sz c = zbV s.rw d i e sz c:=by
             cases sz <;> simp [zbV,zaX,hleaf]
            rw [hk]
           ·rw [zam _ _ he,zam _ _ he];exact ih (i + 1)
        exact this _ _
      refine ⟨⟨zaY (fun k=>(s.rw k).ver) d rv 0,zaw s.rw d (leaves rv) 0,⟨(c.args.toList.map s.ev).flatMap (zeM s.rw zgZ) ++ zeM s.rw (zgZ + 1) (s.ev f),.res d⟩⟩,?_,fun k hn=>?_,fun s' hr hev'=>?_⟩
      ·have e:s.step o ⟨zaY (fun k=>(s.rw k).ver) d rv 0,zaw s.rw d (leaves rv) 0,⟨(c.args.toList.map s.ev).flatMap (zeM s.rw zgZ) ++ zeM s.rw (zgZ + 1) (s.ev f),.res d⟩⟩ = zal s d rv:=by unfold St.step zal;rw [hdst]
       rw [e];exact hk
      ·have hn:(Tc.res d).has k = false:=hn
       have:=(vers s fun _ _=>rfl).2 k
       rw [hn] at this
       simpa using this
      ·obtain ⟨v1,v2⟩:=vers s' fun k hk=>hr k (.inr hk)
       have e:s'.stepIn o ⟨zaY (fun k=>(s.rw k).ver) d rv 0,zaw s.rw d (leaves rv) 0,⟨(c.args.toList.map s.ev).flatMap (zeM s.rw zgZ) ++ zeM s.rw (zgZ + 1) (s.ev f),.res d⟩⟩ = zal s' d rv:=by
        unfold St.stepIn zal
        rw [hdst,v1]
        congr 2
        funext k
        exact (v2 k).symm
       rw [e]
       obtain ⟨a1,a2⟩:=args s' (fun k hk=>hr k (.inl (zeL hk))) hev' g caps hev
       obtain ⟨s2,rfl,he⟩:=zpd (K:=(· = zal s' d rv)) (s:=s') ho hc hdst (hd d hdst) (by
        unfold ze8
        rw [a1,hev]
        simp only
        rw [a2]
        exact ⟨rv,hac,rfl⟩)
       exact he
     ·exact hk.elim
   | none =>
     simp only [hdst] at hk
     unfold ze8 at hk
     split at hk
     ·rename_i g caps hev
      obtain ⟨rv,hac,hk⟩:=hk
      refine ⟨⟨.junk,s.rw,⟨(c.args.toList.map s.ev).flatMap (zeM s.rw zgZ) ++ zeM s.rw (zgZ + 1) (s.ev f),.ids []⟩⟩,?_,fun k _=>rfl,fun s' hr hev'=>?_⟩
      ·have e:s.step o ⟨.junk,s.rw,⟨(c.args.toList.map s.ev).flatMap (zeM s.rw zgZ) ++ zeM s.rw (zgZ + 1) (s.ev f),.ids []⟩⟩ = s:=by unfold St.step St.put;rw [hdst]
       rw [e];exact hk
      ·have e:s'.stepIn o ⟨.junk,s.rw,⟨(c.args.toList.map s.ev).flatMap (zeM s.rw zgZ) ++ zeM s.rw (zgZ + 1) (s.ev f),.ids []⟩⟩ = s':=by
        unfold St.stepIn St.put
        rw [hdst]
        simp only [Tc.has,List.any_nil,Bool.false_eq_true,if_false]
       rw [e]
       obtain ⟨a1,a2⟩:=args s' (fun k hk=>hr k (.inl (zeL hk))) hev' g caps hev
       obtain ⟨s2,rfl,he⟩:=zkS (G:=G) (K:=(· = s')) (s:=s') (o:=o) hT hd (by
        simp only [opK,ho,hc,hdst]
        refine .inl ?_
        unfold ze8
        rw [a1,hev]
        simp only
        rw [a2]
        exact ⟨rv,hac,trivial⟩)
       exact he
     ·exact hk.elim
  ·exact read hk
 ·exact read hk
end
set_option linter.unusedVariables false
theorem zHD {s:St} {d:Nat} {p:PV} (h:s.sl d = p):s.put (some d) p = s:=by
 unfold St.put
 have:(fun i=>if i = d then p else s.sl i) = s.sl:=by
  funext i
  by_cases e:i = d
  ·rw [if_pos e,e,h]
  ·rw [if_neg e]
 show ({ sl:=fun i=>if i = d then p else s.sl i,rw:=s.rw }:St) = s
 rw [this]
section
variable {P:Program} {T:Tab} {G:Ghost} {ops:Array Oper}
theorem zyK [zae] (hT:T.Ok P):∀ (l:List Oper) (acc:List Ent) (s:St) (K:St->Prop),(∀ o ∈ l,∀ d,o.dst = some d->d < G.n)->zf7 P T ops acc l s K->∃ tr s',Tr P G ops l s tr s'/\znH ops (acc.reverse ++ tr.map (·.e)) = true/\K s':=by
 intro l
 induction l with
 | nil=>intro acc s K _ h;exact ⟨[],s,.nil s,by simpa using h.1,h.2⟩
 | cons o os ih =>
   intro acc s K hd hk
   have hd0:=hd o sp
   have hds:∀ o ∈ os,∀ d,o.dst = some d->d < G.n:=fun o ho=>hd o (by simp [ho])
   have run:∀ (hg:zEG ops s o = some true),dK P T s o (fun e s2=>zf7 P T ops (e :: acc) os s2 K)->∃ tr s',Tr P G ops (o :: os) s tr s'/\znH ops (acc.reverse ++ tr.map (·.e)) = true/\K s':=fun hg hk=>by
    obtain ⟨x,hx,hr,he⟩:=zIB (G:=G) hT hd0 hk
    obtain ⟨tr,s',ht,hl,hk'⟩:=ih _ _ K hds hx
    exact ⟨x :: tr,s',.cons (.step hg hr he) ht,by simpa using hl,hk'⟩
   have skp:zEG ops s o = some false->zf7 P T ops (⟨[],.ids []⟩ :: acc) os (s.put o.dst (.v undef)) K->∃ tr s',Tr P G ops (o :: os) s tr s'/\znH ops (acc.reverse ++ tr.map (·.e)) = true/\K s':=fun hg hk=>by
    obtain ⟨tr,s',ht,hl,hk'⟩:=ih _ _ K hds hk
    have e:s.step o ⟨.v undef,s.rw,⟨[],.ids []⟩⟩ = s.put o.dst (.v undef):=by unfold St.step;rfl
    exact ⟨⟨.v undef,s.rw,⟨[],.ids []⟩⟩ :: tr,s',.cons (.skip hg rfl rfl rfl) (by rw [e];exact ht),by simpa using hl,hk'⟩
   simp only [zf7,zxS] at hk
   cases hg:o.guard with
   | none =>
     simp only [hg] at hk
     exact run (by simp [zEG,hg]) hk
   | some jw =>
     obtain ⟨j,want⟩:=jw
     simp only [hg] at hk
     split at hk
     ·rename_i d hdj
      split at hk
      ·rename_i b hb
       by_cases hbw:b = want
       ·have h1:=hk.1 hbw
        rw [zHD (by rw [hb,hbw])] at h1
        exact run (by simp [zEG,hg,hdj,hb,hbw]) h1
       ·have hbw':b = !want:=by cases b <;> cases want <;> simp_all
        have h2:=hk.2 hbw'
        rw [zHD (s:=s) (by rw [hb,hbw'])] at h2
        exact skp (by simp [zEG,hg,hdj,hb,hbw]) h2
      ·rename_i cs hb
       exact skp (by simp [zEG,hg,hdj,hb]) hk
      ·exact hk.elim
     ·exact hk.elim
theorem zyL [zae] (hT:T.Ok P) (hm:P.follows .mixedOrders = true) {id:Nat} (ho:zmf ops = true) {s:St} {K:St->Prop} (hd:∀ o ∈ ops,∀ d,o.dst = some d->d < G.n) (hk:zf7 P T ops [] ops.toList s K) {Q:Exit->Act->World->Prop}
 (hQ:∀ s' a' w',K s'->Sim G s' a' w'->Q .normal a' w') {a:Act} {w:World} (hs:Sim G s a w):(Code.region id ops true).wp P Q a w:=by
 obtain ⟨tr,s',ht,hln,hk'⟩:=zyK (G:=G) hT ops.toList [] s K (fun o h=>hd o (by simpa using h)) hk
 refine wp_region_any hm ?_
 obtain ⟨E,hsE⟩:=hs
 have hs1:Sim G s a w.drew:=⟨E,hsE.ext (Ext.drew w)⟩
 have h0:∀ k,(Array.replicate ops.size false).getD k false = false:=fun k=>by
  rw [Array.getD_eq_getD_getElem?,Array.getElem?_replicate];split <;> rfl
 have e0:(fun k=>(Array.replicate ops.size false).getD k false) = fun _=>false:=funext h0
 refine zCB (zyW ho) (zFh (by simpa using hln)) ht hd (fun a w h=>hQ s' a w hk' h) ops.size _ a w.drew sp ?_ ?_ ?_
 ·rw [e0];intro j oj hj h;cases h
 ·rw [e0]
  have l0:∀ n (p:Nat->Bool),zbv n (fun k=>false && p k) = none:=by
   intro n p;induction n with
   | zero=>rfl
   | succ n ih=>simp only [zbv];simpa using ih
  have e:stD ops tr s (fun _=>false) = s:=by
   unfold stD
   have e1:zki ops.toList tr s (fun _=>false) = s.sl:=by funext t;unfold zki;rw [l0]
   have e2:zkj ops.toList tr s (fun _=>false) = s.rw:=by funext k;unfold zkj;rw [l0]
   rw [e1,e2]
  rw [e];exact hs1
 ·have:(Array.replicate ops.size false).toList.length = ops.size:=sp
  exact Nat.le_trans List.count_le_length (Nat.le_of_eq this)
end
inductive AX where
 | norm
 | exit (id:Nat)
 | ret
def AX.blk (id:Nat) (Q:AX->St->Prop):AX->St->Prop
 | .norm,s=>Q .norm s
 | .ret,s=>Q .ret s
 | .exit i,s=>if i = id then Q .norm s else Q (.exit i) s
def AX.seq (K:St->Prop) (Q:AX->St->Prop):AX->St->Prop
 | .norm,s=>K s
 | .ret,s=>Q .ret s
 | .exit i,s=>Q (.exit i) s
def zs8 [zae] (body:(AX->St->Prop)->St->Prop) (Q:AX->St->Prop) (s:St):Prop :=
 ∃ (α:Type) (I:α->St->Prop) (μ:α->Nat),(∃ x s0,Wk s s0/\I x s0) /\
  ∀ x s1,I x s1->body (AX.seq (fun s2=>∃ x' s3,Wk s2 s3/\I x' s3/\μ x' < μ x) Q) s1
def cwp [zae] (P:Program) (T:Tab):Code->(AX->St->Prop)->St->Prop
 | .skip,Q,s=>Q .norm s
 | .region _ ops draw,Q,s=>(match draw with
   | false=>zuH P T ops ops.toList s (Q .norm)
   | true=>zmf ops = true/\zf7 P T ops [] ops.toList s (Q .norm))
 | .seq x y,Q,s=>cwp P T x (AX.seq (cwp P T y Q) Q) s
 | .cond c x y,Q,s=>(match s.ev c with | .v (.bool b)=>(b = true->cwp P T x Q s)/\(b = false->cwp P T y Q s) | _=>False)
 | .block id x,Q,s=>cwp P T x (AX.blk id Q) s
 | .loop x,Q,s=>zs8 (cwp P T x) Q s
 | .exit id,Q,s=>Q (.exit id) s
 | .ret,Q,s=>Q .ret s
 | .label _,Q,s=>Q .norm s
 | _,_,_=>False
def fits (n:Nat):Code->Bool
 | .region _ ops _=>ops.all fun o=>match o.dst with | some d=>decide (d < n) | none=>true
 | .seq x y=>fits n x && fits n y
 | .cond _ x y=>fits n x && fits n y
 | .block _ x=>fits n x
 | .loop x=>fits n x
 | _=>true
def zNB [zae] (G:Ghost) (Q:AX->St->Prop):Exit->Act->World->Prop
 | .normal,a,w=>∃ s,Sim G s a w/\Q .norm s
 | .exit id,a,w=>∃ s,Sim G s a w/\Q (.exit id) s
 | .ret,a,w=>∃ s,Sim G s a w/\Q .ret s
 | _,_,_=>False
section
variable {P:Program} {T:Tab} {G:Ghost}
theorem zin [zae] (hT:T.Ok P) (hm:P.follows .mixedOrders = true):∀ (c:Code),fits G.n c = true->∀ (Q:AX->St->Prop) (s:St),cwp P T c Q s->∀ (a:Act) (w:World),Sim G s a w->c.wp P (zNB G Q) a w:=by
 intro c
 induction c with
 | skip=>intro _ Q s hk a w hs;exact wp_skip ⟨s,hs,hk⟩
 | region id ops draw =>
   intro hf Q s hk a w hs
   have hd:∀ o ∈ ops,∀ d,o.dst = some d->d < G.n:=fun o ho d hod=>by
    simp only [fits,Array.all_eq_true'] at hf
    have:=hf o ho
    rw [hod] at this
    simpa using this
   cases draw with
   | false =>
     have hk':zuH P T ops ops.toList s (Q .norm):=hk
     exact wp_region_list (zCE hT ops.toList s (Q .norm) (fun o h=>hd o (by simpa using h)) hk' (fun s' a' w' hq hs'=>⟨s',hs',hq⟩) a w hs)
   | true =>
     have hk':zmf ops = true/\zf7 P T ops [] ops.toList s (Q .norm):=hk
     exact zyL hT hm hk'.1 hd hk'.2 (fun s' a' w' hq hs'=>⟨s',hs',hq⟩) hs
 | seq x y ihx ihy =>
   intro hf Q s hk a w hs
   simp only [fits,Bool.and_eq_true] at hf
   refine wp_seq (wp_mono (ihx hf.1 _ s hk a w hs) fun e a' w' h=>?_)
   cases e with
   | normal=>obtain ⟨s',hs',hq⟩:=h;exact ihy hf.2 Q s' hq a' w' hs'
   | exit id=>exact h
   | ret=>exact h
   | goto l=>exact h.elim
   | panic ch=>exact h.elim
   | outgrown=>exact h.elim
 | cond c x y ihx ihy =>
   intro hf Q s hk a w hs
   simp only [fits,Bool.and_eq_true] at hf
   simp only [cwp] at hk
   split at hk
   ·rename_i b hb
    obtain ⟨E,hsE⟩:=hs
    have hv:=zaB hsE.slots c
    rw [hb] at hv
    refine wp_cond hv.v_eq ?_
    cases b with
    | true=>exact ihx hf.1 Q s (hk.1 rfl) a w ⟨E,hsE⟩
    | false=>exact ihy hf.2 Q s (hk.2 rfl) a w ⟨E,hsE⟩
   ·exact hk.elim
 | block id x ih =>
   intro hf Q s hk a w hs
   refine wp_block (wp_mono (ih hf _ s hk a w hs) fun e a' w' h=>?_)
   cases e with
   | normal=>exact h
   | exit i =>
     obtain ⟨s',hs',hq⟩:=h
     simp only [Exit.inBlock]
     simp only [AX.blk] at hq
     by_cases hi:i = id
     ·rw [if_pos hi] at hq ⊢;exact ⟨s',hs',hq⟩
     ·rw [if_neg hi] at hq ⊢;exact ⟨s',hs',hq⟩
   | ret=>exact h
   | goto l=>exact h.elim
   | panic ch=>exact h.elim
   | outgrown=>exact h.elim
 | loop x ih =>
   intro hf Q s hk a w hs
   obtain ⟨α,I,μ,⟨x0,s0,hw0,hI0⟩,hround⟩:=hk
   have key:∀ n x1 s1,μ x1 = n->I x1 s1->∀ a w,Sim G s1 a w->∀ (b:Frame) (k:List Item) (cs:List Frame),
    ∃ e a' w',zNB G Q e a' w'/\Arrives P (lone (b.at a (.code x :: .inLoop x :: k)) cs w) b k cs e a' w':=by
    intro n
    induction n using Nat.strongRecOn with
    | _ n ihn =>
      intro x1 s1 hn hI a w hs b k cs
      obtain ⟨e,a₁,w₁,hq,harr⟩:=ih hf _ s1 (hround x1 s1 hI) a w hs b (.inLoop x :: k) cs
      cases e with
      | normal =>
        obtain ⟨s2,hs2,x',s3,hw3,hI3,hlt⟩:=hq
        obtain ⟨e₂,a₂,w₂,hq₂,harr₂⟩:=ihn (μ x') (hn ▸ hlt) x' s3 rfl hI3 a₁ w₁ (hw3 G a₁ w₁ hs2) b k cs
        exact ⟨e₂,a₂,w₂,hq₂,.of_steps (Steps.trans harr (.one step_inLoop)) harr₂⟩
      | exit id=>exact ⟨.exit id,a₁,w₁,hq,.pass (x:=.inLoop x) rfl (fun _ _=>.inl sp) harr⟩
      | ret=>exact ⟨.ret,a₁,w₁,hq,.pass (x:=.inLoop x) rfl (fun _ _=>.inl sp) harr⟩
      | goto l=>exact hq.elim
      | panic ch=>exact hq.elim
      | outgrown=>exact hq.elim
   intro b k cs
   obtain ⟨e,a',w',hq,harr⟩:=key _ x0 s0 rfl hI0 a w (hw0 G a w hs) b k cs
   exact ⟨e,a',w',hq,.of_steps (.one step_loop) harr⟩
 | exit id=>intro _ Q s hk a w hs;exact wp_exit ⟨s,hs,hk⟩
 | ret=>intro _ Q s hk a w hs;exact wp_ret ⟨s,hs,hk⟩
 | label l=>intro _ Q s hk a w hs;exact wp_label ⟨s,hs,hk⟩
 | rangeFunc _ _ _ _=>intro _ Q s hk;exact hk.elim
 | scope _ _=>intro _ Q s hk;exact hk.elim
 | goto _=>intro _ Q s hk;exact hk.elim
 | refuse _=>intro _ Q s hk;exact hk.elim
end
def zPe [zae] (P:Program) (n:Nat) (c:Code) (Q:AX->St->Prop) (s:St):Prop :=
 ∀ G:Ghost,G.n = n->∀ (a:Act) (w:World),Sim G s a w->c.wp P (zNB G Q) a w
theorem zIA [zae] {P:Program} {T:Tab} {n:Nat} {Q:AX->St->Prop} {s:St} {c:Code} (hT:T.Ok P) (hm:P.follows .mixedOrders = true) (hf:fits n c = true) (h:cwp P T c Q s):zPe P n c Q s :=
 fun G hn a w hs=>zin hT hm c (by rw [hn];exact hf) Q s h a w hs
end Go.Abs

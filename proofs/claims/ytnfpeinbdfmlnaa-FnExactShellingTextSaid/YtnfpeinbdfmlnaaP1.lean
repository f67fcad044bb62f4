/- DERIVED by an AI agent. -/
import Derived.Test.YtnfpeinbdfmlnaaA13
import Derived.Test.YtnfpeinbdfmlnaaA15
/- DERIVED by an AI agent. Plain facts of lists. No program in sight. -/
namespace Go.Abs
theorem getD_mem {α : Type} {xs : List α} {i : Nat} (d : α) (h : i < xs.length) : xs.getD i d ∈ xs := by
  have : xs.getD i d = xs[i] := by simp [List.getD, h]
  rw [this]; exact List.getElem_mem h
theorem getD_at {α : Type} {xs : List α} {i : Nat} (d : α) (h : i < xs.length) : xs.getD i d = xs[i] := by simp [List.getD, h]
theorem mem_getD {α : Type} {xs : List α} {x : α} (d : α) (h : x ∈ xs) : ∃ i, i < xs.length ∧ xs.getD i d = x := by
  obtain ⟨i, hi, rfl⟩ := List.getElem_of_mem h
  exact ⟨i, hi, getD_at d hi⟩
theorem take_snoc {α : Type} {xs : List α} {i : Nat} (d : α) (h : i < xs.length) : xs.take (i + 1) = xs.take i ++ [xs.getD i d] := by
  rw [getD_at d h]; simp
theorem set_fill {α : Type} {xs : List α} {i : Nat} (d z : α) (h : i < xs.length) : (xs.take i ++ List.replicate (xs.length - i) z).set i (xs.getD i d) = xs.take (i + 1) ++ List.replicate (xs.length - (i + 1)) z := by
  rw [take_snoc d h]
  have e : xs.length - i = (xs.length - (i + 1)) + 1 := by omega
  rw [e, List.replicate_succ]
  have hl : (xs.take i).length = i := by simp; omega
  rw [List.set_append_right _ _ (by omega), hl, Nat.sub_self]
  simp
theorem wrap_nat {i n : Nat} (h : i < n) (hn : n ≤ 9223372036854775807) : IntKind.i64.wrap ((i : Int) + 1) = ((i + 1 : Nat) : Int) := by
  rw [wrap_id (by omega) (by omega)]; rfl
theorem fill_length {α : Type} {xs : List α} {i : Nat} {z : α} (h : i ≤ xs.length) : (xs.take i ++ List.replicate (xs.length - i) z).length = xs.length := by simp; omega
theorem toNat_pred (k : Nat) : ((k : Int) - 1).toNat = k - 1 := by omega
end Go.Abs

/- DERIVED by an AI agent. Plain facts of small numbers as sets. No program in sight. -/
namespace Go.Abs
def popN (n : Nat) : Nat := if h : n = 0 then 0 else n % 2 + popN (n / 2)
termination_by n
decreasing_by omega
theorem popN_zero : popN 0 = 0 := by rw [popN]; simp
theorem popN_pos {n : Nat} (h : n ≠ 0) : popN n = n % 2 + popN (n / 2) := by rw [popN]; simp [h]
theorem popN_le (n : Nat) : popN n ≤ n := by
  induction n using Nat.strongRecOn with
  | ind n ih =>
    by_cases h : n = 0
    · subst h; simp [popN_zero]
    · rw [popN_pos h]
      have := ih (n / 2) (by omega)
      omega
/-- The bits of a number below 64. -/
def pop6 (n : Nat) : Nat := n % 2 + n / 2 % 2 + n / 4 % 2 + n / 8 % 2 + n / 16 % 2 + n / 32 % 2
theorem popN_6 {n : Nat} (h : n < 64) : popN n = pop6 n := by
  have st : ∀ s, popN s = s % 2 + popN (s / 2) := by
    intro s
    by_cases h0 : s = 0
    · subst h0; simp [popN_zero]
    · exact popN_pos h0
  rw [st n, st (n / 2), st (n / 2 / 2), st (n / 2 / 2 / 2), st (n / 2 / 2 / 2 / 2), st (n / 2 / 2 / 2 / 2 / 2)]
  have h6 : n / 2 / 2 / 2 / 2 / 2 / 2 = 0 := by omega
  rw [h6, popN_zero]
  unfold pop6
  omega
theorem iand_one {n : Nat} (h : n < 9223372036854775808) : iand .i64 (n : Int) 1 = ((n % 2 : Nat) : Int) := by
  have e : (BitVec.ofInt 64 (n : Int) &&& BitVec.ofInt 64 1).toNat = n % 2 := by
    have h1 : BitVec.ofInt 64 (n : Int) = BitVec.ofNat 64 n := by simp
    have h2 : BitVec.ofInt 64 (1 : Int) = 1#64 := by decide
    rw [h1, h2, BitVec.toNat_and, BitVec.toNat_ofNat, Nat.mod_eq_of_lt (by omega)]
    simp
  show IntKind.i64.wrap (((BitVec.ofInt 64 (n : Int) &&& BitVec.ofInt 64 1).toNat : Nat) : Int) = _
  rw [e, wrap_id (by omega) (by omega)]
theorem ishr_one (n : Nat) : ishr .i64 (n : Int) 1 = ((n / 2 : Nat) : Int) := by
  simp [ishr, IntKind.bits]
  exact Int.fdiv_eq_ediv_of_nonneg _ (by omega)
theorem ishl_small {n : Nat} (h : n ≤ 6) : ishl .i64 1 (n : Int) = ((2 ^ n : Nat) : Int) := by
  have : ∀ m : Fin 7, ishl .i64 1 ((m.val : Nat) : Int) = ((2 ^ m.val : Nat) : Int) := by decide +kernel
  exact this ⟨n, by omega⟩
theorem uwrap_nat {n : Nat} (h : n < 9223372036854775808) : IntKind.u64.wrap (n : Int) = (n : Int) := by
  simp [IntKind.wrap, IntKind.bits, IntKind.signed]
  omega
def inSet (n s : Int) : Bool := decide (0 ≤ n ∧ n ≤ 6 ∧ 0 ≤ s ∧ s < 2 ^ n.toNat)
theorem pow_nat (m : Nat) : (2 : Int) ^ ((m : Int)).toNat = ((2 ^ m : Nat) : Int) := by simp
theorem two_pow_le {m : Nat} (h : m ≤ 6) : 2 ^ m ≤ 64 := by
  have : ∀ k : Fin 7, 2 ^ k.val ≤ 64 := by decide
  exact this ⟨m, by omega⟩
theorem inSet_lt {n s : Int} (h : inSet n s = true) : 0 ≤ s ∧ s < 64 := by
  simp only [inSet, decide_eq_true_eq] at h
  obtain ⟨h0, h6, hs, hl⟩ := h
  obtain ⟨m, rfl⟩ := Int.eq_ofNat_of_zero_le h0
  rw [pow_nat] at hl
  have := two_pow_le (m := m) (by omega)
  omega
end Go.Abs

/- DERIVED by an AI agent. Plain facts of sets as numbers, of lists that are rearranged. No program in sight. -/
namespace Go.Abs

theorem toNat_bv {a : Nat} (ha : a < 9223372036854775808) : (BitVec.ofInt 64 (a : Int)).toNat = a := by
  simp
  omega
theorem iand_nat {a b : Nat} (ha : a < 9223372036854775808) (hb : b < 9223372036854775808) : iand .i64 (a : Int) (b : Int) = ((a &&& b : Nat) : Int) := by
  show IntKind.i64.wrap (((BitVec.ofInt 64 (a : Int) &&& BitVec.ofInt 64 (b : Int)).toNat : Nat) : Int) = _
  rw [BitVec.toNat_and, toNat_bv ha, toNat_bv hb]
  have : a &&& b ≤ a := Nat.and_le_left
  exact wrap_id (by omega) (by omega)
theorem lt_63_or {a b : Nat} (ha : a < 9223372036854775808) (hb : b < 9223372036854775808) : a ||| b < 9223372036854775808 := Nat.or_lt_two_pow (n := 63) ha hb
theorem lt_63_xor {a b : Nat} (ha : a < 9223372036854775808) (hb : b < 9223372036854775808) : a ^^^ b < 9223372036854775808 := Nat.xor_lt_two_pow (n := 63) ha hb
theorem ior_nat {a b : Nat} (ha : a < 9223372036854775808) (hb : b < 9223372036854775808) : ior .i64 (a : Int) (b : Int) = ((a ||| b : Nat) : Int) := by
  show IntKind.i64.wrap (((BitVec.ofInt 64 (a : Int) ||| BitVec.ofInt 64 (b : Int)).toNat : Nat) : Int) = _
  rw [BitVec.toNat_or, toNat_bv ha, toNat_bv hb]
  have := lt_63_or ha hb
  exact wrap_id (by omega) (by omega)
theorem iandnot_nat {a b : Nat} (ha : a < 9223372036854775808) (hb : b < 9223372036854775808) : iandnot .i64 (a : Int) (b : Int) = ((a ^^^ (a &&& b) : Nat) : Int) := by
  have h : BitVec.ofInt 64 (a : Int) &&& ~~~ BitVec.ofInt 64 (b : Int) = BitVec.ofInt 64 (a : Int) ^^^ (BitVec.ofInt 64 (a : Int) &&& BitVec.ofInt 64 (b : Int)) := by
    ext i hi
    simp only [BitVec.getElem_and, BitVec.getElem_not, BitVec.getElem_xor]
    cases (BitVec.ofInt 64 (a : Int))[i] <;> cases (BitVec.ofInt 64 (b : Int))[i] <;> rfl
  show IntKind.i64.wrap (((BitVec.ofInt 64 (a : Int) &&& ~~~ BitVec.ofInt 64 (b : Int)).toNat : Nat) : Int) = _
  rw [h, BitVec.toNat_xor, BitVec.toNat_and, toNat_bv ha, toNat_bv hb]
  have h1 : a &&& b ≤ a := Nat.and_le_left
  have := lt_63_xor (a := a) (b := a &&& b) ha (by omega)
  exact wrap_id (by omega) (by omega)
theorem xor_and_zero {a b : Nat} : a ^^^ (a &&& b) = 0 ↔ a &&& b = a := by
  constructor
  · intro h
    have := congrArg (· ^^^ (a &&& b)) h
    simp only [Nat.xor_assoc, Nat.xor_self, Nat.xor_zero, Nat.zero_xor] at this
    exact this.symm
  · intro h; rw [h, Nat.xor_self]
/-- A set within another: one way of telling it as the other. -/
theorem andnot_zero {a b : Int} (ha : 0 ≤ a ∧ a < 64) (hb : 0 ≤ b ∧ b < 64) : iandnot .i64 a b = 0 ↔ iand .i64 a b = a := by
  obtain ⟨a, rfl⟩ := Int.eq_ofNat_of_zero_le ha.1
  obtain ⟨b, rfl⟩ := Int.eq_ofNat_of_zero_le hb.1
  rw [iandnot_nat (by omega) (by omega), iand_nat (by omega) (by omega)]
  have := @xor_and_zero a b
  omega

/-! lists that are rearranged -/
theorem dec_self (xs : List Int) : decide (xs = xs) = true := by simp
theorem dec_self2 (xs : List (List Int)) : decide (xs = xs) = true := by simp
theorem dec_true : decide True = true := by simp
theorem bool_ne_self (b : Bool) : (!(b == b)) = false := by simp
end Go.Abs

/- DERIVED by an AI agent. Plain facts: folds over lists, sets without others, binomials. No program in sight. -/
namespace Go.Abs

end Go.Abs

/- DERIVED by an AI agent. Plain facts: families of sets as predicates, their order, their least and greatest members. No program in sight. -/
namespace Go.Abs

/-! a family as the bits of a number -/
theorem uwrap_id {a : Nat} (ha : a < 18446744073709551616) : IntKind.u64.wrap (a : Int) = (a : Int) := by
  simp [IntKind.wrap, IntKind.bits, IntKind.signed]
  omega
/-! least and greatest members -/
def ofN (l : List Nat) : List Int := l.map fun s : Nat => (s : Int)
theorem ofN_append (a b : List Nat) : ofN (a ++ b) = ofN a ++ ofN b := by simp [ofN]
theorem ofN_one (a : Nat) : [(a : Int)] = ofN [a] := rfl
theorem ofN_length (l : List Nat) : (ofN l).length = l.length := by simp [ofN]
theorem ofN_getD {l : List Nat} {k : Nat} (h : k < l.length) : (ofN l).getD k 0 = ((l.getD k 0 : Nat) : Int) := by
  rw [getD_at 0 (by rw [ofN_length]; exact h), getD_at 0 h]; simp [ofN]
end Go.Abs

/- DERIVED by an AI agent. Plain facts: neighbours in a graph on few points. No program in sight. -/
namespace Go.Abs
/-- The points of a set. -/
def pts (s : Nat) : List Nat := (List.range 6).filter fun i => s.testBit i
end Go.Abs

/- DERIVED by an AI agent. Plain facts: texts cut at a byte, sets read from letters. No program in sight. -/
namespace Go.Abs
def byt (t : ByteArray) (i : Nat) : Nat := (t.data.toList.getD i 0).toNat
/-- The parts before a place, and where the next one begins. -/
def spSt (t : ByteArray) (b : Nat) : Nat → List ByteArray × Nat
  | 0 => ([], 0)
  | i + 1 => if byt t i = b then ((spSt t b i).1 ++ [t.extract (spSt t b i).2 i], i + 1) else spSt t b i
def splitB (t : ByteArray) (b : Nat) : List ByteArray := (spSt t b t.size).1 ++ [t.extract (spSt t b t.size).2 t.size]
structure OkSet (t : ByteArray) : Prop where
  lo : 1 ≤ t.size
  hi : t.size ≤ 6
  dash : (t.toList == (⟨#[45]⟩ : ByteArray).toList) = false
  empty : (t.toList == (⟨#[]⟩ : ByteArray).toList) = false
  letter : ∀ i, i < t.size → 97 ≤ byt t i ∧ byt t i ≤ 102
  rise : ∀ i, i < t.size → 0 < i → byt t (i - 1) < byt t i
def setV (t : ByteArray) (k : Nat) : Nat := (List.range k).foldl (fun s i => s ||| 2 ^ (byt t i - 97)) 0
end Go.Abs

/- DERIVED by an AI agent. Plain facts: matrices modulo a prime, their reduced form. No program in sight. -/
namespace Go.Abs
set_option linter.unusedSimpArgs false
set_option linter.unusedVariables false

/-- All numbers of a list are remainders. -/
def Res (p : Int) (r : List Int) : Prop := ∀ j, 0 ≤ r.getD j 0 ∧ r.getD j 0 < p
theorem Res.nil {p : Int} (hp : 0 < p) : Res p [] := fun j => by simp; exact hp
/-- A matrix whose rows have n remainders each. -/
structure MatOk (p : Int) (n : Nat) (M : Mat) : Prop where
  len : ∀ i, i < M.length → (M.getD i []).length = n
  res : ∀ i, i < M.length → Res p (M.getD i [])

end Go.Abs

/- DERIVED by an AI agent. Plain facts: faces of a complex, their counts, borders and holes. No program in sight. -/
namespace Go.Abs
set_option linter.unusedSimpArgs false
set_option linter.unusedVariables false

/-! counts -/
/-! borders -/
end Go.Abs

/- DERIVED by an AI agent. Plain facts: the complex within a set of points; tables of relations. No program in sight. -/
namespace Go.Abs
set_option linter.unusedSimpArgs false
set_option linter.unusedVariables false

/-! tables of relations -/
/-- A matrix of n + 1 rows and columns whose numbers are at most c in size. -/
structure Sq (n : Nat) (c : Int) (M : Mat) : Prop where
  len : M.length = n + 1
  row : ∀ i, i < n + 1 → (M.getD i []).length = n + 1
  small : ∀ i j, -c ≤ (M.getD i []).getD j 0 ∧ (M.getD i []).getD j 0 ≤ c
theorem Sq.mono {n : Nat} {c d : Int} {M : Mat} (h : Sq n c M) (hcd : c ≤ d) : Sq n d M := ⟨h.len, h.row, fun i j => by have := h.small i j; omega⟩
end Go.Abs

/- DERIVED by an AI agent. Plain facts: the dual, the link, the table of the dual. No program in sight. -/
namespace Go.Abs
set_option linter.unusedSimpArgs false
set_option linter.unusedVariables false

end Go.Abs

/- DERIVED by an AI agent. Plain facts: the search for a list in which each item fits behind those before it; what was tried in vain needs no second try. No program in sight. -/
namespace Go.Abs
set_option linter.unusedSimpArgs false
set_option linter.unusedVariables false

/-- The first list that completes a head. -/
def findF (fits : List Int → Int → Bool) (gens : List Int) : Nat → List Int → Option (List Int)
  | 0, head => some head
  | n + 1, head => gens.findSome? fun g => if decide (g ∈ head) || !fits head g then none else findF fits gens n (head ++ [g])
/-- The items at a number's bits. -/
def subL (items : List Int) (u : Nat) : List Int := ((List.range items.length).filter u.testBit).map fun i => items.getD i 0
/-- A list of the items at a number's bits. -/
def Codes (items : List Int) (u : Nat) (l : List Int) : Prop := l.Perm (subL items u)

theorem codes_zero (items : List Int) : Codes items 0 [] := by
  unfold Codes subL
  have : (List.range items.length).filter (Nat.testBit 0) = [] := by
    rw [List.filter_eq_nil_iff]; intro i _; simp
  rw [this]; exact List.Perm.refl _
theorem codes_mem {items l : List Int} (hn : items.Nodup) {u i : Nat} (h : Codes items u l) (hi : i < items.length) : decide (items.getD i 0 ∈ l) = u.testBit i := by
  have hm : items.getD i 0 ∈ l ↔ items.getD i 0 ∈ subL items u := h.mem_iff
  cases hb : u.testBit i with
  | true =>
    refine decide_eq_true (hm.2 ?_)
    unfold subL
    exact List.mem_map.2 ⟨i, List.mem_filter.2 ⟨List.mem_range.2 hi, hb⟩, rfl⟩
  | false =>
    refine decide_eq_false fun h2 => ?_
    have h3 := hm.1 h2
    unfold subL at h3
    obtain ⟨j, hj, e⟩ := List.mem_map.1 h3
    obtain ⟨hj1, hj2⟩ := List.mem_filter.1 hj
    have hj1 := List.mem_range.1 hj1
    have e1 : items[j] = items[i] := by
      have a : items.getD j 0 = items[j] := by simp [List.getD, hj1]
      have b : items.getD i 0 = items[i] := by simp [List.getD, hi]
      rw [← a, ← b]; exact e
    have : j = i := (List.getElem_inj (h₀ := hj1) (h₁ := hi) hn).1 e1
    subst this
    rw [hb] at hj2; cases hj2
theorem filter_bit (u i : Nat) (h : u.testBit i = false) : ∀ n, i < n → ((List.range n).filter (u ||| 2 ^ i).testBit).Perm ((List.range n).filter u.testBit ++ [i]) := by
  have hb : ∀ j, (u ||| 2 ^ i).testBit j = (u.testBit j || decide (i = j)) := fun j => by rw [Nat.testBit_or, Nat.testBit_two_pow]
  have low : ∀ n, n ≤ i → (List.range n).filter (u ||| 2 ^ i).testBit = (List.range n).filter u.testBit := fun n hn => by
    refine List.filter_congr fun j hj => ?_
    have := List.mem_range.1 hj
    rw [hb, decide_eq_false (show ¬ i = j by omega), Bool.or_false]
  intro n
  induction n with
  | zero => intro h; omega
  | succ n ih =>
    intro hi
    rw [List.range_succ, List.filter_append, List.filter_append]
    by_cases e : i = n
    · subst e
      rw [low i (Nat.le_refl _)]
      have h1 : [i].filter (u ||| 2 ^ i).testBit = [i] := by simp [List.filter_cons, hb]
      have h2 : [i].filter u.testBit = [] := by simp [List.filter_cons, h]
      rw [h1, h2, List.append_nil]
    · have h1 : [n].filter (u ||| 2 ^ i).testBit = [n].filter u.testBit := by
        refine List.filter_congr fun j hj => ?_
        have := List.mem_singleton.1 hj
        rw [hb, decide_eq_false (show ¬ i = j by omega), Bool.or_false]
      rw [h1]
      refine (List.Perm.append_right _ (ih (by omega))).trans ?_
      rw [List.append_assoc, List.append_assoc]
      exact List.Perm.append_left _ List.perm_append_comm
theorem codes_step {items l : List Int} {u i : Nat} (h : Codes items u l) (hi : i < items.length) (hb : u.testBit i = false) : Codes items (u ||| 2 ^ i) (l ++ [items.getD i 0]) := by
  unfold Codes subL at *
  refine (List.Perm.append_right _ h).trans ?_
  have := (filter_bit u i hb items.length hi).map fun i => items.getD i 0
  rw [List.map_append] at this
  exact this.symm
theorem codes_perm {items l l' : List Int} {u : Nat} (h : Codes items u l) (h' : Codes items u l') : l.Perm l' := h.trans h'.symm
theorem findSome_none {α β : Type} {f g : α → Option β} {l : List α} (h : ∀ x ∈ l, f x = none → g x = none) (h0 : l.findSome? f = none) : l.findSome? g = none := by
  rw [List.findSome?_eq_none_iff] at h0 ⊢
  exact fun x hx => h x hx (h0 x hx)
/-- What cannot be completed cannot be completed in another order. -/
theorem findF_perm {fits : List Int → Int → Bool} (hf : ∀ l l' x, l.Perm l' → fits l x = fits l' x) {gens : List Int} : ∀ (n : Nat) (l l' : List Int), l.Perm l' → findF fits gens n l = none → findF fits gens n l' = none := by
  intro n
  induction n with
  | zero => intro l l' _ h; simp [findF] at h
  | succ n ih =>
    intro l l' hp h
    unfold findF at h ⊢
    refine findSome_none (fun x _ hx => ?_) h
    have e1 : decide (x ∈ l) = decide (x ∈ l') := decide_eq_decide.2 hp.mem_iff
    rw [e1, hf l l' x hp] at hx
    by_cases hc : (decide (x ∈ l') || !fits l' x) = true
    · rw [if_pos hc]
    · rw [if_neg hc] at hx ⊢
      exact ih _ _ (hp.append_right [x]) hx
/-- What is marked as tried has been tried in vain. -/
def InvF (fits : List Int → Int → Bool) (items : List Int) (failed : Nat → Bool) : Prop := ∀ u, failed u = true → ∀ n l, Codes items u l → l.length + n = items.length → findF fits items n l = none
theorem invF_set {fits : List Int → Int → Bool} (hf : ∀ l l' x, l.Perm l' → fits l x = fits l' x) {items : List Int} {failed : Nat → Bool} (h : InvF fits items failed) {u n : Nat} {l : List Int} (hc : Codes items u l) (hl : l.length + n = items.length)
    (hn : findF fits items n l = none) : InvF fits items fun v => if v = u then true else failed v := by
  intro v hv m l' hc' hl'
  by_cases e : v = u
  · subst e
    have hp := codes_perm hc hc'
    have : m = n := by have := hp.length_eq; omega
    subst this
    exact findF_perm hf _ _ _ hp hn
  · have hv : (if v = u then true else failed v) = true := hv
    rw [if_neg e] at hv
    exact h v hv m l' hc' hl'
end Go.Abs

/- DERIVED by an AI agent. Plain facts: sorting by swaps of neighbours. No program in sight. -/
namespace Go.Abs
set_option linter.unusedSimpArgs false
set_option linter.unusedVariables false

/-- Neighbours swapped. -/
def swj (l : List Int) (j : Nat) : List Int := (l.set j (l.getD (j - 1) 0)).set (j - 1) (l.getD j 0)
theorem swj_perm1 : ∀ (i : Nat) (l : List Int), i + 1 < l.length → ((l.set (i + 1) (l.getD i 0)).set i (l.getD (i + 1) 0)).Perm l := by
  intro i
  induction i with
  | zero =>
    intro l h
    match l, h with
    | x :: y :: t, _ => exact List.Perm.swap _ _ _
  | succ i ih =>
    intro l h
    match l, h with
    | x :: t, h => exact (ih t (by simpa using h)).cons x
theorem swj_perm {l : List Int} {j : Nat} (h0 : 0 < j) (h : j < l.length) : (swj l j).Perm l := by
  have := swj_perm1 (j - 1) l (by omega)
  rw [show j - 1 + 1 = j by omega] at this
  exact this
theorem swj_getD {l : List Int} {j : Nat} (h0 : 0 < j) (h : j < l.length) (a : Nat) : (swj l j).getD a 0 = if a = j - 1 then l.getD j 0 else if a = j then l.getD (j - 1) 0 else l.getD a 0 := by
  unfold swj
  by_cases h1 : a = j - 1
  · subst h1; rw [if_pos rfl]; simp [List.getD, show j - 1 < l.length by omega]
  · rw [if_neg h1]
    by_cases h2 : a = j
    · subst h2; rw [if_pos rfl]
      simp only [List.getD, List.getElem?_set_ne (Ne.symm h1)]
      simp [h]
    · rw [if_neg h2]
      simp only [List.getD, List.getElem?_set_ne (Ne.symm h1), List.getElem?_set_ne (Ne.symm h2)]
/-- In order as far as i. -/
def SrtTo (l : List Int) (i : Nat) : Prop := ∀ a b, a < b → b < i → l.getD a 0 ≤ l.getD b 0
/-- In order as far as i, but for what lies behind others at j. -/
def SrtBut (l : List Int) (i j : Nat) : Prop := ∀ a b, a < b → b ≤ i → b ≠ j → l.getD a 0 ≤ l.getD b 0
theorem srtBut_ini {l : List Int} {i : Nat} (h : SrtTo l i) : SrtBut l i i := fun a b h1 h2 h3 => h a b h1 (by omega)
theorem srtBut_step {l : List Int} {i j : Nat} (h : SrtBut l i j) (h0 : 0 < j) (hj : j ≤ i) (hi : i < l.length) (hlt : l.getD j 0 < l.getD (j - 1) 0) : SrtBut (swj l j) i (j - 1) := by
  intro a b h1 h2 h3
  rw [swj_getD h0 (by omega), swj_getD h0 (by omega), if_neg h3]
  by_cases hb : b = j
  · subst hb
    rw [if_pos rfl]
    by_cases ha : a = b - 1
    · rw [if_pos ha]; omega
    · rw [if_neg ha, if_neg (by omega)]; exact h a (b - 1) (by omega) (by omega) (by omega)
  · rw [if_neg hb]
    by_cases ha : a = j - 1
    · rw [if_pos ha]; exact h j b (by omega) h2 hb
    · rw [if_neg ha]
      by_cases ha2 : a = j
      · rw [if_pos ha2]; exact h (j - 1) b (by omega) h2 hb
      · rw [if_neg ha2]; exact h a b h1 h2 hb
theorem srtBut_done {l : List Int} {i j : Nat} (h : SrtBut l i j) (hj : j ≤ i) (hd : j = 0 ∨ l.getD (j - 1) 0 ≤ l.getD j 0) : SrtTo l (i + 1) := by
  intro a b h1 h2
  by_cases hb : b = j
  · subst hb
    rcases hd with hd | hd
    · omega
    · by_cases ha : a = b - 1
      · rw [ha]; exact hd
      · exact Int.le_trans (h a (b - 1) (by omega) (by omega) (by omega)) hd
  · exact h a b h1 (by omega) hb
def sortI (l : List Int) : List Int := l.mergeSort fun a b => decide (a ≤ b)
theorem sortI_perm (l : List Int) : (sortI l).Perm l := List.mergeSort_perm _ _
theorem sortI_pw (l : List Int) : (sortI l).Pairwise (· ≤ ·) := by
  have := List.pairwise_mergeSort (le := fun a b : Int => decide (a ≤ b)) (fun a b c h1 h2 => by simp only [decide_eq_true_eq] at *; omega) (fun a b => by simp only [Bool.or_eq_true, decide_eq_true_eq]; omega) l
  exact this.imp fun h => by simpa using h
theorem eq_sortI {l xs : List Int} (hp : l.Perm xs) (hs : l.Pairwise (· ≤ ·)) : l = sortI xs :=
  List.Perm.eq_of_pairwise (fun a b _ _ h1 h2 => Int.le_antisymm h1 h2) hs (sortI_pw xs) (hp.trans (sortI_perm xs).symm)
theorem srtTo_all {l xs : List Int} (hp : l.Perm xs) (h : SrtTo l l.length) : l = sortI xs := by
  refine eq_sortI hp (List.pairwise_iff_getElem.2 fun i j hi hj hij => ?_)
  have := h i j hij hj
  simpa [List.getD, hi, hj] using this
theorem sortI_len (l : List Int) : (sortI l).length = l.length := (sortI_perm l).length_eq
end Go.Abs

/- DERIVED by an AI agent. Plain facts: whether a facet may stand behind others in a shelling, told in two ways. No program in sight. -/
namespace Go.Abs
set_option linter.unusedSimpArgs false
set_option linter.unusedVariables false

/-- The points of a facet without which it lies in one before it. -/
def npS (s o g : Nat) : Nat := if popN (s ^^^ (s &&& g)) = 1 then o ||| (s ^^^ (s &&& g)) else o
def npN (bs : List Nat) (s : Nat) : Nat := bs.foldl (npS s) 0
def frN (bs : List Nat) (s : Nat) : Nat → Nat
  | 0 => 0
  | i + 1 => if s.testBit i && bs.any (fun g => g &&& (s - 2 ^ i) == s - 2 ^ i) then frN bs s i ||| 2 ^ i else frN bs s i
theorem npN_bit {s i : Nat} : ∀ (bs : List Nat) (o : Nat), (bs.foldl (npS s) o).testBit i = (o.testBit i || bs.any fun g => decide (popN (s ^^^ (s &&& g)) = 1) && (s ^^^ (s &&& g)).testBit i) := by
  intro bs
  induction bs with
  | nil => intro o; simp
  | cons g bs ih =>
    intro o
    rw [List.foldl_cons, ih, List.any_cons, ← Bool.or_assoc]
    congr 1
    unfold npS
    by_cases h : popN (s ^^^ (s &&& g)) = 1
    · rw [if_pos h, Nat.testBit_or]; simp [h]
    · rw [if_neg h]; simp [h]
theorem frN_bit {bs : List Nat} {s : Nat} (j : Nat) : ∀ k, (frN bs s k).testBit j = (decide (j < k) && (s.testBit j && bs.any fun g => g &&& (s - 2 ^ j) == s - 2 ^ j)) := by
  intro k
  induction k with
  | zero => simp [frN]
  | succ k ih =>
    rw [frN]
    by_cases e : j = k
    · subst e
      by_cases h : (s.testBit j && bs.any fun g => g &&& (s - 2 ^ j) == s - 2 ^ j) = true
      · rw [if_pos h, Nat.testBit_or, Nat.testBit_two_pow, h]; simp
      · rw [if_neg h, ih]
        have h : (s.testBit j && bs.any fun g => g &&& (s - 2 ^ j) == s - 2 ^ j) = false := by simpa using h
        rw [h]; simp
    · have e2 : decide (j < k + 1) = decide (j < k) := decide_eq_decide.2 (by omega)
      rw [e2, ← ih]
      split
      · rw [Nat.testBit_or, Nat.testBit_two_pow, decide_eq_false (fun h => e h.symm), Bool.or_false]
      · rfl
theorem one_out : ∀ s, s < 64 → ∀ g, g < 64 → (s &&& g == s) = true ∨ (∀ i, i < 6 → (decide (pop6 (s ^^^ (s &&& g)) = 1) && (s ^^^ (s &&& g)).testBit i) = (s.testBit i && (g &&& (s - 2 ^ i) == s - 2 ^ i))) := by decide +kernel
theorem any_congr {α : Type} {l : List α} {p q : α → Bool} (h : ∀ x ∈ l, p x = q x) : l.any p = l.any q := by
  induction l with
  | nil => rfl
  | cons x l ih => rw [List.any_cons, List.any_cons, h x (by simp), ih fun y hy => h y (by simp [hy])]
theorem all_congr {α : Type} {l : List α} {p q : α → Bool} (h : ∀ x ∈ l, p x = q x) : l.all p = l.all q := by
  induction l with
  | nil => rfl
  | cons x l ih => rw [List.all_cons, List.all_cons, h x (by simp), ih fun y hy => h y (by simp [hy])]
theorem and_any {α : Type} (b : Bool) (l : List α) (p : α → Bool) : (b && l.any p) = l.any fun x => b && p x := by
  induction l with
  | nil => simp
  | cons x l ih => rw [List.any_cons, List.any_cons, ← ih]; cases b <;> simp
theorem bit_hi {s i : Nat} (hs : s < 64) (hi : ¬ i < 6) : s.testBit i = false := Nat.testBit_lt_two_pow (Nat.lt_of_lt_of_le hs (show 2 ^ 6 ≤ 2 ^ i from Nat.pow_le_pow_right (by omega) (by omega)))
theorem xor_lt64 {s g : Nat} (hs : s < 64) : s ^^^ (s &&& g) < 64 := by
  have h : s &&& g < 2 ^ 6 := Nat.lt_of_le_of_lt Nat.and_le_left hs
  exact Nat.xor_lt_two_pow (n := 6) hs h
/-- Where the facet lies in none before it both ways tell the same points. -/
theorem np_fr {bs : List Nat} {s : Nat} (hs : s < 64) (hb : ∀ g ∈ bs, g < 64) (hn : ∀ g ∈ bs, (s &&& g == s) = false) : npN bs s = frN bs s 6 := by
  refine Nat.eq_of_testBit_eq fun i => ?_
  unfold npN
  rw [npN_bit, frN_bit, Nat.zero_testBit, Bool.false_or]
  by_cases hi : i < 6
  · rw [decide_eq_true hi, Bool.true_and, and_any]
    refine any_congr fun g hg => ?_
    rw [popN_6 (xor_lt64 hs)]
    rcases one_out s hs g (hb g hg) with h | h
    · rw [hn g hg] at h; cases h
    · exact h i hi
  · rw [decide_eq_false hi, Bool.false_and, List.any_eq_false]
    intro g _
    rw [bit_hi (xor_lt64 hs) hi]; simp
theorem np_sub {bs : List Nat} {s i : Nat} (h : (npN bs s).testBit i = true) : s.testBit i = true := by
  unfold npN at h
  rw [npN_bit, Nat.zero_testBit, Bool.false_or, List.any_eq_true] at h
  obtain ⟨g, _, h⟩ := h
  rw [Bool.and_eq_true] at h
  have h := h.2
  rw [Nat.testBit_xor, Nat.testBit_and] at h
  cases hb : s.testBit i with
  | true => rfl
  | false => rw [hb] at h; simp at h
theorem fr_sub {bs : List Nat} {s i k : Nat} (h : (frN bs s k).testBit i = true) : s.testBit i = true := by
  rw [frN_bit, Bool.and_eq_true, Bool.and_eq_true] at h; exact h.2.1
theorem lt_of_sub {a s : Nat} (hs : s < 64) (h : ∀ i, a.testBit i = true → s.testBit i = true) : a < 64 := by
  have : a < 2 ^ 6 := Nat.lt_pow_two_of_testBit _ fun i hi => by
    cases ha : a.testBit i with
    | false => rfl
    | true => have h2 := h i ha; rw [bit_hi hs (show ¬ i < 6 by omega)] at h2; exact h2.symm
  exact this
theorem np_lt {bs : List Nat} {s : Nat} (hs : s < 64) : npN bs s < 64 := lt_of_sub hs fun _ => np_sub
theorem fr_lt {bs : List Nat} {s k : Nat} (hs : s < 64) : frN bs s k < 64 := lt_of_sub hs fun _ => fr_sub
def fitI (bs : List Nat) (s : Nat) : Bool := bs.all fun g => npN bs s ^^^ (npN bs s &&& g) != 0
def fitS (bs : List Nat) (s : Nat) : Bool := bs.all fun g => (g &&& s) &&& frN bs s 6 != frN bs s 6
theorem sub_bits {a b : Nat} : a &&& b = a ↔ ∀ i, a.testBit i = true → b.testBit i = true := by
  constructor
  · intro h i hi
    rw [← h, Nat.testBit_and, Bool.and_eq_true] at hi; exact hi.2
  · intro h
    refine Nat.eq_of_testBit_eq fun i => ?_
    rw [Nat.testBit_and]
    cases ha : a.testBit i with
    | false => rfl
    | true => rw [h i ha]; rfl
theorem andn_zero {a b : Nat} : a ^^^ (a &&& b) = 0 ↔ a &&& b = a := by
  constructor
  · intro h
    refine sub_bits.2 fun i hi => ?_
    have := congrArg (fun x => x.testBit i) h
    simp only [Nat.testBit_xor, Nat.testBit_and, Nat.zero_testBit, hi, Bool.true_and] at this
    simpa using this
  · intro h; rw [h]; simp
theorem fit_eq {bs : List Nat} {s : Nat} (hs : s < 64) (hb : ∀ g ∈ bs, g < 64) : fitI bs s = fitS bs s := by
  by_cases hx : ∃ g ∈ bs, (s &&& g == s) = true
  · obtain ⟨g, hg, h⟩ := hx
    have h := beq_iff_eq.1 h
    have hsb := sub_bits.1 h
    have e1 : fitI bs s = false := by
      unfold fitI
      rw [List.all_eq_false]
      refine ⟨g, hg, ?_⟩
      have : npN bs s ^^^ (npN bs s &&& g) = 0 := andn_zero.2 (sub_bits.2 fun i hi => hsb i (np_sub hi))
      rw [this]; simp
    have e2 : fitS bs s = false := by
      unfold fitS
      rw [List.all_eq_false]
      refine ⟨g, hg, ?_⟩
      have : (g &&& s) &&& frN bs s 6 = frN bs s 6 := by
        rw [Nat.and_comm]
        refine sub_bits.2 fun i hi => ?_
        rw [Nat.testBit_and, hsb i (fr_sub hi), fr_sub hi]; rfl
      rw [this]; simp
    rw [e1, e2]
  · have hn : ∀ g ∈ bs, (s &&& g == s) = false := fun g hg => by
      cases h : (s &&& g == s) with
      | false => rfl
      | true => exact absurd ⟨g, hg, h⟩ hx
    unfold fitI fitS
    rw [np_fr hs hb hn]
    refine all_congr fun g _ => ?_
    have : (frN bs s 6 ^^^ (frN bs s 6 &&& g) = 0) ↔ ((g &&& s) &&& frN bs s 6 = frN bs s 6) := by
      rw [andn_zero, Nat.and_comm (g &&& s), sub_bits, sub_bits]
      refine forall_congr' fun i => ⟨fun h hi => ?_, fun h hi => ?_⟩
      · rw [Nat.testBit_and, h hi, fr_sub hi]; rfl
      · have := h hi
        rw [Nat.testBit_and, Bool.and_eq_true] at this; exact this.1
    simp only [bne]
    congr 1
    by_cases h : frN bs s 6 ^^^ (frN bs s 6 &&& g) = 0
    · rw [beq_iff_eq.2 h, beq_iff_eq.2 (this.1 h)]
    · rw [beq_eq_false_iff_ne.2 h, beq_eq_false_iff_ne.2 (fun h2 => h (this.2 h2))]
/-- The order of those before does not matter. -/
theorem npN_perm {l l' : List Nat} (s : Nat) (h : l.Perm l') : npN l s = npN l' s := by
  refine Nat.eq_of_testBit_eq fun i => ?_
  unfold npN
  rw [npN_bit, npN_bit, h.any_eq]
theorem fitI_perm {l l' : List Nat} (s : Nat) (h : l.Perm l') : fitI l s = fitI l' s := by
  unfold fitI
  rw [npN_perm s h, h.all_eq]
end Go.Abs

/- DERIVED by an AI agent. -/
import Derived.Test.YtmpjajhklilleaaDoorA13
import Derived.Test.YtmpjajhklilleaaDoorA15
/- DERIVED by an AI agent. Plain facts of lists. No program in sight. -/
namespace Go.Abs
theorem getD_mem {α : Type} {xs : List α} {i : Nat} (d : α) (h : i < xs.length) : xs.getD i d ∈ xs := by
  have : xs.getD i d = xs[i] := by simp [List.getD, h]
  rw [this]; exact List.getElem_mem h
theorem getD_at {α : Type} {xs : List α} {i : Nat} (d : α) (h : i < xs.length) : xs.getD i d = xs[i] := by simp [List.getD, h]
theorem mem_getD {α : Type} {xs : List α} {x : α} (d : α) (h : x ∈ xs) : ∃ i, i < xs.length ∧ xs.getD i d = x := by
  obtain ⟨i, hi, rfl⟩ := List.getElem_of_mem h
  exact ⟨i, hi, getD_at d hi⟩
theorem take_snoc {α : Type} {xs : List α} {i : Nat} (d : α) (h : i < xs.length) : xs.take (i + 1) = xs.take i ++ [xs.getD i d] := by
  rw [getD_at d h]; simp
theorem set_fill {α : Type} {xs : List α} {i : Nat} (d z : α) (h : i < xs.length) : (xs.take i ++ List.replicate (xs.length - i) z).set i (xs.getD i d) = xs.take (i + 1) ++ List.replicate (xs.length - (i + 1)) z := by
  rw [take_snoc d h]
  have e : xs.length - i = (xs.length - (i + 1)) + 1 := by omega
  rw [e, List.replicate_succ]
  have hl : (xs.take i).length = i := by simp; omega
  rw [List.set_append_right _ _ (by omega), hl, Nat.sub_self]
  simp
theorem wrap_nat {i n : Nat} (h : i < n) (hn : n ≤ 9223372036854775807) : IntKind.i64.wrap ((i : Int) + 1) = ((i + 1 : Nat) : Int) := by
  rw [wrap_id (by omega) (by omega)]; rfl
theorem fill_length {α : Type} {xs : List α} {i : Nat} {z : α} (h : i ≤ xs.length) : (xs.take i ++ List.replicate (xs.length - i) z).length = xs.length := by simp; omega
theorem toNat_pred (k : Nat) : ((k : Int) - 1).toNat = k - 1 := by omega
end Go.Abs

/- DERIVED by an AI agent. Plain facts of small numbers as sets. No program in sight. -/
namespace Go.Abs
def popN (n : Nat) : Nat := if h : n = 0 then 0 else n % 2 + popN (n / 2)
termination_by n
decreasing_by omega
theorem popN_zero : popN 0 = 0 := by rw [popN]; simp
theorem popN_pos {n : Nat} (h : n ≠ 0) : popN n = n % 2 + popN (n / 2) := by rw [popN]; simp [h]
theorem popN_le (n : Nat) : popN n ≤ n := by
  induction n using Nat.strongRecOn with
  | ind n ih =>
    by_cases h : n = 0
    · subst h; simp [popN_zero]
    · rw [popN_pos h]
      have := ih (n / 2) (by omega)
      omega
/-- The bits of a number below 64. -/
def pop6 (n : Nat) : Nat := n % 2 + n / 2 % 2 + n / 4 % 2 + n / 8 % 2 + n / 16 % 2 + n / 32 % 2
theorem popN_6 {n : Nat} (h : n < 64) : popN n = pop6 n := by
  have st : ∀ s, popN s = s % 2 + popN (s / 2) := by
    intro s
    by_cases h0 : s = 0
    · subst h0; simp [popN_zero]
    · exact popN_pos h0
  rw [st n, st (n / 2), st (n / 2 / 2), st (n / 2 / 2 / 2), st (n / 2 / 2 / 2 / 2), st (n / 2 / 2 / 2 / 2 / 2)]
  have h6 : n / 2 / 2 / 2 / 2 / 2 / 2 = 0 := by omega
  rw [h6, popN_zero]
  unfold pop6
  omega
theorem iand_one {n : Nat} (h : n < 9223372036854775808) : iand .i64 (n : Int) 1 = ((n % 2 : Nat) : Int) := by
  have e : (BitVec.ofInt 64 (n : Int) &&& BitVec.ofInt 64 1).toNat = n % 2 := by
    have h1 : BitVec.ofInt 64 (n : Int) = BitVec.ofNat 64 n := by simp
    have h2 : BitVec.ofInt 64 (1 : Int) = 1#64 := by decide
    rw [h1, h2, BitVec.toNat_and, BitVec.toNat_ofNat, Nat.mod_eq_of_lt (by omega)]
    simp
  show IntKind.i64.wrap (((BitVec.ofInt 64 (n : Int) &&& BitVec.ofInt 64 1).toNat : Nat) : Int) = _
  rw [e, wrap_id (by omega) (by omega)]
theorem ishr_one (n : Nat) : ishr .i64 (n : Int) 1 = ((n / 2 : Nat) : Int) := by
  simp [ishr, IntKind.bits]
  exact Int.fdiv_eq_ediv_of_nonneg _ (by omega)
theorem ishl_small {n : Nat} (h : n ≤ 6) : ishl .i64 1 (n : Int) = ((2 ^ n : Nat) : Int) := by
  have : ∀ m : Fin 7, ishl .i64 1 ((m.val : Nat) : Int) = ((2 ^ m.val : Nat) : Int) := by decide +kernel
  exact this ⟨n, by omega⟩
theorem uwrap_nat {n : Nat} (h : n < 9223372036854775808) : IntKind.u64.wrap (n : Int) = (n : Int) := by
  simp [IntKind.wrap, IntKind.bits, IntKind.signed]
  omega
def inSet (n s : Int) : Bool := decide (0 ≤ n ∧ n ≤ 6 ∧ 0 ≤ s ∧ s < 2 ^ n.toNat)
theorem pow_nat (m : Nat) : (2 : Int) ^ ((m : Int)).toNat = ((2 ^ m : Nat) : Int) := by simp
theorem two_pow_le {m : Nat} (h : m ≤ 6) : 2 ^ m ≤ 64 := by
  have : ∀ k : Fin 7, 2 ^ k.val ≤ 64 := by decide
  exact this ⟨m, by omega⟩
theorem inSet_lt {n s : Int} (h : inSet n s = true) : 0 ≤ s ∧ s < 64 := by
  simp only [inSet, decide_eq_true_eq] at h
  obtain ⟨h0, h6, hs, hl⟩ := h
  obtain ⟨m, rfl⟩ := Int.eq_ofNat_of_zero_le h0
  rw [pow_nat] at hl
  have := two_pow_le (m := m) (by omega)
  omega
end Go.Abs

/- DERIVED by an AI agent. Plain facts of sets as numbers, of lists that are rearranged. No program in sight. -/
namespace Go.Abs

theorem toNat_bv {a : Nat} (ha : a < 9223372036854775808) : (BitVec.ofInt 64 (a : Int)).toNat = a := by
  simp
  omega
theorem iand_nat {a b : Nat} (ha : a < 9223372036854775808) (hb : b < 9223372036854775808) : iand .i64 (a : Int) (b : Int) = ((a &&& b : Nat) : Int) := by
  show IntKind.i64.wrap (((BitVec.ofInt 64 (a : Int) &&& BitVec.ofInt 64 (b : Int)).toNat : Nat) : Int) = _
  rw [BitVec.toNat_and, toNat_bv ha, toNat_bv hb]
  have : a &&& b ≤ a := Nat.and_le_left
  exact wrap_id (by omega) (by omega)
theorem lt_63_xor {a b : Nat} (ha : a < 9223372036854775808) (hb : b < 9223372036854775808) : a ^^^ b < 9223372036854775808 := Nat.xor_lt_two_pow (n := 63) ha hb
theorem iandnot_nat {a b : Nat} (ha : a < 9223372036854775808) (hb : b < 9223372036854775808) : iandnot .i64 (a : Int) (b : Int) = ((a ^^^ (a &&& b) : Nat) : Int) := by
  have h : BitVec.ofInt 64 (a : Int) &&& ~~~ BitVec.ofInt 64 (b : Int) = BitVec.ofInt 64 (a : Int) ^^^ (BitVec.ofInt 64 (a : Int) &&& BitVec.ofInt 64 (b : Int)) := by
    ext i hi
    simp only [BitVec.getElem_and, BitVec.getElem_not, BitVec.getElem_xor]
    cases (BitVec.ofInt 64 (a : Int))[i] <;> cases (BitVec.ofInt 64 (b : Int))[i] <;> rfl
  show IntKind.i64.wrap (((BitVec.ofInt 64 (a : Int) &&& ~~~ BitVec.ofInt 64 (b : Int)).toNat : Nat) : Int) = _
  rw [h, BitVec.toNat_xor, BitVec.toNat_and, toNat_bv ha, toNat_bv hb]
  have h1 : a &&& b ≤ a := Nat.and_le_left
  have := lt_63_xor (a := a) (b := a &&& b) ha (by omega)
  exact wrap_id (by omega) (by omega)
theorem xor_and_zero {a b : Nat} : a ^^^ (a &&& b) = 0 ↔ a &&& b = a := by
  constructor
  · intro h
    have := congrArg (· ^^^ (a &&& b)) h
    simp only [Nat.xor_assoc, Nat.xor_self, Nat.xor_zero, Nat.zero_xor] at this
    exact this.symm
  · intro h; rw [h, Nat.xor_self]
/-- A set within another: one way of telling it as the other. -/
theorem andnot_zero {a b : Int} (ha : 0 ≤ a ∧ a < 64) (hb : 0 ≤ b ∧ b < 64) : iandnot .i64 a b = 0 ↔ iand .i64 a b = a := by
  obtain ⟨a, rfl⟩ := Int.eq_ofNat_of_zero_le ha.1
  obtain ⟨b, rfl⟩ := Int.eq_ofNat_of_zero_le hb.1
  rw [iandnot_nat (by omega) (by omega), iand_nat (by omega) (by omega)]
  have := @xor_and_zero a b
  omega

/-! lists that are rearranged -/
theorem perm_of_sub {α : Type} [DecidableEq α] : ∀ {l m : List α}, l.Nodup → (∀ x ∈ l, x ∈ m) → m.length ≤ l.length → l.Perm m := by
  intro l
  induction l with
  | nil => intro m _ _ h; have : m = [] := List.eq_nil_of_length_eq_zero (by simpa using h); subst this; exact .nil
  | cons a l ih =>
    intro m hn hs hl
    have ha : a ∈ m := hs a (by simp)
    have hn' := List.nodup_cons.1 hn
    have hp : m.Perm (a :: m.erase a) := List.perm_cons_erase ha
    have h2 : l.Perm (m.erase a) := by
      refine ih hn'.2 (fun x hx => ?_) ?_
      · have hxa : x ≠ a := fun e => hn'.1 (e ▸ hx)
        exact (List.mem_erase_of_ne hxa).2 (hs x (by simp [hx]))
      · have := hp.length_eq
        simp at this hl
        omega
    exact (List.Perm.cons a h2).trans hp.symm
theorem dec_self (xs : List Int) : decide (xs = xs) = true := by simp
theorem dec_self2 (xs : List (List Int)) : decide (xs = xs) = true := by simp
theorem dec_true : decide True = true := by simp
theorem bool_ne_self (b : Bool) : (!(b == b)) = false := by simp
end Go.Abs

/- DERIVED by an AI agent. Plain facts: folds over lists, sets without others, binomials. No program in sight. -/
namespace Go.Abs

theorem iand_lt {a b : Int} (ha : 0 ≤ a ∧ a < 64) (hb : 0 ≤ b ∧ b < 64) : 0 ≤ iand .i64 a b ∧ iand .i64 a b < 64 := by
  obtain ⟨a, rfl⟩ := Int.eq_ofNat_of_zero_le ha.1
  obtain ⟨b, rfl⟩ := Int.eq_ofNat_of_zero_le hb.1
  rw [iand_nat (by omega) (by omega)]
  have : a &&& b ≤ a := Nat.and_le_left
  omega
end Go.Abs

/- DERIVED by an AI agent. Plain facts: families of sets as predicates, their order, their least and greatest members. No program in sight. -/
namespace Go.Abs

def ordS (f : Nat → Bool) (k m : Nat) : List Nat := (List.range m).filter fun s => f s && popN s == k
def ordN (f : Nat → Bool) : List Nat := (List.range 7).flatMap fun j => ordS f j 64
/-- The order on the way: the sizes below 'k' are done, of size 'k' the sets below 'm'. -/
def ordP (f : Nat → Bool) (k m : Nat) : List Nat := (List.range k).flatMap (fun j => ordS f j 64) ++ ordS f k m
theorem ordP_next (f : Nat → Bool) (k : Nat) : ordP f k 64 = ordP f (k + 1) 0 := by
  unfold ordP
  rw [List.range_succ, List.flatMap_append]
  simp [ordS]
theorem ordP_all (f : Nat → Bool) : ordP f 7 0 = ordN f := by unfold ordP ordN; simp [ordS]
theorem ordS_succ (f : Nat → Bool) (k m : Nat) : ordS f k (m + 1) = ordS f k m ++ (if (f m && popN m == k) = true then [m] else []) := by
  unfold ordS
  rw [List.range_succ, List.filter_append]
  congr 1
  cases h : (f m && popN m == k) <;> simp [h]
theorem ordP_yes {f : Nat → Bool} {k m : Nat} (h : (f m && popN m == k) = true) : ordP f k (m + 1) = ordP f k m ++ [m] := by
  unfold ordP
  rw [ordS_succ, if_pos h, List.append_assoc]
theorem ordP_no {f : Nat → Bool} {k m : Nat} (h : (f m && popN m == k) = false) : ordP f k (m + 1) = ordP f k m := by
  unfold ordP
  rw [ordS_succ, if_neg (by rw [h]; decide), List.append_nil]
theorem ordP_len (f : Nat → Bool) : ∀ (k m : Nat), (ordP f k m).length ≤ 64 * k + m := by
  intro k
  induction k with
  | zero =>
    intro m
    have := List.length_filter_le (fun s => f s && popN s == 0) (List.range m)
    simp [ordP, ordS] at this ⊢
    omega
  | succ k ih =>
    intro m
    have h1 := ih 64
    have h2 := List.length_filter_le (fun s => f s && popN s == k + 1) (List.range m)
    rw [ordP_next] at h1
    unfold ordP at h1 ⊢
    simp only [List.length_append, List.length_range] at h1 h2 ⊢
    unfold ordS at *
    simp only [List.range_zero, List.filter_nil, List.length_nil] at h1
    omega
theorem pop_le6 {s : Nat} (h : s < 64) : popN s ≤ 6 := by
  have h6 : ∀ t, t < 64 → pop6 t ≤ 6 := by decide +kernel
  rw [popN_6 h]; exact h6 s h
theorem mem_ordN {f : Nat → Bool} {s : Nat} : s ∈ ordN f ↔ s < 64 ∧ f s = true := by
  unfold ordN ordS
  simp only [List.mem_flatMap, List.mem_range, List.mem_filter, Bool.and_eq_true, beq_iff_eq]
  constructor
  · rintro ⟨j, hj, hs, hf, _⟩; exact ⟨hs, hf⟩
  · rintro ⟨hs, hf⟩; exact ⟨popN s, by have := pop_le6 hs; omega, hs, hf, rfl⟩
def befN (s t : Nat) : Prop := popN s < popN t ∨ (popN s = popN t ∧ s < t)
theorem ordN_pw (f : Nat → Bool) : (ordN f).Pairwise befN := by
  unfold ordN
  rw [List.pairwise_flatMap]
  refine ⟨fun j _ => ?_, ?_⟩
  · unfold ordS
    refine List.Pairwise.imp_of_mem ?_ (List.Pairwise.filter _ List.pairwise_lt_range)
    intro a b ha hb hlt
    have ha := (List.mem_filter.1 ha).2
    have hb := (List.mem_filter.1 hb).2
    simp at ha hb
    exact .inr ⟨by omega, hlt⟩
  · refine List.Pairwise.imp ?_ List.pairwise_lt_range
    intro a b hab x hx y hy
    have hx := (List.mem_filter.1 hx).2
    have hy := (List.mem_filter.1 hy).2
    simp at hx hy
    exact .inl (by omega)
theorem befN_irrefl {s : Nat} : ¬ befN s s := by unfold befN; omega
theorem ordN_len (f : Nat → Bool) : (ordN f).length ≤ 448 := by
  have := ordP_len f 7 0
  rw [ordP_all] at this; omega

/-! a family as the bits of a number -/
def maskF (w : Nat → Bool) : Nat → Nat | 0 => 0 | k + 1 => if w k = true then maskF w k ||| 2 ^ k else maskF w k
theorem maskF_bit (w : Nat → Bool) : ∀ (k s : Nat), (maskF w k).testBit s = (decide (s < k) && w s) := by
  intro k
  induction k with
  | zero => intro s; simp [maskF]
  | succ k ih =>
    intro s
    unfold maskF
    split
    · rename_i h
      rw [Nat.testBit_or, ih, Nat.testBit_two_pow]
      by_cases e : k = s
      · subst e; simp [h]
      · have : (decide (s < k + 1)) = decide (s < k) := decide_eq_decide.2 (by omega)
        rw [this]; simp [e]
    · rename_i h
      rw [ih]
      by_cases e : k = s
      · subst e; simp [h]
      · have : (decide (s < k + 1)) = decide (s < k) := decide_eq_decide.2 (by omega)
        rw [this]
theorem maskF_lt (w : Nat → Bool) : ∀ k, maskF w k < 2 ^ k := by
  intro k
  induction k with
  | zero => simp [maskF]
  | succ k ih =>
    unfold maskF
    split
    · exact Nat.or_lt_two_pow (by rw [Nat.pow_succ]; omega) (Nat.pow_lt_pow_right (by omega) (by omega))
    · rw [Nat.pow_succ]; omega
theorem toNat_u {a : Nat} (ha : a < 18446744073709551616) : (BitVec.ofInt 64 (a : Int)).toNat = a := by
  simp
  omega
theorem uwrap_id {a : Nat} (ha : a < 18446744073709551616) : IntKind.u64.wrap (a : Int) = (a : Int) := by
  simp [IntKind.wrap, IntKind.bits, IntKind.signed]
  omega
theorem ior_u {a b : Nat} (ha : a < 18446744073709551616) (hb : b < 18446744073709551616) : ior .u64 (a : Int) (b : Int) = ((a ||| b : Nat) : Int) := by
  show IntKind.u64.wrap (((BitVec.ofInt 64 (a : Int) ||| BitVec.ofInt 64 (b : Int)).toNat : Nat) : Int) = _
  rw [BitVec.toNat_or, toNat_u ha, toNat_u hb]
  exact uwrap_id (Nat.or_lt_two_pow (n := 64) ha hb)
theorem iand_u {a b : Nat} (ha : a < 18446744073709551616) (hb : b < 18446744073709551616) : iand .u64 (a : Int) (b : Int) = ((a &&& b : Nat) : Int) := by
  show IntKind.u64.wrap (((BitVec.ofInt 64 (a : Int) &&& BitVec.ofInt 64 (b : Int)).toNat : Nat) : Int) = _
  rw [BitVec.toNat_and, toNat_u ha, toNat_u hb]
  have : a &&& b ≤ a := Nat.and_le_left
  exact uwrap_id (by omega)
theorem ishl_u {s : Nat} (hs : s < 64) : ishl .u64 1 (s : Int) = ((2 ^ s : Nat) : Int) := by
  unfold ishl
  have e : min (s : Int).toNat IntKind.u64.bits = s := by simp [IntKind.bits]; omega
  rw [e, Int.one_mul]
  have h : (2 : Nat) ^ s < 2 ^ 64 := Nat.pow_lt_pow_right (by omega) hs
  have e2 : (2 : Int) ^ s = ((2 ^ s : Nat) : Int) := by simp
  rw [e2]
  exact uwrap_id (by omega)
theorem ishr_u {a s : Nat} (hs : s < 64) : ishr .u64 (a : Int) (s : Int) = ((a >>> s : Nat) : Int) := by
  unfold ishr
  have e : min (s : Int).toNat IntKind.u64.bits = s := by simp [IntKind.bits]; omega
  rw [e]
  have e2 : (2 : Int) ^ s = ((2 ^ s : Nat) : Int) := by simp
  rw [e2, Nat.shiftRight_eq_div_pow, Int.fdiv_eq_ediv_of_nonneg _ (Int.natCast_nonneg _), Int.natCast_ediv]
theorem bit_test {a s : Nat} (ha : a < 18446744073709551616) (hs : s < 64) : (iand .u64 (ishr .u64 (a : Int) (s : Int)) 1 == 1) = a.testBit s := by
  rw [ishr_u hs]
  have h1 : a >>> s ≤ a := Nat.shiftRight_le _ _
  rw [show (1 : Int) = ((1 : Nat) : Int) from rfl, iand_u (by omega) (by omega), Nat.testBit, Nat.and_comm]
  have h2 : 1 &&& a >>> s ≤ 1 := Nat.and_le_left
  generalize 1 &&& a >>> s = q at *
  rcases Nat.lt_or_ge 0 q with h | h
  · have : q = 1 := by omega
    subst this; rfl
  · have : q = 0 := by omega
    subst this; rfl

/-! least and greatest members -/
def extB (f : Nat → Bool) (g : Bool) (s : Nat) : Bool := (List.range 64).all fun t => !(f t && ((if g = true then s &&& t == s else t &&& s == t) && t != s))
def extN (f : Nat → Bool) (g : Bool) : List Nat := (ordN f).filter (extB f g)
theorem extB_iff {f : Nat → Bool} {s : Nat} : extB f false s = true ↔ ∀ t, t < 64 → f t = true → t &&& s = t → t = s := by
  unfold extB
  rw [List.all_eq_true]
  constructor
  · intro h t ht hf hsub
    have := h t (by simpa using ht)
    simp [hf, hsub] at this
    exact this
  · intro h t ht
    have ht := List.mem_range.1 ht
    cases hf : f t with
    | false => simp
    | true =>
      by_cases hsub : t &&& s = t
      · simp [h t ht hf hsub]
      · simp [hsub]
theorem extB_iff' {f : Nat → Bool} {s : Nat} : extB f true s = true ↔ ∀ t, t < 64 → f t = true → s &&& t = s → t = s := by
  unfold extB
  rw [List.all_eq_true]
  constructor
  · intro h t ht hf hsub
    have := h t (by simpa using ht)
    simp [hf, hsub] at this
    exact this
  · intro h t ht
    have ht := List.mem_range.1 ht
    cases hf : f t with
    | false => simp
    | true =>
      by_cases hsub : s &&& t = s
      · simp [h t ht hf hsub]
      · simp [hsub]
theorem pop_sub {s t : Nat} (hs : s < 64) (ht : t < 64) (h : t &&& s = t) (hne : t ≠ s) : popN t < popN s := by
  have h6 : ∀ t, t < 64 → ∀ s, s < 64 → (t &&& s == t && t != s) = true → pop6 t < pop6 s := by decide +kernel
  rw [popN_6 hs, popN_6 ht]
  exact h6 t ht s hs (by simp [h, hne])
theorem sub_trans {a b c : Nat} (h1 : a &&& b = a) (h2 : b &&& c = b) : a &&& c = a := by
  rw [← h1, Nat.and_assoc, h2]
def ofN (l : List Nat) : List Int := l.map fun s : Nat => (s : Int)
theorem ofN_append (a b : List Nat) : ofN (a ++ b) = ofN a ++ ofN b := by simp [ofN]
theorem ofN_one (a : Nat) : [(a : Int)] = ofN [a] := rfl
theorem ofN_length (l : List Nat) : (ofN l).length = l.length := by simp [ofN]
theorem ofN_getD {l : List Nat} {k : Nat} (h : k < l.length) : (ofN l).getD k 0 = ((l.getD k 0 : Nat) : Int) := by
  rw [getD_at 0 (by rw [ofN_length]; exact h), getD_at 0 h]; simp [ofN]
end Go.Abs

/- DERIVED by an AI agent. Plain facts: neighbours in a graph on few points. No program in sight. -/
namespace Go.Abs
/-- The points of a set. -/
def pts (s : Nat) : List Nat := (List.range 6).filter fun i => s.testBit i
end Go.Abs

/- DERIVED by an AI agent. Plain facts: texts cut at a byte, sets read from letters. No program in sight. -/
namespace Go.Abs
def byt (t : ByteArray) (i : Nat) : Nat := (t.data.toList.getD i 0).toNat
/-- The parts before a place, and where the next one begins. -/
def spSt (t : ByteArray) (b : Nat) : Nat → List ByteArray × Nat
  | 0 => ([], 0)
  | i + 1 => if byt t i = b then ((spSt t b i).1 ++ [t.extract (spSt t b i).2 i], i + 1) else spSt t b i
def splitB (t : ByteArray) (b : Nat) : List ByteArray := (spSt t b t.size).1 ++ [t.extract (spSt t b t.size).2 t.size]
structure OkSet (t : ByteArray) : Prop where
  lo : 1 ≤ t.size
  hi : t.size ≤ 6
  dash : (t.toList == (⟨#[45]⟩ : ByteArray).toList) = false
  empty : (t.toList == (⟨#[]⟩ : ByteArray).toList) = false
  letter : ∀ i, i < t.size → 97 ≤ byt t i ∧ byt t i ≤ 102
  rise : ∀ i, i < t.size → 0 < i → byt t (i - 1) < byt t i
def setV (t : ByteArray) (k : Nat) : Nat := (List.range k).foldl (fun s i => s ||| 2 ^ (byt t i - 97)) 0
end Go.Abs

/- DERIVED by an AI agent. Plain facts: matrices modulo a prime, their reduced form. No program in sight. -/
namespace Go.Abs
set_option linter.unusedSimpArgs false
set_option linter.unusedVariables false

/-- The new list as far as j, the old one from there. -/
def prt (new old : List Int) (j : Nat) : List Int := new.take j ++ old.drop j
theorem prt_zero (new old : List Int) : prt new old 0 = old := by simp [prt]
theorem prt_end {new old : List Int} (h : new.length = old.length) : prt new old old.length = new := by simp [prt, ← h]
theorem prt_length {new old : List Int} (h : new.length = old.length) (j : Nat) : (prt new old j).length = old.length := by simp [prt]; omega
theorem prt_getD {new old : List Int} (h : new.length = old.length) {j t : Nat} (ht : j ≤ t) : (prt new old j).getD t 0 = old.getD t 0 := by
  unfold prt
  by_cases hj : j ≤ old.length
  · have hl : (new.take j).length = j := by simp; omega
    simp only [List.getD]
    rw [List.getElem?_append_right (by omega), hl, List.getElem?_drop, show j + (t - j) = t by omega]
  · simp only [List.getD]
    rw [List.drop_of_length_le (by omega), List.append_nil, List.getElem?_eq_none (by simp; omega), List.getElem?_eq_none (by omega)]
theorem prt_set {new old : List Int} (h : new.length = old.length) {j : Nat} (hj : j < old.length) : (prt new old j).set j (new.getD j 0) = prt new old (j + 1) := by
  unfold prt
  have hl : (new.take j).length = j := by simp; omega
  rw [List.set_append_right _ _ (by omega), hl, Nat.sub_self, List.drop_eq_getElem_cons hj, List.set_cons_zero, take_snoc 0 (by omega : j < new.length), List.append_assoc]
  rfl

theorem set_set {α : Type} (l : List α) (i : Nat) (a b : α) : (l.set i a).set i b = l.set i b := by simp
theorem set_self_getD (M : Mat) (i : Nat) : M.set i (M.getD i []) = M := by
  by_cases h : i < M.length
  · have : M.getD i [] = M[i] := by simp [List.getD, h]
    rw [this, List.set_getElem_self]
  · rw [List.set_eq_of_length_le (by omega)]
theorem getM_set_self {M : Mat} {i : Nat} (h : i < M.length) (r : List Int) : (M.set i r).getD i [] = r := by simp [List.getD, h]
theorem getM_set_ne {M : Mat} {i j : Nat} (h : ¬ i = j) (r : List Int) : (M.set i r).getD j [] = M.getD j [] := by simp [List.getD, List.getElem?_set_ne h]

def isP (p : Int) : Bool := p == 2 || p == 3 || p == 5
theorem isP_iff {p : Int} : isP p = true ↔ p = 2 ∨ p = 3 ∨ p = 5 := by simp [isP, or_assoc]
theorem isP_pos {p : Int} (h : isP p = true) : 2 ≤ p ∧ p ≤ 5 := by rcases isP_iff.1 h with rfl | rfl | rfl <;> omega
def invFrom (p r : Int) : Int → Nat → Int | _, 0 => 0 | b, n + 1 => if r * b % p = 1 then b else invFrom p r (b + 1) n
def invM (p a : Int) : Int := invFrom p (a % p) 1 (p - 1).toNat
theorem invFrom_le (p r : Int) : ∀ (n : Nat) (b : Int), 0 ≤ b → b + n ≤ p → 0 ≤ invFrom p r b n ∧ (invFrom p r b n < p ∨ invFrom p r b n = 0) := by
  intro n
  induction n with
  | zero => intro b _ _; simp [invFrom]
  | succ n ih =>
    intro b hb hp
    unfold invFrom
    split
    · exact ⟨hb, .inl (by omega)⟩
    · exact ih (b + 1) (by omega) (by omega)
theorem invM_le {p : Int} (hp : isP p = true) (a : Int) : 0 ≤ invM p a ∧ invM p a ≤ 4 := by
  have := isP_pos hp
  obtain ⟨h1, h2⟩ := invFrom_le p (a % p) (p - 1).toNat 1 (by omega) (by omega)
  unfold invM
  exact ⟨h1, by rcases h2 with h | h <;> omega⟩

def scl (p b : Int) (r : List Int) : List Int := r.map fun x => x * b % p
theorem scl_length (p b : Int) (r : List Int) : (scl p b r).length = r.length := by simp [scl]
theorem scl_getD (p b : Int) {r : List Int} {j : Nat} (h : j < r.length) : (scl p b r).getD j 0 = r.getD j 0 * b % p := by simp [scl, List.getD, h]
def sbt (p f : Int) (piv r : List Int) : List Int := (List.range r.length).map fun j => (r.getD j 0 - f * piv.getD j 0) % p
theorem sbt_length (p f : Int) (piv r : List Int) : (sbt p f piv r).length = r.length := by simp [sbt]
theorem sbt_getD (p f : Int) {piv r : List Int} {j : Nat} (h : j < r.length) : (sbt p f piv r).getD j 0 = (r.getD j 0 - f * piv.getD j 0) % p := by simp [sbt, List.getD, h]

/-- All numbers of a list are remainders. -/
def Res (p : Int) (r : List Int) : Prop := ∀ j, 0 ≤ r.getD j 0 ∧ r.getD j 0 < p
theorem Res.nil {p : Int} (hp : 0 < p) : Res p [] := fun j => by simp; exact hp
theorem res_of {p : Int} (hp : 0 < p) {r : List Int} (h : ∀ j, j < r.length → 0 ≤ r.getD j 0 ∧ r.getD j 0 < p) : Res p r := fun j => by
  by_cases hj : j < r.length
  · exact h j hj
  · have : r.getD j 0 = 0 := by simp [List.getD, hj]
    rw [this]; exact ⟨Int.le_refl _, hp⟩
theorem scl_res {p : Int} (hp : 0 < p) (b : Int) (r : List Int) : Res p (scl p b r) := res_of hp fun j hj => by
  rw [scl_length] at hj
  rw [scl_getD p b hj]
  exact ⟨Int.emod_nonneg _ (by omega), Int.emod_lt_of_pos _ hp⟩
theorem sbt_res {p : Int} (hp : 0 < p) (f : Int) (piv r : List Int) : Res p (sbt p f piv r) := res_of hp fun j hj => by
  rw [sbt_length] at hj
  rw [sbt_getD p f hj]
  exact ⟨Int.emod_nonneg _ (by omega), Int.emod_lt_of_pos _ hp⟩
theorem sbt_zero {p : Int} {piv r : List Int} (h : Res p r) : sbt p 0 piv r = r := by
  refine List.ext_getElem (sbt_length _ _ _ _) fun j a b => ?_
  have h1 := sbt_getD p 0 (piv := piv) b
  have h2 := h j
  rw [Int.zero_mul, Int.sub_zero, Int.emod_eq_of_lt h2.1 h2.2] at h1
  have e1 : (sbt p 0 piv r).getD j 0 = (sbt p 0 piv r)[j] := by simp [List.getD, a]
  have e2 : r.getD j 0 = r[j] := by simp [List.getD, b]
  rw [← e1, ← e2, h1]

/-- A matrix whose rows have n remainders each. -/
structure MatOk (p : Int) (n : Nat) (M : Mat) : Prop where
  len : ∀ i, i < M.length → (M.getD i []).length = n
  res : ∀ i, i < M.length → Res p (M.getD i [])

/-- The pivot's row made so that the pivot is one. -/
def clr1 (p : Int) (at' col : Nat) (M : Mat) : Mat := M.set at' (scl p (invM p ((M.getD at' []).getD col 0)) (M.getD at' []))
def clrI (p : Int) (at' col : Nat) (M : Mat) (i : Nat) : List Int := if i = at' then M.getD i [] else sbt p ((M.getD i []).getD col 0) (M.getD at' []) (M.getD i [])
def clrN (p : Int) (at' col : Nat) (M : Mat) (n : Nat) : Mat := (List.range M.length).map fun i => if i < n then clrI p at' col M i else M.getD i []
def clearM (p : Int) (at' col : Nat) (M : Mat) : Mat := clrN p at' col (clr1 p at' col M) M.length

theorem clr1_length (p : Int) (at' col : Nat) (M : Mat) : (clr1 p at' col M).length = M.length := by simp [clr1]
theorem clrN_length (p : Int) (at' col : Nat) (M : Mat) (n : Nat) : (clrN p at' col M n).length = M.length := by simp [clrN]
theorem clrN_getD (p : Int) (at' col : Nat) {M : Mat} {n i : Nat} (h : i < M.length) : (clrN p at' col M n).getD i [] = if i < n then clrI p at' col M i else M.getD i [] := by simp [clrN, List.getD, h]
theorem clrN_zero (p : Int) (at' col : Nat) (M : Mat) : clrN p at' col M 0 = M := by
  refine List.ext_getElem (clrN_length _ _ _ _ _) fun i a b => ?_
  simp [clrN, List.getD, b]
theorem clrN_at (p : Int) (at' col : Nat) {M : Mat} (n : Nat) (h : at' < M.length) : (clrN p at' col M n).getD at' [] = M.getD at' [] := by
  rw [clrN_getD p at' col h]
  split
  · unfold clrI; rw [if_pos rfl]
  · rfl
theorem clrN_ge (p : Int) (at' col : Nat) {M : Mat} {n i : Nat} (h : i < M.length) (hn : n ≤ i) : (clrN p at' col M n).getD i [] = M.getD i [] := by
  rw [clrN_getD p at' col h, if_neg (by omega)]
theorem clrN_succ (p : Int) (at' col : Nat) {M : Mat} {n : Nat} (h : n < M.length) : (clrN p at' col M n).set n (clrI p at' col M n) = clrN p at' col M (n + 1) := by
  refine List.ext_getElem (by simp [clrN_length]) fun i a b => ?_
  have hi : i < M.length := by simpa [clrN_length] using b
  rw [List.getElem_set]
  simp only [clrN, List.getElem_map, List.getElem_range]
  by_cases e : n = i
  · subst e; simp
  · simp only [e, if_false]
    by_cases hlt : i < n
    · rw [if_pos hlt, if_pos (by omega)]
    · rw [if_neg hlt, if_neg (by omega)]
theorem clearM_length (p : Int) (at' col : Nat) (M : Mat) : (clearM p at' col M).length = M.length := by simp [clearM, clrN_length, clr1_length]
theorem clr1_ok {p : Int} (hp : 0 < p) {n at' col : Nat} {M : Mat} (h : MatOk p n M) (ha : at' < M.length) : MatOk p n (clr1 p at' col M) := by
  constructor
  · intro i hi
    rw [clr1_length] at hi
    unfold clr1
    by_cases e : at' = i
    · subst e; rw [getM_set_self hi, scl_length]; exact h.len _ hi
    · rw [getM_set_ne e]; exact h.len _ hi
  · intro i hi
    rw [clr1_length] at hi
    unfold clr1
    by_cases e : at' = i
    · subst e; rw [getM_set_self hi]; exact scl_res hp _ _
    · rw [getM_set_ne e]; exact h.res _ hi
theorem clrI_ok {p : Int} (hp : 0 < p) {n at' col i : Nat} {M : Mat} (h : MatOk p n M) (hi : i < M.length) : (clrI p at' col M i).length = n ∧ Res p (clrI p at' col M i) := by
  unfold clrI
  split
  · exact ⟨h.len i hi, h.res i hi⟩
  · exact ⟨by rw [sbt_length]; exact h.len i hi, sbt_res hp _ _ _⟩
theorem clrN_ok {p : Int} (hp : 0 < p) {n at' col k : Nat} {M : Mat} (h : MatOk p n M) : MatOk p n (clrN p at' col M k) := by
  constructor
  · intro i hi
    rw [clrN_length] at hi
    rw [clrN_getD p at' col hi]
    split
    · exact (clrI_ok hp h hi).1
    · exact h.len i hi
  · intro i hi
    rw [clrN_length] at hi
    rw [clrN_getD p at' col hi]
    split
    · exact (clrI_ok hp h hi).2
    · exact h.res i hi
theorem clearM_ok {p : Int} (hp : 0 < p) {n at' col : Nat} {M : Mat} (h : MatOk p n M) (ha : at' < M.length) : MatOk p n (clearM p at' col M) := clrN_ok hp (clr1_ok hp h ha)

def swp (M : Mat) (a b : Nat) : Mat := (M.set a (M.getD b [])).set b (M.getD a [])
theorem swp_length (M : Mat) (a b : Nat) : (swp M a b).length = M.length := by simp [swp]
theorem swp_comm (M : Mat) (a b : Nat) : swp M a b = swp M b a := by
  unfold swp
  by_cases h : a = b
  · subst h; rfl
  · rw [List.set_comm _ _ h]
theorem swp_ok {p : Int} {n a b : Nat} {M : Mat} (h : MatOk p n M) (ha : a < M.length) (hb : b < M.length) : MatOk p n (swp M a b) := by
  have key : ∀ (Q : List Int → Prop), (∀ i, i < M.length → Q (M.getD i [])) → ∀ i, i < M.length → Q ((swp M a b).getD i []) := by
    intro Q hQ i hi
    unfold swp
    by_cases eb : b = i
    · subst eb; rw [getM_set_self (by simpa using hi)]; exact hQ a ha
    · rw [getM_set_ne eb]
      by_cases ea : a = i
      · subst ea; rw [getM_set_self hi]; exact hQ b hb
      · rw [getM_set_ne ea]; exact hQ i hi
  exact ⟨fun i hi => key (fun r => r.length = n) h.len i (by rwa [swp_length] at hi), fun i hi => key (Res p) h.res i (by rwa [swp_length] at hi)⟩

/-- The first row from a place on with a number other than 0 in a column. -/
def findRow (M : Mat) (col : Nat) : Nat → Nat → Nat | a, 0 => a | a, n + 1 => if (M.getD a []).getD col 0 = 0 then findRow M col (a + 1) n else a
def redStep (p : Int) (M : Mat) (col : Nat) (piv : List Nat) : Mat × List Nat :=
  if findRow M col piv.length (M.length - piv.length) = M.length then (M, piv) else (clearM p piv.length col (swp M piv.length (findRow M col piv.length (M.length - piv.length))), piv ++ [col])
def redM (p : Int) : Mat → List Nat → Nat → Nat → Mat × List Nat
  | M, piv, _, 0 => (M, piv)
  | M, piv, col, n + 1 => if piv.length < M.length then redM p (redStep p M col piv).1 (redStep p M col piv).2 (col + 1) n else (M, piv)
theorem redStep_length (p : Int) (M : Mat) (col : Nat) (piv : List Nat) : (redStep p M col piv).1.length = M.length := by
  unfold redStep
  split
  · rfl
  · simp [clearM_length, swp_length]
theorem redM_length (p : Int) : ∀ (n : Nat) (M : Mat) (piv : List Nat) (col : Nat), (redM p M piv col n).1.length = M.length := by
  intro n
  induction n with
  | zero => intro M piv col; rfl
  | succ n ih =>
    intro M piv col
    unfold redM
    split
    · rw [ih, redStep_length]
    · rfl
theorem redM_piv (p : Int) : ∀ (n : Nat) (M : Mat) (piv : List Nat) (col : Nat), piv.length ≤ M.length → (redM p M piv col n).2.length ≤ M.length := by
  intro n
  induction n with
  | zero => intro M piv col h; exact h
  | succ n ih =>
    intro M piv col h
    unfold redM
    split
    · rename_i hlt
      have := ih (redStep p M col piv).1 (redStep p M col piv).2 (col + 1) (by
        rw [redStep_length]; unfold redStep; split
        · exact h
        · simp; omega)
      rwa [redStep_length] at this
    · exact h
theorem redM_full (p : Int) (M : Mat) (piv : List Nat) (col n : Nat) (h : ¬ piv.length < M.length) : redM p M piv col n = (M, piv) := by
  cases n with
  | zero => rfl
  | succ n => unfold redM; rw [if_neg h]
/-- The remainders of a matrix, its rank modulo a prime. -/
def modM (p : Int) (M : Mat) : Mat := M.map fun r => r.map fun x => x % p
def rankM (p : Int) (M : Mat) : Nat := (redM p (modM p M) [] 0 (M.getD 0 []).length).2.length
theorem modM_length (p : Int) (M : Mat) : (modM p M).length = M.length := by simp [modM]
theorem modM_getD (p : Int) (M : Mat) (i : Nat) : (modM p M).getD i [] = (M.getD i []).map fun x => x % p := by
  by_cases h : i < M.length
  · simp [modM, List.getD, h]
  · simp [modM, List.getD, h]
theorem modM_ok {p : Int} (hp : 0 < p) {n : Nat} {M : Mat} (h : ∀ i, i < M.length → (M.getD i []).length = n) : MatOk p n (modM p M) := by
  constructor
  · intro i hi
    rw [modM_length] at hi
    rw [modM_getD]; simpa using h i hi
  · intro i hi
    rw [modM_getD]
    refine res_of hp fun j hj => ?_
    have hj' : j < (M.getD i []).length := by simpa using hj
    have : ((M.getD i []).map fun x => x % p).getD j 0 = (M.getD i []).getD j 0 % p := by
      generalize M.getD i [] = r at hj'
      simp [List.getD, hj']
    rw [this]
    exact ⟨Int.emod_nonneg _ (by omega), Int.emod_lt_of_pos _ hp⟩
/-- A remainder as it is reckoned. -/
theorem tmod_nn {a p : Int} (h : 0 ≤ a) : a.tmod p = a % p := Int.tmod_eq_emod_of_nonneg h
theorem mod_add (a p : Int) (hp : 0 < p) : (a.tmod p + p).tmod p = a % p := by
  have h1 : 0 ≤ a.tmod p + p := by
    have := Int.lt_tmod_of_pos a hp; omega
  rw [tmod_nn h1, Int.add_emod_right]
  rw [Int.tmod_def]
  exact Int.sub_mul_emod_self_left a p _
end Go.Abs

/- DERIVED by an AI agent. Plain facts: faces of a complex, their counts, borders and holes. No program in sight. -/
namespace Go.Abs
set_option linter.unusedSimpArgs false
set_option linter.unusedVariables false

theorem ordS_congr {f g : Nat → Bool} {k m : Nat} (hm : m ≤ 64) (h : ∀ s, s < 64 → f s = g s) : ordS f k m = ordS g k m := by
  unfold ordS
  refine List.filter_congr fun s hs => ?_
  have := List.mem_range.1 hs
  rw [h s (by omega)]
theorem ordN_congr {f g : Nat → Bool} (h : ∀ s, s < 64 → f s = g s) : ordN f = ordN g := by
  unfold ordN
  have e : (fun j => ordS f j 64) = fun j => ordS g j 64 := funext fun j => ordS_congr (Nat.le_refl _) h
  rw [e]

/-- The faces of the complex with these facets. -/
def faceB (xs : List Int) (s : Nat) : Bool := xs.any fun x => x.toNat &&& s == s
theorem faceB_iff {xs : List Int} {s : Nat} : faceB xs s = true ↔ ∃ x ∈ xs, x.toNat &&& s = s := by simp [faceB]
/-- One more than the greatest number of points of a member. -/
def topP (f : Nat → Bool) : Nat → Nat | 0 => 0 | m + 1 => if f m = true then max (topP f m) (popN m + 1) else topP f m
def dimN (f : Nat → Bool) : Nat := topP f 64
theorem topP_le (f : Nat → Bool) : ∀ m, m ≤ 64 → topP f m ≤ 7 := by
  intro m
  induction m with
  | zero => intro _; simp [topP]
  | succ m ih =>
    intro hm
    unfold topP
    have := pop_le6 (s := m) (by omega)
    have := ih (by omega)
    split <;> omega
theorem dimN_le (f : Nat → Bool) : dimN f ≤ 7 := topP_le f 64 (Nat.le_refl _)
theorem topP_ge {f : Nat → Bool} : ∀ (m s : Nat), s < m → f s = true → popN s + 1 ≤ topP f m := by
  intro m
  induction m with
  | zero => intro s h; omega
  | succ m ih =>
    intro s hs hf
    unfold topP
    by_cases e : s = m
    · subst e; rw [if_pos hf]; omega
    · have := ih s (by omega) hf
      split <;> omega
theorem topP_ex {f : Nat → Bool} : ∀ (m : Nat), 0 < topP f m → ∃ s, s < m ∧ f s = true ∧ popN s + 1 = topP f m := by
  intro m
  induction m with
  | zero => intro h; simp [topP] at h
  | succ m ih =>
    intro h
    unfold topP at h ⊢
    split
    · rename_i hf
      rw [if_pos hf] at h
      by_cases hle : popN m + 1 ≤ topP f m
      · obtain ⟨s, h1, h2, h3⟩ := ih (by omega)
        exact ⟨s, by omega, h2, by omega⟩
      · exact ⟨m, by omega, hf, by omega⟩
    · rename_i hf
      rw [if_neg hf] at h
      obtain ⟨s, h1, h2, h3⟩ := ih h
      exact ⟨s, by omega, h2, h3⟩
theorem topP_congr {f g : Nat → Bool} : ∀ m, m ≤ 64 → (∀ s, s < 64 → f s = g s) → topP f m = topP g m := by
  intro m
  induction m with
  | zero => intro _ _; rfl
  | succ m ih => intro hm h; unfold topP; rw [h m (by omega), ih (by omega) h]
theorem ordS_empty {f : Nat → Bool} {k : Nat} (h : dimN f ≤ k) : ordS f k 64 = [] := by
  unfold ordS
  rw [List.filter_eq_nil_iff]
  intro s hs
  have hs := List.mem_range.1 hs
  intro hc
  simp at hc
  have := topP_ge 64 s hs hc.1
  unfold dimN at h
  omega
theorem mem_ordS {f : Nat → Bool} {k m s : Nat} : s ∈ ordS f k m ↔ s < m ∧ f s = true ∧ popN s = k := by simp [ordS]
theorem ordS_len (f : Nat → Bool) (k : Nat) {m : Nat} (hm : m ≤ 64) : (ordS f k m).length ≤ 64 := by
  have := List.length_filter_le (fun s => f s && popN s == k) (List.range m)
  unfold ordS
  rw [List.length_range] at this
  omega
/-- The members with k points, out of all in order. -/
theorem ordN_filter (f : Nat → Bool) (k : Nat) : (ordN f).filter (fun s => popN s == k) = ordS f k 64 := by
  unfold ordN
  rw [List.filter_flatMap]
  have h1 : ∀ j, (ordS f j 64).filter (fun s => popN s == k) = if j = k then ordS f k 64 else [] := by
    intro j
    unfold ordS
    rw [List.filter_filter]
    by_cases e : j = k
    · subst e
      rw [if_pos rfl]
      refine List.filter_congr fun s _ => ?_
      cases f s <;> cases popN s == j <;> rfl
    · rw [if_neg e, List.filter_eq_nil_iff]
      intro s _ hc
      simp at hc
      omega
  simp only [h1]
  by_cases hk : k < 7
  · have : ∀ n, (List.range n).flatMap (fun j => if j = k then ordS f k 64 else []) = if k < n then ordS f k 64 else [] := by
      intro n
      induction n with
      | zero => simp
      | succ n ih =>
        rw [List.range_succ, List.flatMap_append, ih]
        by_cases h1 : k < n
        · rw [if_pos h1, if_pos (by omega)]; simp; intro h; omega
        · rw [if_neg h1]
          by_cases h2 : n = k
          · subst h2; simp
          · rw [if_neg (by omega)]; simp [h2]
    rw [this 7, if_pos hk]
  · have hd := dimN_le f
    rw [ordS_empty (k := k) (by omega)]
    simp

/-! counts -/
def cntL (l : List Nat) (k : Nat) : Nat := (l.filter fun s => popN s == k).length
def mxL : List Nat → Nat | [] => 0 | s :: l => max (popN s + 1) (mxL l)
def cnts (l : List Nat) (n : Nat) : List Int := (List.range n).map fun k => (cntL l k : Int)
theorem cnts_length (l : List Nat) (n : Nat) : (cnts l n).length = n := by simp [cnts]
theorem cnts_getD (l : List Nat) {n k : Nat} (h : k < n) : (cnts l n).getD k 0 = (cntL l k : Int) := by simp [cnts, List.getD, h]
theorem mxL_snoc (l : List Nat) (s : Nat) : mxL (l ++ [s]) = max (mxL l) (popN s + 1) := by
  induction l with
  | nil => simp [mxL]
  | cons a l ih => simp only [List.cons_append, mxL, ih]; omega
theorem cntL_snoc (l : List Nat) (s k : Nat) : cntL (l ++ [s]) k = cntL l k + if popN s = k then 1 else 0 := by
  unfold cntL
  rw [List.filter_append, List.length_append]
  congr 1
  by_cases h : popN s = k <;> simp [h]
theorem cntL_none (l : List Nat) {k : Nat} (h : mxL l ≤ k) : cntL l k = 0 := by
  unfold cntL
  rw [List.length_eq_zero_iff, List.filter_eq_nil_iff]
  intro s hs hc
  have hc : popN s = k := by simpa using hc
  have : ∀ l : List Nat, s ∈ l → popN s + 1 ≤ mxL l := by
    intro l
    induction l with
    | nil => intro h; cases h
    | cons a l ih =>
      intro h
      unfold mxL
      rcases List.mem_cons.1 h with rfl | h
      · omega
      · have := ih h; omega
  have := this l hs
  omega
theorem cnts_grow (l : List Nat) {n : Nat} (h : mxL l ≤ n) : cnts l n ++ [0] = cnts l (n + 1) := by
  unfold cnts
  rw [List.range_succ, List.map_append]
  simp [cntL_none l h]
theorem cnts_add (l : List Nat) (s n : Nat) (h : popN s < n) : (cnts l n).set (popN s) ((cntL l (popN s) : Int) + 1) = cnts (l ++ [s]) n := by
  refine List.ext_getElem (by simp [cnts_length]) fun k a b => ?_
  rw [List.getElem_set]
  simp only [cnts, List.getElem_map, List.getElem_range, cntL_snoc]
  by_cases e : popN s = k
  · subst e; simp
  · simp [e]
theorem mxL_ordN (f : Nat → Bool) : mxL (ordN f) = dimN f := by
  have h1 : ∀ (l : List Nat) (n : Nat), (∀ s ∈ l, popN s + 1 ≤ n) → mxL l ≤ n := by
    intro l n
    induction l with
    | nil => intro _; simp [mxL]
    | cons a l ih =>
      intro h
      have := h a (by simp)
      have := ih fun s hs => h s (by simp [hs])
      unfold mxL; omega
  have h2 : ∀ (l : List Nat) (s : Nat), s ∈ l → popN s + 1 ≤ mxL l := by
    intro l s
    induction l with
    | nil => intro h; cases h
    | cons a l ih =>
      intro h
      unfold mxL
      rcases List.mem_cons.1 h with rfl | h
      · omega
      · have := ih h; omega
  have a1 := h1 (ordN f) (dimN f) fun s hs => by
    obtain ⟨q1, q2⟩ := mem_ordN.1 hs
    exact topP_ge 64 s q1 q2
  by_cases h0 : 0 < dimN f
  · obtain ⟨s, q1, q2, q3⟩ := topP_ex 64 h0
    have := h2 (ordN f) s (mem_ordN.2 ⟨q1, q2⟩)
    unfold dimN at *
    omega
  · omega
theorem mxL_take {l : List Nat} {k : Nat} : mxL (l.take k) ≤ mxL l := by
  induction l generalizing k with
  | nil => simp
  | cons a l ih =>
    cases k with
    | zero => simp [mxL]
    | succ k => simp only [List.take_succ_cons, mxL]; have := ih (k := k); omega
/-- The numbers of faces by size. -/
def fvec (f : Nat → Bool) : List Int := cnts (ordN f) (dimN f)
theorem fvec_length (f : Nat → Bool) : (fvec f).length = dimN f := cnts_length _ _
theorem fvec_getD (f : Nat → Bool) {k : Nat} (h : k < dimN f) : (fvec f).getD k 0 = ((ordS f k 64).length : Int) := by
  unfold fvec
  rw [cnts_getD _ h]
  unfold cntL
  rw [ordN_filter]

/-! borders -/
def sgnN (a b : Nat) : Int := if a &&& b = a then (if popN (b &&& (b - a - 1)) % 2 = 0 then 1 else -1) else 0
def bordM (l h : List Nat) : Mat := l.map fun a => h.map fun b => sgnN a b
theorem bordM_length (l h : List Nat) : (bordM l h).length = l.length := by simp [bordM]
theorem bordM_row {l h : List Nat} {i : Nat} (hi : i < l.length) : (bordM l h).getD i [] = h.map fun b => sgnN (l.getD i 0) b := by simp [bordM, List.getD, hi]
theorem bordM_rect (l h : List Nat) : ∀ i, i < (bordM l h).length → ((bordM l h).getD i []).length = ((bordM l h).getD 0 []).length := by
  intro i hi
  rw [bordM_length] at hi
  rw [bordM_row hi, bordM_row (by omega)]
  simp
theorem bordM_len0 (l h : List Nat) : ((bordM l h).getD 0 []).length ≤ h.length := by
  by_cases h0 : 0 < l.length
  · rw [bordM_row h0]; simp
  · have : l = [] := List.eq_nil_of_length_eq_zero (by omega)
    subst this; simp [bordM]
/-- Ranks and holes. -/
def rkF (f : Nat → Bool) (p : Int) (k : Nat) : Nat := if k = 0 ∨ dimN f ≤ k then 0 else rankM p (bordM (ordS f (k - 1) 64) (ordS f k 64))
def holF (f : Nat → Bool) (p : Int) : List Int := (List.range (dimN f)).map fun k => ((ordS f k 64).length : Int) - rkF f p k - rkF f p (k + 1)
theorem holF_length (f : Nat → Bool) (p : Int) : (holF f p).length = dimN f := by simp [holF]
theorem holF_getD (f : Nat → Bool) (p : Int) {k : Nat} (h : k < dimN f) : (holF f p).getD k 0 = ((ordS f k 64).length : Int) - rkF f p k - rkF f p (k + 1) := by simp [holF, List.getD, h]
theorem rkF_le (f : Nat → Bool) (p : Int) (k : Nat) : rkF f p k ≤ 64 := by
  unfold rkF
  split
  · omega
  · have := redM_piv p ((bordM (ordS f (k - 1) 64) (ordS f k 64)).getD 0 []).length (modM p (bordM (ordS f (k - 1) 64) (ordS f k 64))) [] 0 (by simp)
    have h2 := ordS_len f (k - 1) (Nat.le_refl 64)
    rw [modM_length, bordM_length] at this
    unfold rankM
    omega
theorem dimN_congr {f g : Nat → Bool} (h : ∀ s, s < 64 → f s = g s) : dimN f = dimN g := topP_congr 64 (Nat.le_refl _) h
theorem holF_congr {f g : Nat → Bool} (p : Int) (h : ∀ s, s < 64 → f s = g s) : holF f p = holF g p := by
  have e1 := dimN_congr h
  have e2 : ∀ k, ordS f k 64 = ordS g k 64 := fun k => ordS_congr (Nat.le_refl _) h
  unfold holF rkF
  simp only [e1, e2]
/-- No subset lies between. -/
theorem sub_next : ∀ s, s < 64 → ∀ t, t < 64 → t &&& s = t → t ≠ 0 → ∀ u, u < t → u &&& s = u → u ≤ (t - 1) &&& s := by
  have h : ((List.range 64).all fun s => (List.range 64).all fun t => (t &&& s != t) || (t == 0) || (List.range t).all fun u => (u &&& s != u) || decide (u ≤ (t - 1) &&& s)) = true := by decide +kernel
  intro s hs t ht h1 h2 u hu h3
  have := List.all_eq_true.1 (List.all_eq_true.1 h s (List.mem_range.2 hs)) t (List.mem_range.2 ht)
  simp [h1, h2] at this
  rcases this u hu with h4 | h4
  · exact absurd h3 h4
  · exact h4
theorem sgn_diff : ∀ a, a < 64 → ∀ b, b < 64 → a &&& b = a → a ≤ b ∧ b ^^^ (a &&& b) = b - a := by
  have h : ((List.range 64).all fun a => (List.range 64).all fun b => (a &&& b != a) || (decide (a ≤ b) && (b ^^^ (a &&& b) == b - a))) = true := by decide +kernel
  intro a ha b hb h1
  have := List.all_eq_true.1 (List.all_eq_true.1 h a (List.mem_range.2 ha)) b (List.mem_range.2 hb)
  simp [h1] at this
  rw [h1]; exact this
end Go.Abs

/- DERIVED by an AI agent. Plain facts: the complex within a set of points; tables of relations. No program in sight. -/
namespace Go.Abs
set_option linter.unusedSimpArgs false
set_option linter.unusedVariables false

/-- A member lies within a greatest one. -/
theorem greatest_in {f : Nat → Bool} : ∀ (n s : Nat), 6 - popN s ≤ n → s < 64 → f s = true → ∃ t, t < 64 ∧ f t = true ∧ s &&& t = s ∧ extB f true t = true := by
  intro n
  induction n with
  | zero =>
    intro s hn hs hf
    refine ⟨s, hs, hf, Nat.and_self s, extB_iff'.2 fun t ht _ hsub => Classical.byContradiction fun hne => ?_⟩
    have := pop_sub ht hs hsub (Ne.symm hne)
    have := pop_le6 ht
    omega
  | succ n ih =>
    intro s hn hs hf
    cases hx : extB f true s with
    | true => exact ⟨s, hs, hf, Nat.and_self s, hx⟩
    | false =>
      have : ¬ ∀ t, t < 64 → f t = true → s &&& t = s → t = s := fun h => by rw [extB_iff'.2 h] at hx; cases hx
      obtain ⟨t, ht⟩ := Classical.not_forall.1 this
      have ht' : t < 64 ∧ f t = true ∧ s &&& t = s ∧ t ≠ s := by
        refine ⟨Classical.byContradiction fun h => ht fun h2 => absurd h2 h, Classical.byContradiction fun h => ht fun _ h2 => absurd h2 h, Classical.byContradiction fun h => ht fun _ _ h2 => absurd h2 h, fun e => ht fun _ _ _ => e⟩
      obtain ⟨h1, h2, h3, h4⟩ := ht'
      have hp := pop_sub h1 hs h3 (Ne.symm h4)
      have := pop_le6 h1
      obtain ⟨u, u1, u2, u3, u4⟩ := ih t (by omega) h1 h2
      exact ⟨u, u1, u2, sub_trans h3 u3, u4⟩
theorem mem_extN {f : Nat → Bool} {g : Bool} {s : Nat} : s ∈ extN f g ↔ (s < 64 ∧ f s = true) ∧ extB f g s = true := by
  unfold extN; rw [List.mem_filter, mem_ordN]
theorem extN_pw (f : Nat → Bool) (g : Bool) : (extN f g).Pairwise befN := List.Pairwise.filter _ (ordN_pw f)
theorem faceB_ofN (l : List Nat) (t : Nat) : faceB (ofN l) t = l.any fun s => s &&& t == t := by
  unfold faceB ofN
  rw [List.any_map]
  congr 1
/-- The faces of the complex of these sets. -/
theorem faceB_ext (f : Nat → Bool) (t : Nat) : faceB (ofN (extN f true)) t = (List.range 64).any fun s => f s && (s &&& t == t) := by
  rw [faceB_ofN]
  refine Bool.eq_iff_iff.2 ⟨fun h => ?_, fun h => ?_⟩
  · obtain ⟨s, hs, h2⟩ := List.any_eq_true.1 h
    obtain ⟨⟨q1, q2⟩, _⟩ := mem_extN.1 hs
    exact List.any_eq_true.2 ⟨s, List.mem_range.2 q1, by rw [q2, h2]; rfl⟩
  · obtain ⟨s, hs, h2⟩ := List.any_eq_true.1 h
    have hs := List.mem_range.1 hs
    simp only [Bool.and_eq_true, beq_iff_eq] at h2
    obtain ⟨u, u1, u2, u3, u4⟩ := greatest_in (6 - popN s) s (Nat.le_refl _) hs h2.1
    refine List.any_eq_true.2 ⟨u, mem_extN.2 ⟨⟨u1, u2⟩, u4⟩, ?_⟩
    have h5 : t &&& s = t := by rw [Nat.and_comm]; exact h2.2
    have := sub_trans h5 u3
    rw [Nat.and_comm] at this
    simpa using this

/-! tables of relations -/
def addAt (M : Mat) (a b : Nat) (x : Int) : Mat := M.set a ((M.getD a []).set b ((M.getD a []).getD b 0 + x))
theorem addAt_length (M : Mat) (a b : Nat) (x : Int) : (addAt M a b x).length = M.length := by simp [addAt]
/-- A matrix of n + 1 rows and columns whose numbers are at most c in size. -/
structure Sq (n : Nat) (c : Int) (M : Mat) : Prop where
  len : M.length = n + 1
  row : ∀ i, i < n + 1 → (M.getD i []).length = n + 1
  small : ∀ i j, -c ≤ (M.getD i []).getD j 0 ∧ (M.getD i []).getD j 0 ≤ c
theorem Sq.mono {n : Nat} {c d : Int} {M : Mat} (h : Sq n c M) (hcd : c ≤ d) : Sq n d M := ⟨h.len, h.row, fun i j => by have := h.small i j; omega⟩
theorem getM_set (M : Mat) (a i : Nat) (r : List Int) : (M.set a r).getD i [] = if a = i ∧ i < M.length then r else M.getD i [] := by
  by_cases h : a = i
  · subst h
    by_cases h2 : a < M.length
    · rw [if_pos ⟨rfl, h2⟩, getM_set_self h2]
    · rw [if_neg (fun h => h2 h.2), List.set_eq_of_length_le (by omega)]
  · rw [if_neg (fun h' => h h'.1), getM_set_ne h]
theorem getI_set (r : List Int) (b j : Nat) (x : Int) : (r.set b x).getD j 0 = if b = j ∧ j < r.length then x else r.getD j 0 := by
  by_cases h : b = j
  · subst h
    by_cases h2 : b < r.length
    · rw [if_pos ⟨rfl, h2⟩]; simp [List.getD, h2]
    · rw [if_neg (fun h => h2 h.2), List.set_eq_of_length_le (by omega)]
  · rw [if_neg (fun h' => h h'.1)]; simp [List.getD, List.getElem?_set_ne h]
theorem addAt_sq {n : Nat} {c d : Int} {M : Mat} (h : Sq n c M) (a b : Nat) {x : Int} (hx : -d ≤ x ∧ x ≤ d) : Sq n (c + d) (addAt M a b x) := by
  refine ⟨by rw [addAt_length, h.len], fun i hi => ?_, fun i j => ?_⟩
  · unfold addAt
    rw [getM_set]
    split
    · rename_i h1; rw [List.length_set, h1.1]; exact h.row i hi
    · exact h.row i hi
  · have h1 := h.small i j
    unfold addAt
    rw [getM_set]
    split
    · rename_i h2
      rw [getI_set, h2.1]
      have h3 := h.small i b
      split <;> omega
    · omega
theorem zeroM_sq (n : Nat) : Sq n 0 (List.replicate (n + 1) (List.replicate (n + 1) 0)) := by
  refine ⟨by simp, fun i hi => by simp [List.getD, hi], fun i j => ?_⟩
  have : ((List.replicate (n + 1) (List.replicate (n + 1) (0 : Int))).getD i []).getD j 0 = 0 := by
    by_cases hi : i < n + 1
    · have e : (List.replicate (n + 1) (List.replicate (n + 1) (0 : Int))).getD i [] = List.replicate (n + 1) 0 := by simp [List.getD, hi]
      rw [e]
      by_cases hj : j < n + 1
      · simp [List.getD, hj]
      · simp [List.getD, hj]
    · have e : (List.replicate (n + 1) (List.replicate (n + 1) (0 : Int))).getD i [] = [] := by simp [List.getD, hi]
      rw [e]; rfl
  rw [this]; omega
/-- The holes of a part with j points, put into the column j. -/
def addH (M : Mat) (j : Nat) (hs : List Int) : Nat → Mat | 0 => M | k + 1 => if k ≤ j then addAt (addH M j hs k) (j - k) j (hs.getD k 0) else addH M j hs k
theorem addH_sq {n j : Nat} {c : Int} {M : Mat} {hs : List Int} (h : Sq n c M) (hh : ∀ k, -200 ≤ hs.getD k 0 ∧ hs.getD k 0 ≤ 200) : ∀ k : Nat, Sq n (c + 200 * k) (addH M j hs k) := by
  intro k
  induction k with
  | zero => simpa [addH] using h
  | succ k ih =>
    unfold addH
    split
    · have := addAt_sq ih (j - k) j (hh k)
      refine this.mono (by omega)
    · exact ih.mono (by omega)
theorem addH_stop {M : Mat} {j : Nat} {hs : List Int} {k : Nat} (h : j < k) : ∀ m, addH M j hs (k + m) = addH M j hs k := by
  intro m
  induction m with
  | zero => rfl
  | succ m ih =>
    rw [← Nat.add_assoc, addH, if_neg (by omega), ih]
def partF (f : Nat → Bool) (w : Nat) (t : Nat) : Bool := f t && (w &&& t == t)
/-- The table on the way: the sets of points below w are done. -/
def betP (f : Nat → Bool) (p : Int) (n : Nat) : Nat → Mat | 0 => List.replicate (n + 1) (List.replicate (n + 1) 0) | w + 1 => addH (betP f p n w) (popN w) (holF (partF f w) p) (dimN (partF f w))
theorem hol_small (f : Nat → Bool) (p : Int) (k : Nat) : -200 ≤ (holF f p).getD k 0 ∧ (holF f p).getD k 0 ≤ 200 := by
  by_cases h : k < dimN f
  · rw [holF_getD f p h]
    have h1 := ordS_len f k (Nat.le_refl 64)
    have h2 := rkF_le f p k
    have h3 := rkF_le f p (k + 1)
    omega
  · have : (holF f p).getD k 0 = 0 := by
      have : (holF f p)[k]? = none := List.getElem?_eq_none (by rw [holF_length]; omega)
      simp [List.getD, this]
    rw [this]; omega
theorem betP_sq (f : Nat → Bool) (p : Int) (n : Nat) : ∀ w : Nat, Sq n (1400 * w) (betP f p n w) := by
  intro w
  induction w with
  | zero => simpa [betP] using zeroM_sq n
  | succ w ih =>
    unfold betP
    have := addH_sq (j := popN w) ih (hol_small (partF f w) p) (dimN (partF f w))
    have hd := dimN_le (partF f w)
    exact this.mono (by omega)
def betT (f : Nat → Bool) (p : Int) (n : Nat) : Mat := betP f p n (2 ^ n)
theorem betT_sq (f : Nat → Bool) (p : Int) {n : Nat} (hn : n ≤ 6) : Sq n 100000 (betT f p n) := by
  refine (betP_sq f p n (2 ^ n)).mono ?_
  have : (2 : Nat) ^ n ≤ 2 ^ 6 := Nat.pow_le_pow_right (by omega) hn
  omega
theorem pop_le_n {n w : Nat} (hn : n ≤ 6) (h : w < 2 ^ n) : popN w ≤ n := by
  have h6 : ((List.range 7).all fun n => (List.range (2 ^ n)).all fun w => decide (pop6 w ≤ n)) = true := by decide +kernel
  have hw : w < 64 := Nat.lt_of_lt_of_le h (by have : (2 : Nat) ^ n ≤ 2 ^ 6 := Nat.pow_le_pow_right (by omega) hn; omega)
  have := List.all_eq_true.1 (List.all_eq_true.1 h6 n (List.mem_range.2 (by omega))) w (List.mem_range.2 h)
  rw [popN_6 hw]; simpa using this
end Go.Abs

/- DERIVED by an AI agent. Plain facts: what is read off a table of relations. No program in sight. -/
namespace Go.Abs
set_option linter.unusedSimpArgs false
set_option linter.unusedVariables false

/-- A small square table. -/
structure SqB (M : Mat) : Prop where
  len : M.length ≤ 7
  row : ∀ i, i < M.length → (M.getD i []).length = M.length
  small : ∀ i j, -100000 ≤ (M.getD i []).getD j 0 ∧ (M.getD i []).getD j 0 ≤ 100000
theorem SqB.nil : SqB [] := ⟨by simp, fun i h => by simp at h, fun i j => by simp [List.getD]⟩
theorem SqB.of {n : Nat} {M : Mat} (h : Sq n 100000 M) (hn : n ≤ 6) : SqB M := ⟨by rw [h.len]; omega, fun i hi => by rw [h.len] at hi ⊢; exact h.row i hi, h.small⟩
end Go.Abs

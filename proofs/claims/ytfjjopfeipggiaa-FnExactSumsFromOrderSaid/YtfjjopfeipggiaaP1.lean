/- DERIVED by an AI agent. -/
import Derived.Test.YtfjjopfeipggiaaA8
/- DERIVED by an AI agent. Plain facts of lists. No program in sight. -/
namespace Go.Abs
theorem getD_mem {α : Type} {xs : List α} {i : Nat} (d : α) (h : i < xs.length) : xs.getD i d ∈ xs := by
  have : xs.getD i d = xs[i] := by simp [List.getD, h]
  rw [this]; exact List.getElem_mem h
theorem getD_at {α : Type} {xs : List α} {i : Nat} (d : α) (h : i < xs.length) : xs.getD i d = xs[i] := by simp [List.getD, h]
theorem mem_getD {α : Type} {xs : List α} {x : α} (d : α) (h : x ∈ xs) : ∃ i, i < xs.length ∧ xs.getD i d = x := by
  obtain ⟨i, hi, rfl⟩ := List.getElem_of_mem h
  exact ⟨i, hi, getD_at d hi⟩
theorem take_snoc {α : Type} {xs : List α} {i : Nat} (d : α) (h : i < xs.length) : xs.take (i + 1) = xs.take i ++ [xs.getD i d] := by
  rw [getD_at d h]; simp
theorem drop_step {α : Type} {xs : List α} {i : Nat} (d : α) (h : i < xs.length) : xs.drop i = xs.getD i d :: xs.drop (i + 1) := by
  rw [getD_at d h]; simp
theorem set_fill {α : Type} {xs : List α} {i : Nat} (d z : α) (h : i < xs.length) : (xs.take i ++ List.replicate (xs.length - i) z).set i (xs.getD i d) = xs.take (i + 1) ++ List.replicate (xs.length - (i + 1)) z := by
  rw [take_snoc d h]
  have e : xs.length - i = (xs.length - (i + 1)) + 1 := by omega
  rw [e, List.replicate_succ]
  have hl : (xs.take i).length = i := by simp; omega
  rw [List.set_append_right _ _ (by omega), hl, Nat.sub_self]
  simp
theorem spl_fill {a b : List PV} {p q : PV} {i : Nat} (h : a.length = i) : spl (a ++ p :: b) i [q] = a ++ q :: b := by
  subst h
  simp [spl]
theorem wrap_nat {i n : Nat} (h : i < n) (hn : n ≤ 9223372036854775807) : IntKind.i64.wrap ((i : Int) + 1) = ((i + 1 : Nat) : Int) := by
  rw [wrap_id (by omega) (by omega)]; rfl
theorem fill_length {α : Type} {xs : List α} {i : Nat} {z : α} (h : i ≤ xs.length) : (xs.take i ++ List.replicate (xs.length - i) z).length = xs.length := by simp; omega
/-- Rows in the making. -/
def fillLL (xss : List (List Int)) (i : Nat) : List PV := iLL (xss.take i) ++ List.replicate (xss.length - i) (.v (.slice none 0 0))
theorem fillLL_length {xss : List (List Int)} {i : Nat} (h : i ≤ xss.length) : (fillLL xss i).length = xss.length := by simp [fillLL, iLL_length]; omega
theorem fillLL_zero (xss : List (List Int)) : List.replicate xss.length (PV.v (.slice none 0 0)) = fillLL xss 0 := by simp [fillLL, iLL]
theorem fillLL_end {xss : List (List Int)} {i : Nat} (h : xss.length ≤ i) : fillLL xss i = iLL xss := by simp [fillLL, List.take_of_length_le h, Nat.sub_eq_zero_of_le h]
theorem fillLL_spl {xss : List (List Int)} {i : Nat} (h : i < xss.length) : spl (fillLL xss i) i [.sl false 1 (iL (xss.getD i []))] = fillLL xss (i + 1) := by
  have e : xss.length - i = (xss.length - (i + 1)) + 1 := by omega
  unfold fillLL
  rw [e, List.replicate_succ, spl_fill (by rw [iLL_length]; simp; omega), take_snoc [] h, ← iLL_snoc, List.append_assoc]
  rfl
theorem toNat_pred (k : Nat) : ((k : Int) - 1).toNat = k - 1 := by omega
theorem toNat_succ (k : Nat) : ((k : Int) + 1).toNat = k + 1 := by omega
end Go.Abs

/- DERIVED by an AI agent. Plain facts of small numbers as sets. No program in sight. -/
namespace Go.Abs
def popN (n : Nat) : Nat := if h : n = 0 then 0 else n % 2 + popN (n / 2)
termination_by n
decreasing_by omega
theorem popN_zero : popN 0 = 0 := by rw [popN]; simp
theorem popN_pos {n : Nat} (h : n ≠ 0) : popN n = n % 2 + popN (n / 2) := by rw [popN]; simp [h]
theorem popN_le (n : Nat) : popN n ≤ n := by
  induction n using Nat.strongRecOn with
  | ind n ih =>
    by_cases h : n = 0
    · subst h; simp [popN_zero]
    · rw [popN_pos h]
      have := ih (n / 2) (by omega)
      omega
/-- The bits of a number below 64. -/
def pop6 (n : Nat) : Nat := n % 2 + n / 2 % 2 + n / 4 % 2 + n / 8 % 2 + n / 16 % 2 + n / 32 % 2
theorem popN_6 {n : Nat} (h : n < 64) : popN n = pop6 n := by
  have st : ∀ s, popN s = s % 2 + popN (s / 2) := by
    intro s
    by_cases h0 : s = 0
    · subst h0; simp [popN_zero]
    · exact popN_pos h0
  rw [st n, st (n / 2), st (n / 2 / 2), st (n / 2 / 2 / 2), st (n / 2 / 2 / 2 / 2), st (n / 2 / 2 / 2 / 2 / 2)]
  have h6 : n / 2 / 2 / 2 / 2 / 2 / 2 = 0 := by omega
  rw [h6, popN_zero]
  unfold pop6
  omega
theorem iand_one {n : Nat} (h : n < 9223372036854775808) : iand .i64 (n : Int) 1 = ((n % 2 : Nat) : Int) := by
  have e : (BitVec.ofInt 64 (n : Int) &&& BitVec.ofInt 64 1).toNat = n % 2 := by
    have h1 : BitVec.ofInt 64 (n : Int) = BitVec.ofNat 64 n := by simp
    have h2 : BitVec.ofInt 64 (1 : Int) = 1#64 := by decide
    rw [h1, h2, BitVec.toNat_and, BitVec.toNat_ofNat, Nat.mod_eq_of_lt (by omega)]
    simp
  show IntKind.i64.wrap (((BitVec.ofInt 64 (n : Int) &&& BitVec.ofInt 64 1).toNat : Nat) : Int) = _
  rw [e, wrap_id (by omega) (by omega)]
theorem ishr_one (n : Nat) : ishr .i64 (n : Int) 1 = ((n / 2 : Nat) : Int) := by
  simp [ishr, IntKind.bits]
  exact Int.fdiv_eq_ediv_of_nonneg _ (by omega)
theorem ishl_small {n : Nat} (h : n ≤ 6) : ishl .i64 1 (n : Int) = ((2 ^ n : Nat) : Int) := by
  have : ∀ m : Fin 7, ishl .i64 1 ((m.val : Nat) : Int) = ((2 ^ m.val : Nat) : Int) := by decide +kernel
  exact this ⟨n, by omega⟩
theorem uwrap_nat {n : Nat} (h : n < 9223372036854775808) : IntKind.u64.wrap (n : Int) = (n : Int) := by
  simp [IntKind.wrap, IntKind.bits, IntKind.signed]
  omega
def inSet (n s : Int) : Bool := decide (0 ≤ n ∧ n ≤ 6 ∧ 0 ≤ s ∧ s < 2 ^ n.toNat)
theorem pow_nat (m : Nat) : (2 : Int) ^ ((m : Int)).toNat = ((2 ^ m : Nat) : Int) := by simp
theorem two_pow_le {m : Nat} (h : m ≤ 6) : 2 ^ m ≤ 64 := by
  have : ∀ k : Fin 7, 2 ^ k.val ≤ 64 := by decide
  exact this ⟨m, by omega⟩
theorem inSet_lt {n s : Int} (h : inSet n s = true) : 0 ≤ s ∧ s < 64 := by
  simp only [inSet, decide_eq_true_eq] at h
  obtain ⟨h0, h6, hs, hl⟩ := h
  obtain ⟨m, rfl⟩ := Int.eq_ofNat_of_zero_le h0
  rw [pow_nat] at hl
  have := two_pow_le (m := m) (by omega)
  omega
end Go.Abs

/- DERIVED by an AI agent. Plain facts of sets as numbers, of lists that are rearranged. No program in sight. -/
namespace Go.Abs

theorem toNat_bv {a : Nat} (ha : a < 9223372036854775808) : (BitVec.ofInt 64 (a : Int)).toNat = a := by
  simp
  omega
theorem iand_nat {a b : Nat} (ha : a < 9223372036854775808) (hb : b < 9223372036854775808) : iand .i64 (a : Int) (b : Int) = ((a &&& b : Nat) : Int) := by
  show IntKind.i64.wrap (((BitVec.ofInt 64 (a : Int) &&& BitVec.ofInt 64 (b : Int)).toNat : Nat) : Int) = _
  rw [BitVec.toNat_and, toNat_bv ha, toNat_bv hb]
  have : a &&& b ≤ a := Nat.and_le_left
  exact wrap_id (by omega) (by omega)
theorem lt_63_or {a b : Nat} (ha : a < 9223372036854775808) (hb : b < 9223372036854775808) : a ||| b < 9223372036854775808 := Nat.or_lt_two_pow (n := 63) ha hb
theorem lt_63_xor {a b : Nat} (ha : a < 9223372036854775808) (hb : b < 9223372036854775808) : a ^^^ b < 9223372036854775808 := Nat.xor_lt_two_pow (n := 63) ha hb
theorem ior_nat {a b : Nat} (ha : a < 9223372036854775808) (hb : b < 9223372036854775808) : ior .i64 (a : Int) (b : Int) = ((a ||| b : Nat) : Int) := by
  show IntKind.i64.wrap (((BitVec.ofInt 64 (a : Int) ||| BitVec.ofInt 64 (b : Int)).toNat : Nat) : Int) = _
  rw [BitVec.toNat_or, toNat_bv ha, toNat_bv hb]
  have := lt_63_or ha hb
  exact wrap_id (by omega) (by omega)
theorem ixor_nat {a b : Nat} (ha : a < 9223372036854775808) (hb : b < 9223372036854775808) : ixor .i64 (a : Int) (b : Int) = ((a ^^^ b : Nat) : Int) := by
  show IntKind.i64.wrap (((BitVec.ofInt 64 (a : Int) ^^^ BitVec.ofInt 64 (b : Int)).toNat : Nat) : Int) = _
  rw [BitVec.toNat_xor, toNat_bv ha, toNat_bv hb]
  have := lt_63_xor ha hb
  exact wrap_id (by omega) (by omega)
theorem iandnot_nat {a b : Nat} (ha : a < 9223372036854775808) (hb : b < 9223372036854775808) : iandnot .i64 (a : Int) (b : Int) = ((a ^^^ (a &&& b) : Nat) : Int) := by
  have h : BitVec.ofInt 64 (a : Int) &&& ~~~ BitVec.ofInt 64 (b : Int) = BitVec.ofInt 64 (a : Int) ^^^ (BitVec.ofInt 64 (a : Int) &&& BitVec.ofInt 64 (b : Int)) := by
    ext i hi
    simp only [BitVec.getElem_and, BitVec.getElem_not, BitVec.getElem_xor]
    cases (BitVec.ofInt 64 (a : Int))[i] <;> cases (BitVec.ofInt 64 (b : Int))[i] <;> rfl
  show IntKind.i64.wrap (((BitVec.ofInt 64 (a : Int) &&& ~~~ BitVec.ofInt 64 (b : Int)).toNat : Nat) : Int) = _
  rw [h, BitVec.toNat_xor, BitVec.toNat_and, toNat_bv ha, toNat_bv hb]
  have h1 : a &&& b ≤ a := Nat.and_le_left
  have := lt_63_xor (a := a) (b := a &&& b) ha (by omega)
  exact wrap_id (by omega) (by omega)
theorem xor_and_zero {a b : Nat} : a ^^^ (a &&& b) = 0 ↔ a &&& b = a := by
  constructor
  · intro h
    have := congrArg (· ^^^ (a &&& b)) h
    simp only [Nat.xor_assoc, Nat.xor_self, Nat.xor_zero, Nat.zero_xor] at this
    exact this.symm
  · intro h; rw [h, Nat.xor_self]
/-- A set within another: one way of telling it as the other. -/
theorem andnot_zero {a b : Int} (ha : 0 ≤ a ∧ a < 64) (hb : 0 ≤ b ∧ b < 64) : iandnot .i64 a b = 0 ↔ iand .i64 a b = a := by
  obtain ⟨a, rfl⟩ := Int.eq_ofNat_of_zero_le ha.1
  obtain ⟨b, rfl⟩ := Int.eq_ofNat_of_zero_le hb.1
  rw [iandnot_nat (by omega) (by omega), iand_nat (by omega) (by omega)]
  have := @xor_and_zero a b
  omega

/-! lists that are rearranged -/
theorem perm_of_sub {α : Type} [DecidableEq α] : ∀ {l m : List α}, l.Nodup → (∀ x ∈ l, x ∈ m) → m.length ≤ l.length → l.Perm m := by
  intro l
  induction l with
  | nil => intro m _ _ h; have : m = [] := List.eq_nil_of_length_eq_zero (by simpa using h); subst this; exact .nil
  | cons a l ih =>
    intro m hn hs hl
    have ha : a ∈ m := hs a (by simp)
    have hn' := List.nodup_cons.1 hn
    have hp : m.Perm (a :: m.erase a) := List.perm_cons_erase ha
    have h2 : l.Perm (m.erase a) := by
      refine ih hn'.2 (fun x hx => ?_) ?_
      · have hxa : x ≠ a := fun e => hn'.1 (e ▸ hx)
        exact (List.mem_erase_of_ne hxa).2 (hs x (by simp [hx]))
      · have := hp.length_eq
        simp at this hl
        omega
    exact (List.Perm.cons a h2).trans hp.symm
theorem nodup_of_len {α : Type} [DecidableEq α] {l m : List α} (hn : l.Nodup) (hs : ∀ x ∈ l, x ∈ m) (hl : m.length ≤ l.length) : m.Nodup ∧ ∀ x ∈ m, x ∈ l := by
  have hp := perm_of_sub hn hs hl
  exact ⟨hp.nodup_iff.1 hn, fun x hx => hp.mem_iff.2 hx⟩
theorem dec_self (xs : List Int) : decide (xs = xs) = true := by simp
theorem dec_self2 (xs : List (List Int)) : decide (xs = xs) = true := by simp
theorem dec_true : decide True = true := by simp
theorem bool_ne_self (b : Bool) : (!(b == b)) = false := by simp
end Go.Abs

/- DERIVED by an AI agent. Plain facts: folds over lists, sets without others, binomials. No program in sight. -/
namespace Go.Abs

theorem foldl_step {α : Type} (f : α → Int → α) (a : α) {l : List Int} {k : Nat} (h : k < l.length) : (l.take (k + 1)).foldl f a = f ((l.take k).foldl f a) (l.getD k 0) := by
  rw [take_snoc 0 h, List.foldl_append]; rfl
theorem dif_tab : ∀ b, b < 64 → ∀ g, g < 64 → b - (b &&& g) = b ^^^ (b &&& g) := by decide +kernel
/-- What is in a set and not in another. -/
theorem andnot_sub {b g : Int} (hb : 0 ≤ b ∧ b < 64) (hg : 0 ≤ g ∧ g < 64) : b - iand .i64 b g = iandnot .i64 b g ∧ 0 ≤ iandnot .i64 b g ∧ iandnot .i64 b g < 64 := by
  obtain ⟨b, rfl⟩ := Int.eq_ofNat_of_zero_le hb.1
  obtain ⟨g, rfl⟩ := Int.eq_ofNat_of_zero_le hg.1
  rw [iand_nat (by omega) (by omega), iandnot_nat (by omega) (by omega), ← dif_tab b (by omega) g (by omega)]
  have : b &&& g ≤ b := Nat.and_le_left
  omega
theorem ior_lt {a b : Int} (ha : 0 ≤ a ∧ a < 64) (hb : 0 ≤ b ∧ b < 64) : 0 ≤ ior .i64 a b ∧ ior .i64 a b < 64 := by
  obtain ⟨a, rfl⟩ := Int.eq_ofNat_of_zero_le ha.1
  obtain ⟨b, rfl⟩ := Int.eq_ofNat_of_zero_le hb.1
  rw [ior_nat (by omega) (by omega)]
  have : a ||| b < 2 ^ 6 := Nat.or_lt_two_pow (by omega) (by omega)
  omega
theorem iand_lt {a b : Int} (ha : 0 ≤ a ∧ a < 64) (hb : 0 ≤ b ∧ b < 64) : 0 ≤ iand .i64 a b ∧ iand .i64 a b < 64 := by
  obtain ⟨a, rfl⟩ := Int.eq_ofNat_of_zero_le ha.1
  obtain ⟨b, rfl⟩ := Int.eq_ofNat_of_zero_le hb.1
  rw [iand_nat (by omega) (by omega)]
  have : a &&& b ≤ a := Nat.and_le_left
  omega
theorem iand_comm (a b : Int) : iand .i64 a b = iand .i64 b a := by
  unfold iand; rw [BitVec.and_comm]

/-- Binomials. -/
def bin : Nat → Nat → Nat
  | _, 0 => 1
  | 0, _ + 1 => 0
  | n + 1, k + 1 => bin n k + bin n (k + 1)
theorem bin_zero (n : Nat) : bin n 0 = 1 := by cases n <;> rfl
theorem bin_big : ∀ (n k : Nat), n < k → bin n k = 0 := by
  intro n
  induction n with
  | zero => intro k h; cases k with
    | zero => omega
    | succ k => rfl
  | succ n ih => intro k h; cases k with
    | zero => omega
    | succ k => rw [bin, ih k (by omega), ih (k + 1) (by omega)]
theorem bin_step : ∀ (n k : Nat), bin n k * (n - k) = bin n (k + 1) * (k + 1) := by
  intro n
  induction n with
  | zero => intro k; simp [bin]
  | succ n ih =>
    intro k
    cases k with
    | zero =>
      have := ih 0
      rw [bin_zero] at this ⊢
      rw [bin, bin_zero]
      simp at this ⊢
      omega
    | succ k =>
      by_cases hk : n < k + 1
      · rw [bin_big (n + 1) (k + 2) (by omega), show n + 1 - (k + 1) = 0 by omega]; simp
      · have h1 := ih k
        have h2 := ih (k + 1)
        rw [bin, bin]
        have e1 : n + 1 - (k + 1) = n - k := by omega
        have e2 : n - k = (n - (k + 1)) + 1 := by omega
        rw [e1]
        have h3 : bin n (k + 1) * (n - k) = bin n (k + 1) * (n - (k + 1)) + bin n (k + 1) := by rw [e2, Nat.mul_add, Nat.mul_one]
        rw [Nat.add_mul, h1, h3, h2, Nat.add_mul, Nat.mul_add (bin n (k + 1)) (k + 1) 1]
        omega
theorem bin_le : ∀ (n k : Nat), bin n k ≤ 2 ^ n := by
  intro n
  induction n with
  | zero => intro k; cases k <;> simp [bin]
  | succ n ih =>
    intro k
    cases k with
    | zero => rw [bin_zero]; exact Nat.one_le_two_pow
    | succ k => rw [bin, Nat.pow_succ]; have := ih k; have := ih (k + 1); omega
theorem bin_sym : ∀ (n k : Nat), k ≤ n → bin n (n - k) = bin n k := by
  intro n
  induction n with
  | zero => intro k h; have : k = 0 := by omega
            subst this; rfl
  | succ n ih =>
    intro k h
    cases k with
    | zero =>
      rw [Nat.sub_zero, bin_zero, bin, bin_big n (n + 1) (by omega)]
      have := ih 0 (by omega)
      rw [bin_zero] at this
      simpa using this
    | succ k =>
      rw [show n + 1 - (k + 1) = n - k by omega]
      rcases Nat.lt_or_ge k n with hk | hk
      · rw [show n - k = (n - (k + 1)) + 1 by omega, bin, bin, ih (k + 1) (by omega), show n - (k + 1) + 1 = n - k by omega, ih k (by omega)]
        omega
      · have : k = n := by omega
        subst this
        rw [Nat.sub_self, bin_zero, bin, bin_big k (k + 1) (by omega)]
        have := ih 0 (by omega)
        rw [bin_zero] at this
        simp at this
        omega
theorem mul_lt63 {a n i : Nat} (hn : n ≤ 57) (ha : a ≤ 2 ^ n) : a * (n - i) < 9223372036854775808 := by
  have h1 : (2 : Nat) ^ n ≤ 2 ^ 57 := Nat.pow_le_pow_right (by omega) hn
  have h2 : a * (n - i) ≤ 2 ^ 57 * 57 := Nat.mul_le_mul (by omega) (by omega)
  omega
theorem bin_le57 {n k : Nat} (hn : n ≤ 57) : bin n k < 9223372036854775808 := by
  have h1 : (2 : Nat) ^ n ≤ 2 ^ 57 := Nat.pow_le_pow_right (by omega) hn
  have := bin_le n k
  omega
theorem ch_sub {n i : Nat} (hn : n ≤ 57) (hi : i < n) : IntKind.i64.wrap ((n : Int) - (i : Int)) = ((n - i : Nat) : Int) := by
  rw [wrap_id (by omega) (by omega)]; omega
theorem ch_mul {n i : Nat} (hn : n ≤ 57) (hi : i < n) : IntKind.i64.wrap (((bin n i : Nat) : Int) * ((n - i : Nat) : Int)) = ((bin n (i + 1) * (i + 1) : Nat) : Int) := by
  have h := mul_lt63 (i := i) hn (bin_le n i)
  rw [← Int.natCast_mul, wrap_id (by omega) (by omega), bin_step]
theorem ch_quo {n i : Nat} (hn : n ≤ 57) : IntKind.i64.wrap (((bin n (i + 1) * (i + 1) : Nat) : Int).tdiv ((i + 1 : Nat) : Int)) = ((bin n (i + 1) : Nat) : Int) := by
  have h := bin_le57 (k := i + 1) hn
  have e : ((bin n (i + 1) * (i + 1) : Nat) : Int).tdiv ((i + 1 : Nat) : Int) = ((bin n (i + 1) : Nat) : Int) := by
    rw [Int.natCast_mul]; exact Int.mul_tdiv_cancel _ (by omega)
  rw [e, wrap_id (by omega) (by omega)]
end Go.Abs

/- DERIVED by an AI agent. -/
import Derived.Test.YtnfpeinbdfmlnaaA11
/- DERIVED by an AI agent. Plain facts of lists. No program in sight. -/
namespace Go.Abs
theorem getD_mem {α : Type} {xs : List α} {i : Nat} (d : α) (h : i < xs.length) : xs.getD i d ∈ xs := by
  have : xs.getD i d = xs[i] := by simp [List.getD, h]
  rw [this]; exact List.getElem_mem h
theorem getD_at {α : Type} {xs : List α} {i : Nat} (d : α) (h : i < xs.length) : xs.getD i d = xs[i] := by simp [List.getD, h]
theorem mem_getD {α : Type} {xs : List α} {x : α} (d : α) (h : x ∈ xs) : ∃ i, i < xs.length ∧ xs.getD i d = x := by
  obtain ⟨i, hi, rfl⟩ := List.getElem_of_mem h
  exact ⟨i, hi, getD_at d hi⟩
theorem take_snoc {α : Type} {xs : List α} {i : Nat} (d : α) (h : i < xs.length) : xs.take (i + 1) = xs.take i ++ [xs.getD i d] := by
  rw [getD_at d h]; simp
theorem drop_step {α : Type} {xs : List α} {i : Nat} (d : α) (h : i < xs.length) : xs.drop i = xs.getD i d :: xs.drop (i + 1) := by
  rw [getD_at d h]; simp
theorem set_fill {α : Type} {xs : List α} {i : Nat} (d z : α) (h : i < xs.length) : (xs.take i ++ List.replicate (xs.length - i) z).set i (xs.getD i d) = xs.take (i + 1) ++ List.replicate (xs.length - (i + 1)) z := by
  rw [take_snoc d h]
  have e : xs.length - i = (xs.length - (i + 1)) + 1 := by omega
  rw [e, List.replicate_succ]
  have hl : (xs.take i).length = i := by simp; omega
  rw [List.set_append_right _ _ (by omega), hl, Nat.sub_self]
  simp
theorem spl_fill {a b : List PV} {p q : PV} {i : Nat} (h : a.length = i) : spl (a ++ p :: b) i [q] = a ++ q :: b := by
  subst h
  simp [spl]
theorem wrap_nat {i n : Nat} (h : i < n) (hn : n ≤ 9223372036854775807) : IntKind.i64.wrap ((i : Int) + 1) = ((i + 1 : Nat) : Int) := by
  rw [wrap_id (by omega) (by omega)]; rfl
theorem fill_length {α : Type} {xs : List α} {i : Nat} {z : α} (h : i ≤ xs.length) : (xs.take i ++ List.replicate (xs.length - i) z).length = xs.length := by simp; omega
/-- Rows in the making. -/
def fillLL (xss : List (List Int)) (i : Nat) : List PV := iLL (xss.take i) ++ List.replicate (xss.length - i) (.v (.slice none 0 0))
theorem fillLL_length {xss : List (List Int)} {i : Nat} (h : i ≤ xss.length) : (fillLL xss i).length = xss.length := by simp [fillLL, iLL_length]; omega
theorem fillLL_zero (xss : List (List Int)) : List.replicate xss.length (PV.v (.slice none 0 0)) = fillLL xss 0 := by simp [fillLL, iLL]
theorem fillLL_end {xss : List (List Int)} {i : Nat} (h : xss.length ≤ i) : fillLL xss i = iLL xss := by simp [fillLL, List.take_of_length_le h, Nat.sub_eq_zero_of_le h]
theorem fillLL_spl {xss : List (List Int)} {i : Nat} (h : i < xss.length) : spl (fillLL xss i) i [.sl false 1 (iL (xss.getD i []))] = fillLL xss (i + 1) := by
  have e : xss.length - i = (xss.length - (i + 1)) + 1 := by omega
  unfold fillLL
  rw [e, List.replicate_succ, spl_fill (by rw [iLL_length]; simp; omega), take_snoc [] h, ← iLL_snoc, List.append_assoc]
  rfl
theorem toNat_pred (k : Nat) : ((k : Int) - 1).toNat = k - 1 := by omega
theorem toNat_succ (k : Nat) : ((k : Int) + 1).toNat = k + 1 := by omega
end Go.Abs

/- DERIVED by an AI agent. Plain facts of small numbers as sets. No program in sight. -/
namespace Go.Abs
def popN (n : Nat) : Nat := if h : n = 0 then 0 else n % 2 + popN (n / 2)
termination_by n
decreasing_by omega
theorem popN_zero : popN 0 = 0 := by rw [popN]; simp
theorem popN_pos {n : Nat} (h : n ≠ 0) : popN n = n % 2 + popN (n / 2) := by rw [popN]; simp [h]
theorem popN_le (n : Nat) : popN n ≤ n := by
  induction n using Nat.strongRecOn with
  | ind n ih =>
    by_cases h : n = 0
    · subst h; simp [popN_zero]
    · rw [popN_pos h]
      have := ih (n / 2) (by omega)
      omega
/-- The bits of a number below 64. -/
def pop6 (n : Nat) : Nat := n % 2 + n / 2 % 2 + n / 4 % 2 + n / 8 % 2 + n / 16 % 2 + n / 32 % 2
theorem popN_6 {n : Nat} (h : n < 64) : popN n = pop6 n := by
  have st : ∀ s, popN s = s % 2 + popN (s / 2) := by
    intro s
    by_cases h0 : s = 0
    · subst h0; simp [popN_zero]
    · exact popN_pos h0
  rw [st n, st (n / 2), st (n / 2 / 2), st (n / 2 / 2 / 2), st (n / 2 / 2 / 2 / 2), st (n / 2 / 2 / 2 / 2 / 2)]
  have h6 : n / 2 / 2 / 2 / 2 / 2 / 2 = 0 := by omega
  rw [h6, popN_zero]
  unfold pop6
  omega
theorem iand_one {n : Nat} (h : n < 9223372036854775808) : iand .i64 (n : Int) 1 = ((n % 2 : Nat) : Int) := by
  have e : (BitVec.ofInt 64 (n : Int) &&& BitVec.ofInt 64 1).toNat = n % 2 := by
    have h1 : BitVec.ofInt 64 (n : Int) = BitVec.ofNat 64 n := by simp
    have h2 : BitVec.ofInt 64 (1 : Int) = 1#64 := by decide
    rw [h1, h2, BitVec.toNat_and, BitVec.toNat_ofNat, Nat.mod_eq_of_lt (by omega)]
    simp
  show IntKind.i64.wrap (((BitVec.ofInt 64 (n : Int) &&& BitVec.ofInt 64 1).toNat : Nat) : Int) = _
  rw [e, wrap_id (by omega) (by omega)]
theorem ishr_one (n : Nat) : ishr .i64 (n : Int) 1 = ((n / 2 : Nat) : Int) := by
  simp [ishr, IntKind.bits]
  exact Int.fdiv_eq_ediv_of_nonneg _ (by omega)
theorem ishl_small {n : Nat} (h : n ≤ 6) : ishl .i64 1 (n : Int) = ((2 ^ n : Nat) : Int) := by
  have : ∀ m : Fin 7, ishl .i64 1 ((m.val : Nat) : Int) = ((2 ^ m.val : Nat) : Int) := by decide +kernel
  exact this ⟨n, by omega⟩
theorem uwrap_nat {n : Nat} (h : n < 9223372036854775808) : IntKind.u64.wrap (n : Int) = (n : Int) := by
  simp [IntKind.wrap, IntKind.bits, IntKind.signed]
  omega
def inSet (n s : Int) : Bool := decide (0 ≤ n ∧ n ≤ 6 ∧ 0 ≤ s ∧ s < 2 ^ n.toNat)
theorem pow_nat (m : Nat) : (2 : Int) ^ ((m : Int)).toNat = ((2 ^ m : Nat) : Int) := by simp
theorem two_pow_le {m : Nat} (h : m ≤ 6) : 2 ^ m ≤ 64 := by
  have : ∀ k : Fin 7, 2 ^ k.val ≤ 64 := by decide
  exact this ⟨m, by omega⟩
theorem inSet_lt {n s : Int} (h : inSet n s = true) : 0 ≤ s ∧ s < 64 := by
  simp only [inSet, decide_eq_true_eq] at h
  obtain ⟨h0, h6, hs, hl⟩ := h
  obtain ⟨m, rfl⟩ := Int.eq_ofNat_of_zero_le h0
  rw [pow_nat] at hl
  have := two_pow_le (m := m) (by omega)
  omega
end Go.Abs

/- DERIVED by an AI agent. Plain facts of sets as numbers, of lists that are rearranged. No program in sight. -/
namespace Go.Abs

theorem toNat_bv {a : Nat} (ha : a < 9223372036854775808) : (BitVec.ofInt 64 (a : Int)).toNat = a := by
  simp
  omega
theorem iand_nat {a b : Nat} (ha : a < 9223372036854775808) (hb : b < 9223372036854775808) : iand .i64 (a : Int) (b : Int) = ((a &&& b : Nat) : Int) := by
  show IntKind.i64.wrap (((BitVec.ofInt 64 (a : Int) &&& BitVec.ofInt 64 (b : Int)).toNat : Nat) : Int) = _
  rw [BitVec.toNat_and, toNat_bv ha, toNat_bv hb]
  have : a &&& b ≤ a := Nat.and_le_left
  exact wrap_id (by omega) (by omega)
theorem lt_63_or {a b : Nat} (ha : a < 9223372036854775808) (hb : b < 9223372036854775808) : a ||| b < 9223372036854775808 := Nat.or_lt_two_pow (n := 63) ha hb
theorem lt_63_xor {a b : Nat} (ha : a < 9223372036854775808) (hb : b < 9223372036854775808) : a ^^^ b < 9223372036854775808 := Nat.xor_lt_two_pow (n := 63) ha hb
theorem ior_nat {a b : Nat} (ha : a < 9223372036854775808) (hb : b < 9223372036854775808) : ior .i64 (a : Int) (b : Int) = ((a ||| b : Nat) : Int) := by
  show IntKind.i64.wrap (((BitVec.ofInt 64 (a : Int) ||| BitVec.ofInt 64 (b : Int)).toNat : Nat) : Int) = _
  rw [BitVec.toNat_or, toNat_bv ha, toNat_bv hb]
  have := lt_63_or ha hb
  exact wrap_id (by omega) (by omega)
theorem ixor_nat {a b : Nat} (ha : a < 9223372036854775808) (hb : b < 9223372036854775808) : ixor .i64 (a : Int) (b : Int) = ((a ^^^ b : Nat) : Int) := by
  show IntKind.i64.wrap (((BitVec.ofInt 64 (a : Int) ^^^ BitVec.ofInt 64 (b : Int)).toNat : Nat) : Int) = _
  rw [BitVec.toNat_xor, toNat_bv ha, toNat_bv hb]
  have := lt_63_xor ha hb
  exact wrap_id (by omega) (by omega)
theorem iandnot_nat {a b : Nat} (ha : a < 9223372036854775808) (hb : b < 9223372036854775808) : iandnot .i64 (a : Int) (b : Int) = ((a ^^^ (a &&& b) : Nat) : Int) := by
  have h : BitVec.ofInt 64 (a : Int) &&& ~~~ BitVec.ofInt 64 (b : Int) = BitVec.ofInt 64 (a : Int) ^^^ (BitVec.ofInt 64 (a : Int) &&& BitVec.ofInt 64 (b : Int)) := by
    ext i hi
    simp only [BitVec.getElem_and, BitVec.getElem_not, BitVec.getElem_xor]
    cases (BitVec.ofInt 64 (a : Int))[i] <;> cases (BitVec.ofInt 64 (b : Int))[i] <;> rfl
  show IntKind.i64.wrap (((BitVec.ofInt 64 (a : Int) &&& ~~~ BitVec.ofInt 64 (b : Int)).toNat : Nat) : Int) = _
  rw [h, BitVec.toNat_xor, BitVec.toNat_and, toNat_bv ha, toNat_bv hb]
  have h1 : a &&& b ≤ a := Nat.and_le_left
  have := lt_63_xor (a := a) (b := a &&& b) ha (by omega)
  exact wrap_id (by omega) (by omega)
theorem xor_and_zero {a b : Nat} : a ^^^ (a &&& b) = 0 ↔ a &&& b = a := by
  constructor
  · intro h
    have := congrArg (· ^^^ (a &&& b)) h
    simp only [Nat.xor_assoc, Nat.xor_self, Nat.xor_zero, Nat.zero_xor] at this
    exact this.symm
  · intro h; rw [h, Nat.xor_self]
/-- A set within another: one way of telling it as the other. -/
theorem andnot_zero {a b : Int} (ha : 0 ≤ a ∧ a < 64) (hb : 0 ≤ b ∧ b < 64) : iandnot .i64 a b = 0 ↔ iand .i64 a b = a := by
  obtain ⟨a, rfl⟩ := Int.eq_ofNat_of_zero_le ha.1
  obtain ⟨b, rfl⟩ := Int.eq_ofNat_of_zero_le hb.1
  rw [iandnot_nat (by omega) (by omega), iand_nat (by omega) (by omega)]
  have := @xor_and_zero a b
  omega

/-! lists that are rearranged -/
theorem perm_of_sub {α : Type} [DecidableEq α] : ∀ {l m : List α}, l.Nodup → (∀ x ∈ l, x ∈ m) → m.length ≤ l.length → l.Perm m := by
  intro l
  induction l with
  | nil => intro m _ _ h; have : m = [] := List.eq_nil_of_length_eq_zero (by simpa using h); subst this; exact .nil
  | cons a l ih =>
    intro m hn hs hl
    have ha : a ∈ m := hs a (by simp)
    have hn' := List.nodup_cons.1 hn
    have hp : m.Perm (a :: m.erase a) := List.perm_cons_erase ha
    have h2 : l.Perm (m.erase a) := by
      refine ih hn'.2 (fun x hx => ?_) ?_
      · have hxa : x ≠ a := fun e => hn'.1 (e ▸ hx)
        exact (List.mem_erase_of_ne hxa).2 (hs x (by simp [hx]))
      · have := hp.length_eq
        simp at this hl
        omega
    exact (List.Perm.cons a h2).trans hp.symm
theorem nodup_of_len {α : Type} [DecidableEq α] {l m : List α} (hn : l.Nodup) (hs : ∀ x ∈ l, x ∈ m) (hl : m.length ≤ l.length) : m.Nodup ∧ ∀ x ∈ m, x ∈ l := by
  have hp := perm_of_sub hn hs hl
  exact ⟨hp.nodup_iff.1 hn, fun x hx => hp.mem_iff.2 hx⟩
theorem dec_self (xs : List Int) : decide (xs = xs) = true := by simp
theorem dec_self2 (xs : List (List Int)) : decide (xs = xs) = true := by simp
theorem dec_true : decide True = true := by simp
theorem bool_ne_self (b : Bool) : (!(b == b)) = false := by simp
end Go.Abs

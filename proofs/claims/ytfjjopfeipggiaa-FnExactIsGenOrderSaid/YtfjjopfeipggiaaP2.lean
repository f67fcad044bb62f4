/- DERIVED by an AI agent. Plain facts of small numbers as sets. No program in sight. -/
import Derived.Test.YtfjjopfeipggiaaP1
namespace Go.Abs
def popN (n : Nat) : Nat := if h : n = 0 then 0 else n % 2 + popN (n / 2)
termination_by n
decreasing_by omega
theorem popN_zero : popN 0 = 0 := by rw [popN]; simp
theorem popN_pos {n : Nat} (h : n ≠ 0) : popN n = n % 2 + popN (n / 2) := by rw [popN]; simp [h]
theorem popN_le (n : Nat) : popN n ≤ n := by
  induction n using Nat.strongRecOn with
  | ind n ih =>
    by_cases h : n = 0
    · subst h; simp [popN_zero]
    · rw [popN_pos h]
      have := ih (n / 2) (by omega)
      omega
/-- The bits of a number below 64. -/
def pop6 (n : Nat) : Nat := n % 2 + n / 2 % 2 + n / 4 % 2 + n / 8 % 2 + n / 16 % 2 + n / 32 % 2
theorem popN_6 {n : Nat} (h : n < 64) : popN n = pop6 n := by
  have st : ∀ s, popN s = s % 2 + popN (s / 2) := by
    intro s
    by_cases h0 : s = 0
    · subst h0; simp [popN_zero]
    · exact popN_pos h0
  rw [st n, st (n / 2), st (n / 2 / 2), st (n / 2 / 2 / 2), st (n / 2 / 2 / 2 / 2), st (n / 2 / 2 / 2 / 2 / 2)]
  have h6 : n / 2 / 2 / 2 / 2 / 2 / 2 = 0 := by omega
  rw [h6, popN_zero]
  unfold pop6
  omega
theorem iand_one {n : Nat} (h : n < 9223372036854775808) : iand .i64 (n : Int) 1 = ((n % 2 : Nat) : Int) := by
  have e : (BitVec.ofInt 64 (n : Int) &&& BitVec.ofInt 64 1).toNat = n % 2 := by
    have h1 : BitVec.ofInt 64 (n : Int) = BitVec.ofNat 64 n := by simp
    have h2 : BitVec.ofInt 64 (1 : Int) = 1#64 := by decide
    rw [h1, h2, BitVec.toNat_and, BitVec.toNat_ofNat, Nat.mod_eq_of_lt (by omega)]
    simp
  show IntKind.i64.wrap (((BitVec.ofInt 64 (n : Int) &&& BitVec.ofInt 64 1).toNat : Nat) : Int) = _
  rw [e, wrap_id (by omega) (by omega)]
theorem ishr_one (n : Nat) : ishr .i64 (n : Int) 1 = ((n / 2 : Nat) : Int) := by
  simp [ishr, IntKind.bits]
  exact Int.fdiv_eq_ediv_of_nonneg _ (by omega)
theorem ishl_small {n : Nat} (h : n ≤ 6) : ishl .i64 1 (n : Int) = ((2 ^ n : Nat) : Int) := by
  have : ∀ m : Fin 7, ishl .i64 1 ((m.val : Nat) : Int) = ((2 ^ m.val : Nat) : Int) := by decide +kernel
  exact this ⟨n, by omega⟩
theorem uwrap_nat {n : Nat} (h : n < 9223372036854775808) : IntKind.u64.wrap (n : Int) = (n : Int) := by
  simp [IntKind.wrap, IntKind.bits, IntKind.signed]
  omega
def inSet (n s : Int) : Bool := decide (0 ≤ n ∧ n ≤ 6 ∧ 0 ≤ s ∧ s < 2 ^ n.toNat)
theorem pow_nat (m : Nat) : (2 : Int) ^ ((m : Int)).toNat = ((2 ^ m : Nat) : Int) := by simp
theorem two_pow_le {m : Nat} (h : m ≤ 6) : 2 ^ m ≤ 64 := by
  have : ∀ k : Fin 7, 2 ^ k.val ≤ 64 := by decide
  exact this ⟨m, by omega⟩
theorem inSet_lt {n s : Int} (h : inSet n s = true) : 0 ≤ s ∧ s < 64 := by
  simp only [inSet, decide_eq_true_eq] at h
  obtain ⟨h0, h6, hs, hl⟩ := h
  obtain ⟨m, rfl⟩ := Int.eq_ofNat_of_zero_le h0
  rw [pow_nat] at hl
  have := two_pow_le (m := m) (by omega)
  omega
end Go.Abs

/- DERIVED by an AI agent. Plain facts of sets as numbers, of lists that are rearranged. No program in sight. -/
import Derived.Test.YtfjjopfeipggiaaP2
namespace Go.Abs

theorem toNat_bv {a : Nat} (ha : a < 9223372036854775808) : (BitVec.ofInt 64 (a : Int)).toNat = a := by
  simp
  omega
theorem iand_nat {a b : Nat} (ha : a < 9223372036854775808) (hb : b < 9223372036854775808) : iand .i64 (a : Int) (b : Int) = ((a &&& b : Nat) : Int) := by
  show IntKind.i64.wrap (((BitVec.ofInt 64 (a : Int) &&& BitVec.ofInt 64 (b : Int)).toNat : Nat) : Int) = _
  rw [BitVec.toNat_and, toNat_bv ha, toNat_bv hb]
  have : a &&& b ≤ a := Nat.and_le_left
  exact wrap_id (by omega) (by omega)
theorem lt_63_or {a b : Nat} (ha : a < 9223372036854775808) (hb : b < 9223372036854775808) : a ||| b < 9223372036854775808 := Nat.or_lt_two_pow (n := 63) ha hb
theorem lt_63_xor {a b : Nat} (ha : a < 9223372036854775808) (hb : b < 9223372036854775808) : a ^^^ b < 9223372036854775808 := Nat.xor_lt_two_pow (n := 63) ha hb
theorem ior_nat {a b : Nat} (ha : a < 9223372036854775808) (hb : b < 9223372036854775808) : ior .i64 (a : Int) (b : Int) = ((a ||| b : Nat) : Int) := by
  show IntKind.i64.wrap (((BitVec.ofInt 64 (a : Int) ||| BitVec.ofInt 64 (b : Int)).toNat : Nat) : Int) = _
  rw [BitVec.toNat_or, toNat_bv ha, toNat_bv hb]
  have := lt_63_or ha hb
  exact wrap_id (by omega) (by omega)
theorem ixor_nat {a b : Nat} (ha : a < 9223372036854775808) (hb : b < 9223372036854775808) : ixor .i64 (a : Int) (b : Int) = ((a ^^^ b : Nat) : Int) := by
  show IntKind.i64.wrap (((BitVec.ofInt 64 (a : Int) ^^^ BitVec.ofInt 64 (b : Int)).toNat : Nat) : Int) = _
  rw [BitVec.toNat_xor, toNat_bv ha, toNat_bv hb]
  have := lt_63_xor ha hb
  exact wrap_id (by omega) (by omega)
theorem iandnot_nat {a b : Nat} (ha : a < 9223372036854775808) (hb : b < 9223372036854775808) : iandnot .i64 (a : Int) (b : Int) = ((a ^^^ (a &&& b) : Nat) : Int) := by
  have h : BitVec.ofInt 64 (a : Int) &&& ~~~ BitVec.ofInt 64 (b : Int) = BitVec.ofInt 64 (a : Int) ^^^ (BitVec.ofInt 64 (a : Int) &&& BitVec.ofInt 64 (b : Int)) := by
    ext i hi
    simp only [BitVec.getElem_and, BitVec.getElem_not, BitVec.getElem_xor]
    cases (BitVec.ofInt 64 (a : Int))[i] <;> cases (BitVec.ofInt 64 (b : Int))[i] <;> rfl
  show IntKind.i64.wrap (((BitVec.ofInt 64 (a : Int) &&& ~~~ BitVec.ofInt 64 (b : Int)).toNat : Nat) : Int) = _
  rw [h, BitVec.toNat_xor, BitVec.toNat_and, toNat_bv ha, toNat_bv hb]
  have h1 : a &&& b ≤ a := Nat.and_le_left
  have := lt_63_xor (a := a) (b := a &&& b) ha (by omega)
  exact wrap_id (by omega) (by omega)
theorem xor_and_zero {a b : Nat} : a ^^^ (a &&& b) = 0 ↔ a &&& b = a := by
  constructor
  · intro h
    have := congrArg (· ^^^ (a &&& b)) h
    simp only [Nat.xor_assoc, Nat.xor_self, Nat.xor_zero, Nat.zero_xor] at this
    exact this.symm
  · intro h; rw [h, Nat.xor_self]
/-- A set within another: one way of telling it as the other. -/
theorem andnot_zero {a b : Int} (ha : 0 ≤ a ∧ a < 64) (hb : 0 ≤ b ∧ b < 64) : iandnot .i64 a b = 0 ↔ iand .i64 a b = a := by
  obtain ⟨a, rfl⟩ := Int.eq_ofNat_of_zero_le ha.1
  obtain ⟨b, rfl⟩ := Int.eq_ofNat_of_zero_le hb.1
  rw [iandnot_nat (by omega) (by omega), iand_nat (by omega) (by omega)]
  have := @xor_and_zero a b
  omega

/-! lists that are rearranged -/
theorem perm_of_sub {α : Type} [DecidableEq α] : ∀ {l m : List α}, l.Nodup → (∀ x ∈ l, x ∈ m) → m.length ≤ l.length → l.Perm m := by
  intro l
  induction l with
  | nil => intro m _ _ h; have : m = [] := List.eq_nil_of_length_eq_zero (by simpa using h); subst this; exact .nil
  | cons a l ih =>
    intro m hn hs hl
    have ha : a ∈ m := hs a (by simp)
    have hn' := List.nodup_cons.1 hn
    have hp : m.Perm (a :: m.erase a) := List.perm_cons_erase ha
    have h2 : l.Perm (m.erase a) := by
      refine ih hn'.2 (fun x hx => ?_) ?_
      · have hxa : x ≠ a := fun e => hn'.1 (e ▸ hx)
        exact (List.mem_erase_of_ne hxa).2 (hs x (by simp [hx]))
      · have := hp.length_eq
        simp at this hl
        omega
    exact (List.Perm.cons a h2).trans hp.symm
theorem nodup_of_len {α : Type} [DecidableEq α] {l m : List α} (hn : l.Nodup) (hs : ∀ x ∈ l, x ∈ m) (hl : m.length ≤ l.length) : m.Nodup ∧ ∀ x ∈ m, x ∈ l := by
  have hp := perm_of_sub hn hs hl
  exact ⟨hp.nodup_iff.1 hn, fun x hx => hp.mem_iff.2 hx⟩
theorem dec_self (xs : List Int) : decide (xs = xs) = true := by simp
theorem dec_self2 (xs : List (List Int)) : decide (xs = xs) = true := by simp
theorem bool_ne_self (b : Bool) : (!(b == b)) = false := by simp
end Go.Abs

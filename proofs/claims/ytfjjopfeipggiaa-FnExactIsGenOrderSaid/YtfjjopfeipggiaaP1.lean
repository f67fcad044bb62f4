/- DERIVED by an AI agent. Plain facts of lists. No program in sight. -/
import Derived.Test.YtfjjopfeipggiaaA28
namespace Go.Abs
theorem getD_mem {α : Type} {xs : List α} {i : Nat} (d : α) (h : i < xs.length) : xs.getD i d ∈ xs := by
  have : xs.getD i d = xs[i] := by simp [List.getD, h]
  rw [this]; exact List.getElem_mem h
theorem getD_at {α : Type} {xs : List α} {i : Nat} (d : α) (h : i < xs.length) : xs.getD i d = xs[i] := by simp [List.getD, h]
theorem mem_getD {α : Type} {xs : List α} {x : α} (d : α) (h : x ∈ xs) : ∃ i, i < xs.length ∧ xs.getD i d = x := by
  obtain ⟨i, hi, rfl⟩ := List.getElem_of_mem h
  exact ⟨i, hi, getD_at d hi⟩
theorem take_snoc {α : Type} {xs : List α} {i : Nat} (d : α) (h : i < xs.length) : xs.take (i + 1) = xs.take i ++ [xs.getD i d] := by
  rw [getD_at d h]; simp
theorem drop_step {α : Type} {xs : List α} {i : Nat} (d : α) (h : i < xs.length) : xs.drop i = xs.getD i d :: xs.drop (i + 1) := by
  rw [getD_at d h]; simp
theorem set_fill {α : Type} {xs : List α} {i : Nat} (d z : α) (h : i < xs.length) : (xs.take i ++ List.replicate (xs.length - i) z).set i (xs.getD i d) = xs.take (i + 1) ++ List.replicate (xs.length - (i + 1)) z := by
  rw [take_snoc d h]
  have e : xs.length - i = (xs.length - (i + 1)) + 1 := by omega
  rw [e, List.replicate_succ]
  have hl : (xs.take i).length = i := by simp; omega
  rw [List.set_append_right _ _ (by omega), hl, Nat.sub_self]
  simp
theorem spl_fill {a b : List PV} {p q : PV} {i : Nat} (h : a.length = i) : spl (a ++ p :: b) i [q] = a ++ q :: b := by
  subst h
  simp [spl]
theorem wrap_nat {i n : Nat} (h : i < n) (hn : n ≤ 9223372036854775807) : IntKind.i64.wrap ((i : Int) + 1) = ((i + 1 : Nat) : Int) := by
  rw [wrap_id (by omega) (by omega)]; rfl
theorem fill_length {α : Type} {xs : List α} {i : Nat} {z : α} (h : i ≤ xs.length) : (xs.take i ++ List.replicate (xs.length - i) z).length = xs.length := by simp; omega
/-- Rows in the making. -/
def fillLL (xss : List (List Int)) (i : Nat) : List PV := iLL (xss.take i) ++ List.replicate (xss.length - i) (.v (.slice none 0 0))
theorem fillLL_length {xss : List (List Int)} {i : Nat} (h : i ≤ xss.length) : (fillLL xss i).length = xss.length := by simp [fillLL, iLL_length]; omega
theorem fillLL_zero (xss : List (List Int)) : List.replicate xss.length (PV.v (.slice none 0 0)) = fillLL xss 0 := by simp [fillLL, iLL]
theorem fillLL_end {xss : List (List Int)} {i : Nat} (h : xss.length ≤ i) : fillLL xss i = iLL xss := by simp [fillLL, List.take_of_length_le h, Nat.sub_eq_zero_of_le h]
theorem fillLL_spl {xss : List (List Int)} {i : Nat} (h : i < xss.length) : spl (fillLL xss i) i [.sl false 1 (iL (xss.getD i []))] = fillLL xss (i + 1) := by
  have e : xss.length - i = (xss.length - (i + 1)) + 1 := by omega
  unfold fillLL
  rw [e, List.replicate_succ, spl_fill (by rw [iLL_length]; simp; omega), take_snoc [] h, ← iLL_snoc, List.append_assoc]
  rfl
theorem toNat_pred (k : Nat) : ((k : Int) - 1).toNat = k - 1 := by omega
theorem toNat_succ (k : Nat) : ((k : Int) + 1).toNat = k + 1 := by omega
end Go.Abs

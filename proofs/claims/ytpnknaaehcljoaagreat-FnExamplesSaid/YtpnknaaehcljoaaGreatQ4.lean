/- DERIVED by an AI agent. -/
import Derived.Test.YtpnknaaehcljoaaGreatB1
import Derived.Test.YtpnknaaehcljoaaGreatA18
import Derived.Test.YtpnknaaehcljoaaGreatQ1
import Derived.Test.YtpnknaaehcljoaaGreatQ2
import Derived.Test.YtpnknaaehcljoaaGreatA16
import Derived.Test.YtpnknaaehcljoaaGreatP1
import Derived.Test.YtpnknaaehcljoaaGreatQ3
import Derived.Test.YtpnknaaehcljoaaGreatA14
import Derived.Test.YtpnknaaehcljoaaGreatA17
namespace Go.Proofs.YtpnknaaehcljoaaGreat
open Go.Abs Go.Shelf
set_option linter.unusedSimpArgs false
set_option linter.unusedVariables false
def renSF : Go.Shelf.Ren where
  f := fun x => match x with | 6 => 224 | 15 => 220 | 14 => 241 | 28 => 239 | 29 => 240 | 20 => 251 | 21 => 252 | 22 => 253 | 23 => 254 | 24 => 255 | 25 => 256 | 26 => 257 | 27 => 258 | 46 => 262 | 47 => 247 | 48 => 248 | 49 => 263 | 50 => 264 | 57 => 265 | n => n
  t := fun x => match x with | 22 => 25 | 24 => 3 | 25 => 48 | 3 => 3 | 39 => 88 | 0 => 0 | 53 => 145 | 55 => 82 | 4 => 4 | 46 => 158 | 45 => 157 | 50 => 118 | 5 => 5 | 9 => 9 | 66 => 166 | 70 => 170 | 76 => 177 | 77 => 178 | n => n
  g := fun x => x
theorem laysSF : SlLaysF.n6 Tryz.prog renSF where
  mixed := mixed
  f6 := ⟨"slices.SortFunc[[]int,int]", by decide, (show Tryz.prog.funcs[224]? = some _ from Tryz.func224).trans (congrArg some (by kernel_rfl))⟩
  f14 := ⟨"slices.pdqsortCmpFunc[int]", by decide, (show Tryz.prog.funcs[241]? = some _ from Tryz.func241).trans (congrArg some (by kernel_rfl))⟩
  f15 := (show Tryz.prog.funcs[220]? = some _ from Tryz.func220).trans (congrArg some (by kernel_rfl))
  f20 := ⟨"slices.insertionSortCmpFunc[int]", by decide, (show Tryz.prog.funcs[251]? = some _ from Tryz.func251).trans (congrArg some (by kernel_rfl))⟩
  f21 := ⟨"slices.heapSortCmpFunc[int]", by decide, (show Tryz.prog.funcs[252]? = some _ from Tryz.func252).trans (congrArg some (by kernel_rfl))⟩
  f22 := ⟨"slices.breakPatternsCmpFunc[int]", by decide, (show Tryz.prog.funcs[253]? = some _ from Tryz.func253).trans (congrArg some (by kernel_rfl))⟩
  f23 := ⟨"slices.choosePivotCmpFunc[int]", by decide, (show Tryz.prog.funcs[254]? = some _ from Tryz.func254).trans (congrArg some (by kernel_rfl))⟩
  f24 := ⟨"slices.reverseRangeCmpFunc[int]", by decide, (show Tryz.prog.funcs[255]? = some _ from Tryz.func255).trans (congrArg some (by kernel_rfl))⟩
  f25 := ⟨"slices.partialInsertionSortCmpFunc[int]", by decide, (show Tryz.prog.funcs[256]? = some _ from Tryz.func256).trans (congrArg some (by kernel_rfl))⟩
  f26 := ⟨"slices.partitionEqualCmpFunc[int]", by decide, (show Tryz.prog.funcs[257]? = some _ from Tryz.func257).trans (congrArg some (by kernel_rfl))⟩
  f27 := ⟨"slices.partitionCmpFunc[int]", by decide, (show Tryz.prog.funcs[258]? = some _ from Tryz.func258).trans (congrArg some (by kernel_rfl))⟩
  f28 := (show Tryz.prog.funcs[239]? = some _ from Tryz.func239).trans (congrArg some (by kernel_rfl))
  f29 := (show Tryz.prog.funcs[240]? = some _ from Tryz.func240).trans (congrArg some (by kernel_rfl))
  f46 := ⟨"slices.siftDownCmpFunc[int]", by decide, (show Tryz.prog.funcs[262]? = some _ from Tryz.func262).trans (congrArg some (by kernel_rfl))⟩
  f47 := (show Tryz.prog.funcs[247]? = some _ from Tryz.func247).trans (congrArg some (by kernel_rfl))
  f48 := (show Tryz.prog.funcs[248]? = some _ from Tryz.func248).trans (congrArg some (by kernel_rfl))
  f49 := ⟨"slices.medianAdjacentCmpFunc[int]", by decide, (show Tryz.prog.funcs[263]? = some _ from Tryz.func263).trans (congrArg some (by kernel_rfl))⟩
  f50 := ⟨"slices.medianCmpFunc[int]", by decide, (show Tryz.prog.funcs[264]? = some _ from Tryz.func264).trans (congrArg some (by kernel_rfl))⟩
  f57 := ⟨"slices.order2CmpFunc[int]", by decide, (show Tryz.prog.funcs[265]? = some _ from Tryz.func265).trans (congrArg some (by kernel_rfl))⟩
  t0 := Tryz.underlying0
  a0 := Tryz.isAgg0
  z0 := Tryz.sizeOf0
  v0 := Tryz.zeroValue0
  t3 := Tryz.underlying3
  a3 := Tryz.isAgg3
  z3 := Tryz.sizeOf3
  v3 := Tryz.zeroValue3
  t4 := Tryz.underlying4
  a4 := Tryz.isAgg4
  z4 := Tryz.sizeOf4
  v4 := Tryz.zeroValue4
  t5 := Tryz.underlying5
  a5 := Tryz.isAgg5
  z5 := Tryz.sizeOf5
  v5 := Tryz.zeroValue5
  t9 := Tryz.underlying9
  a9 := Tryz.isAgg9
  z9 := Tryz.sizeOf9
  v9 := Tryz.zeroValue9
  t22 := Tryz.underlying25
  a22 := Tryz.isAgg25
  z22 := Tryz.sizeOf25
  v22 := Tryz.zeroValue25
  a24 := Tryz.isAgg3
  z24 := Tryz.sizeOf3
  t25 := Tryz.underlying48
  a25 := Tryz.isAgg48
  z25 := Tryz.sizeOf48
  v25 := Tryz.zeroValue48
  t39 := Tryz.underlying88
  a39 := Tryz.isAgg88
  z39 := Tryz.sizeOf88
  v39 := Tryz.zeroValue88
  t45 := Tryz.underlying157
  a45 := Tryz.isAgg157
  z45 := Tryz.sizeOf157
  v45 := Tryz.zeroValue157
  t46 := Tryz.underlying158
  a46 := Tryz.isAgg158
  z46 := Tryz.sizeOf158
  v46 := Tryz.zeroValue158
  t50 := Tryz.underlying118
  a50 := Tryz.isAgg118
  z50 := Tryz.sizeOf118
  v50 := Tryz.zeroValue118
  t53 := Tryz.underlying145
  a53 := Tryz.isAgg145
  z53 := Tryz.sizeOf145
  v53 := Tryz.zeroValue145
  t55 := Tryz.underlying82
  a55 := Tryz.isAgg82
  z55 := Tryz.sizeOf82
  v55 := Tryz.zeroValue82
  t66 := Tryz.underlying166
  a66 := Tryz.isAgg166
  z66 := Tryz.sizeOf166
  v66 := Tryz.zeroValue166
  t70 := Tryz.underlying170
  a70 := Tryz.isAgg170
  z70 := Tryz.sizeOf170
  v70 := Tryz.zeroValue170
  t76 := Tryz.underlying177
  a76 := Tryz.isAgg177
  z76 := Tryz.sizeOf177
  v76 := Tryz.zeroValue177
  t77 := Tryz.underlying178
  a77 := Tryz.isAgg178
  z77 := Tryz.sizeOf178
  v77 := Tryz.zeroValue178
theorem laysSF0 : SlLaysF0.n6 Tryz.prog renSF where
  mixed := mixed
  f6 := ⟨"slices.SortFunc[[]int,int]", by decide, (show Tryz.prog.funcs[224]? = some _ from Tryz.func224).trans (congrArg some (by kernel_rfl))⟩
  f14 := ⟨"slices.pdqsortCmpFunc[int]", by decide, (show Tryz.prog.funcs[241]? = some _ from Tryz.func241).trans (congrArg some (by kernel_rfl))⟩
  f15 := (show Tryz.prog.funcs[220]? = some _ from Tryz.func220).trans (congrArg some (by kernel_rfl))
  f20 := ⟨"slices.insertionSortCmpFunc[int]", by decide, (show Tryz.prog.funcs[251]? = some _ from Tryz.func251).trans (congrArg some (by kernel_rfl))⟩
  f21 := ⟨"slices.heapSortCmpFunc[int]", by decide, (show Tryz.prog.funcs[252]? = some _ from Tryz.func252).trans (congrArg some (by kernel_rfl))⟩
  f22 := ⟨"slices.breakPatternsCmpFunc[int]", by decide, (show Tryz.prog.funcs[253]? = some _ from Tryz.func253).trans (congrArg some (by kernel_rfl))⟩
  f23 := ⟨"slices.choosePivotCmpFunc[int]", by decide, (show Tryz.prog.funcs[254]? = some _ from Tryz.func254).trans (congrArg some (by kernel_rfl))⟩
  f24 := ⟨"slices.reverseRangeCmpFunc[int]", by decide, (show Tryz.prog.funcs[255]? = some _ from Tryz.func255).trans (congrArg some (by kernel_rfl))⟩
  f25 := ⟨"slices.partialInsertionSortCmpFunc[int]", by decide, (show Tryz.prog.funcs[256]? = some _ from Tryz.func256).trans (congrArg some (by kernel_rfl))⟩
  f26 := ⟨"slices.partitionEqualCmpFunc[int]", by decide, (show Tryz.prog.funcs[257]? = some _ from Tryz.func257).trans (congrArg some (by kernel_rfl))⟩
  f27 := ⟨"slices.partitionCmpFunc[int]", by decide, (show Tryz.prog.funcs[258]? = some _ from Tryz.func258).trans (congrArg some (by kernel_rfl))⟩
  f28 := (show Tryz.prog.funcs[239]? = some _ from Tryz.func239).trans (congrArg some (by kernel_rfl))
  f29 := (show Tryz.prog.funcs[240]? = some _ from Tryz.func240).trans (congrArg some (by kernel_rfl))
  f46 := ⟨"slices.siftDownCmpFunc[int]", by decide, (show Tryz.prog.funcs[262]? = some _ from Tryz.func262).trans (congrArg some (by kernel_rfl))⟩
  f47 := (show Tryz.prog.funcs[247]? = some _ from Tryz.func247).trans (congrArg some (by kernel_rfl))
  f48 := (show Tryz.prog.funcs[248]? = some _ from Tryz.func248).trans (congrArg some (by kernel_rfl))
  f49 := ⟨"slices.medianAdjacentCmpFunc[int]", by decide, (show Tryz.prog.funcs[263]? = some _ from Tryz.func263).trans (congrArg some (by kernel_rfl))⟩
  f50 := ⟨"slices.medianCmpFunc[int]", by decide, (show Tryz.prog.funcs[264]? = some _ from Tryz.func264).trans (congrArg some (by kernel_rfl))⟩
  f57 := ⟨"slices.order2CmpFunc[int]", by decide, (show Tryz.prog.funcs[265]? = some _ from Tryz.func265).trans (congrArg some (by kernel_rfl))⟩
  t0 := Tryz.underlying0
  a0 := Tryz.isAgg0
  z0 := Tryz.sizeOf0
  v0 := Tryz.zeroValue0
  t3 := Tryz.underlying3
  a3 := Tryz.isAgg3
  z3 := Tryz.sizeOf3
  v3 := Tryz.zeroValue3
  t4 := Tryz.underlying4
  a4 := Tryz.isAgg4
  z4 := Tryz.sizeOf4
  v4 := Tryz.zeroValue4
  t5 := Tryz.underlying5
  a5 := Tryz.isAgg5
  z5 := Tryz.sizeOf5
  v5 := Tryz.zeroValue5
  t9 := Tryz.underlying9
  a9 := Tryz.isAgg9
  z9 := Tryz.sizeOf9
  v9 := Tryz.zeroValue9
  t22 := Tryz.underlying25
  a22 := Tryz.isAgg25
  z22 := Tryz.sizeOf25
  v22 := Tryz.zeroValue25
  t25 := Tryz.underlying48
  a25 := Tryz.isAgg48
  z25 := Tryz.sizeOf48
  v25 := Tryz.zeroValue48
  t39 := Tryz.underlying88
  a39 := Tryz.isAgg88
  z39 := Tryz.sizeOf88
  v39 := Tryz.zeroValue88
  t45 := Tryz.underlying157
  a45 := Tryz.isAgg157
  z45 := Tryz.sizeOf157
  v45 := Tryz.zeroValue157
  t46 := Tryz.underlying158
  a46 := Tryz.isAgg158
  z46 := Tryz.sizeOf158
  v46 := Tryz.zeroValue158
  t50 := Tryz.underlying118
  a50 := Tryz.isAgg118
  z50 := Tryz.sizeOf118
  v50 := Tryz.zeroValue118
  t53 := Tryz.underlying145
  a53 := Tryz.isAgg145
  z53 := Tryz.sizeOf145
  v53 := Tryz.zeroValue145
  t55 := Tryz.underlying82
  a55 := Tryz.isAgg82
  z55 := Tryz.sizeOf82
  v55 := Tryz.zeroValue82
  t66 := Tryz.underlying166
  a66 := Tryz.isAgg166
  z66 := Tryz.sizeOf166
  v66 := Tryz.zeroValue166
  t70 := Tryz.underlying170
  a70 := Tryz.isAgg170
  z70 := Tryz.sizeOf170
  v70 := Tryz.zeroValue170
  t76 := Tryz.underlying177
  a76 := Tryz.isAgg177
  z76 := Tryz.sizeOf177
  v76 := Tryz.zeroValue177
  t77 := Tryz.underlying178
  a77 := Tryz.isAgg178
  z77 := Tryz.sizeOf178
  v77 := Tryz.zeroValue178
end Go.Proofs.YtpnknaaehcljoaaGreat
namespace Go.Proofs.YtpnknaaehcljoaaGreat
open Go.Abs
open Nat (reduceEqDiff reduceMod reduceAdd reduceLT reduceLeDiff reduceSub reduceMul)
set_option linter.unusedSimpArgs false
set_option linter.unusedVariables false
def cmpS (a b : Int) : Int := if a = b then 0 else if befS a b then -1 else 1
theorem c_impl_renamedFacets1 (a b : Int) : AC Tryz.prog 225 [int a, int b] (.im (int (cmpS a b))) := by
  refine AC.go (rs := [.tmp 4]) T_ok mixed Tryz.func225 rfl rfl rfl (by kernel_rfl) fun hl => ?_
  simp (maxSteps:=5000000) -dsimp only [↓gp, gq, reduceCtorEq, reduceEqDiff, reduceLT, reduceLeDiff, reduceAdd, reduceMul, reduceSub, Nat.reduceBEq, Int.reduceToNat, Int.reduceLE, Int.reduceLT, Int.reduceNeg, reduceMod, sid_ne1, sid_ne2, sid_inj, sid_mod, gT, TK.isInt, TK.agg, Array.toList]
  unfold cmpS
  refine ⟨fun h => ?_, fun h => askK_of (c_impl_BeforeSet _ _) ?_⟩
  · rw [if_pos (by simpa using h)]
  · rw [if_neg (by simpa using h)]
    simp (maxSteps:=5000000) -dsimp only [↓gp, gq, reduceCtorEq, reduceEqDiff, reduceLT, reduceLeDiff, reduceAdd, reduceMul, reduceSub, Nat.reduceBEq, Int.reduceToNat, Int.reduceLE, Int.reduceLT, Int.reduceNeg, reduceMod, sid_ne1, sid_ne2, sid_inj, sid_mod, gT, TK.isInt, TK.agg, Array.toList]
    refine ⟨fun h => ?_, fun h => ?_⟩
    · rw [h]; rfl
    · rw [h]; rfl
def renF (s : Nat) (ns : List Nat) : Nat → Nat
  | 0 => 0
  | k + 1 => if s.testBit k then renF s ns k ||| 2 ^ (ns.getD k 0) else renF s ns k
theorem renF_lt (s : Nat) (ns : List Nat) (hn : ∀ k, k < ns.length → ns.getD k 0 < 6) : ∀ k, k ≤ ns.length → renF s ns k < 64
  | 0, _ => by simp [renF]
  | k + 1, h => by
    have ih := renF_lt s ns hn k (by omega)
    have := hn k (by omega)
    rw [renF]
    split
    · exact Nat.or_lt_two_pow (n := 6) ih (Nat.pow_lt_pow_right (by omega) this)
    · exact ih
theorem ren_bit : ∀ s, s < 64 → ∀ k, k < 6 → (iand .i64 (ishr .i64 (s : Nat) (k : Nat)) 1 == 1) = Nat.testBit s k := by decide +kernel
theorem ren_or : ∀ u, u < 64 → ∀ k, k < 6 → ior .i64 (u : Nat) (ishl .i64 1 (k : Nat)) = ((u ||| 2 ^ k : Nat) : Int) := by decide +kernel
theorem c_impl_renamed (m : Nat) (hs : m < 64) (ns : List Nat) (hl6 : ns.length ≤ 6) (hn : ∀ k, k < ns.length → ns.getD k 0 < 6) : AC Tryz.prog 223 [int m, ints (ofN ns)] (.im (int (renF m ns ns.length : Nat))) := by
  refine AC.go (rs := [.tmp 4]) T_ok mixed Tryz.func223 rfl rfl rfl (by kernel_rfl) fun hl => ?_
  simp (maxSteps:=5000000) -dsimp only [↓gp, gq, reduceCtorEq, reduceEqDiff, reduceLT, reduceLeDiff, reduceAdd, reduceMul, reduceSub, Nat.reduceBEq, Int.reduceToNat, Int.reduceLE, Int.reduceLT, Int.reduceNeg, reduceMod, sid_ne1, sid_ne2, sid_inj, sid_mod, gT, TK.isInt, TK.agg, Array.toList, ofN_length]
  refine loop_of (fun (k : Nat) s => s.sl 0 = int m ∧ s.sl 1 = ints (ofN ns) ∧ s.sl 5 = int (renF m ns k : Nat) ∧ s.sl 8 = ints (ofN ns) ∧ s.sl 9 = int ns.length ∧ s.sl 10 = int k ∧ (k ≤ ns.length)) (fun k => ns.length - k) (0) (by refine ⟨?_, ?_, ?_, ?_, ?_, ?_, by simp⟩ <;> (first | (simp (maxSteps:=5000000) -dsimp only [gr, reduceEqDiff, reduceLT, reduceAdd, reduceMod, Nat.reduceBEq, sid_mod, sid_ne1, sid_ne2, sid_inj, ofN_length]; first | done | rfl | (simp; done)) | assumption | rfl)) ?_
  intro k sa ⟨h0a, h1a, h5a, h8a, h9a, h10a, hIa⟩
  simp (maxSteps:=5000000) -dsimp only [↓gp, gq, reduceCtorEq, reduceEqDiff, reduceLT, reduceLeDiff, reduceAdd, reduceMul, reduceSub, Nat.reduceBEq, Int.reduceToNat, Int.reduceLE, Int.reduceLT, Int.reduceNeg, reduceMod, sid_ne1, sid_ne2, sid_inj, sid_mod, gT, TK.isInt, TK.agg, Array.toList, h0a, h1a, h5a, h8a, h9a, h10a, ofN_length]
  refine ⟨fun hk => ⟨hk, hk, ?_⟩, fun hk => ?_⟩
  · have hx := hn k hk
    have hge : (ofN ns).getD k 0 = ((ns.getD k 0 : Nat) : Int) := ofN_getD hk
    have huk : IntKind.u64.wrap (k : Int) = (k : Int) := uwrap_nat (by omega)
    have hux : IntKind.u64.wrap ((ns.getD k 0 : Nat) : Int) = ((ns.getD k 0 : Nat) : Int) := uwrap_nat (by omega)
    have hb := ren_bit m hs k (by omega)
    have ho := ren_or _ (renF_lt m ns hn k hIa) _ hx
    rw [hge, huk, hux, ho, hb]
    refine ⟨by omega, fun h => ⟨by omega, ?_⟩, fun h => ?_⟩
    · have hm : renF m ns (k + 1) = renF m ns k ||| 2 ^ (ns.getD k 0) := by rw [renF, if_pos h]
      exact again_of (k + 1) (by refine ⟨?_, ?_, ?_, ?_, ?_, ?_, by omega⟩ <;> (first | (simp (maxSteps:=5000000) -dsimp only [gr, reduceEqDiff, reduceLT, reduceAdd, reduceMod, Nat.reduceBEq, sid_mod, sid_ne1, sid_ne2, sid_inj, h0a, h1a, h5a, h8a, h9a, h10a, wrap_nat hk (by omega), hm]; first | done | rfl | (simp; done)) | assumption | rfl)) (by first | omega | (simp only; omega) | (dsimp only; omega) | (show _ < _; simp; omega))
    · have hm : renF m ns (k + 1) = renF m ns k := by rw [renF, if_neg (by rw [h]; decide)]
      exact again_of (k + 1) (by refine ⟨?_, ?_, ?_, ?_, ?_, ?_, by omega⟩ <;> (first | (simp (maxSteps:=5000000) -dsimp only [gr, reduceEqDiff, reduceLT, reduceAdd, reduceMod, Nat.reduceBEq, sid_mod, sid_ne1, sid_ne2, sid_inj, h0a, h1a, h5a, h8a, h9a, h10a, wrap_nat hk (by omega), hm]; first | done | rfl | (simp; done)) | assumption | rfl)) (by first | omega | (simp only; omega) | (dsimp only; omega) | (show _ < _; simp; omega))
  · have : k = ns.length := by omega
    rw [this]
theorem renF_bit (m : Nat) (ns : List Nat) (j : Nat) : ∀ k, (renF m ns k).testBit j = true ↔ ∃ i, i < k ∧ m.testBit i = true ∧ ns.getD i 0 = j
  | 0 => by simp [renF]
  | k + 1 => by
    have ih := renF_bit m ns j k
    rw [renF]
    constructor
    · intro h
      by_cases hb : m.testBit k = true
      · rw [if_pos hb, Nat.testBit_or, Bool.or_eq_true, ih, Nat.testBit_two_pow] at h
        rcases h with ⟨i, h1, h2, h3⟩ | h
        · exact ⟨i, by omega, h2, h3⟩
        · exact ⟨k, by omega, hb, by simpa using h⟩
      · rw [if_neg hb, ih] at h
        obtain ⟨i, h1, h2, h3⟩ := h
        exact ⟨i, by omega, h2, h3⟩
    · rintro ⟨i, h1, h2, h3⟩
      by_cases hb : m.testBit k = true
      · rw [if_pos hb, Nat.testBit_or, Bool.or_eq_true, ih, Nat.testBit_two_pow]
        by_cases hi : i = k
        · right; subst hi; rw [h3]; simp
        · left; exact ⟨i, by omega, h2, h3⟩
      · rw [if_neg hb, ih]
        by_cases hi : i = k
        · subst hi; exact absurd h2 hb
        · exact ⟨i, by omega, h2, h3⟩
theorem ren_add : ∀ u, u < 64 → ∀ k, k < 6 → u.testBit k = false → ∀ b : Bool, IntKind.i64.wrap ((u : Nat) + ishl .i64 (if b then 1 else 0) (k : Nat)) = (((if b then u ||| 2 ^ k else u) : Nat) : Int) := by decide +kernel
theorem ren_bit01 : ∀ s, s < 64 → ∀ k, k < 6 → iand .i64 (ishr .i64 (s : Nat) (k : Nat)) 1 = (if Nat.testBit s k then 1 else 0) := by decide +kernel
theorem c_spec_l9Set (m : Nat) (hs : m < 64) (ns : List Nat) (hl6 : ns.length ≤ 6) (hn : ∀ k, k < ns.length → ns.getD k 0 < 6) (hd : ∀ i k, i < k → k < ns.length → ns.getD i 0 ≠ ns.getD k 0) : AC Tryz.prog 164 [int m, ints (ofN ns)] (.im (int (renF m ns ns.length : Nat))) := by
  refine AC.go (rs := [.tmp 4]) T_ok mixed Tryz.func164 rfl rfl rfl (by kernel_rfl) fun hl => ?_
  simp (maxSteps:=5000000) -dsimp only [↓gp, gq, reduceCtorEq, reduceEqDiff, reduceLT, reduceLeDiff, reduceAdd, reduceMul, reduceSub, Nat.reduceBEq, Int.reduceToNat, Int.reduceLE, Int.reduceLT, Int.reduceNeg, reduceMod, sid_ne1, sid_ne2, sid_inj, sid_mod, gT, TK.isInt, TK.agg, Array.toList, ofN_length]
  refine loop_of (fun (k : Nat) s => s.sl 0 = int m ∧ s.sl 1 = ints (ofN ns) ∧ s.sl 5 = int (renF m ns k : Nat) ∧ s.sl 6 = int k ∧ (k ≤ ns.length)) (fun k => ns.length - k) (0) (by refine ⟨?_, ?_, ?_, ?_, by simp⟩ <;> (first | (simp (maxSteps:=5000000) -dsimp only [gr, reduceEqDiff, reduceLT, reduceAdd, reduceMod, Nat.reduceBEq, sid_mod, sid_ne1, sid_ne2, sid_inj, ofN_length]; first | done | rfl | (simp; done)) | assumption | rfl)) ?_
  intro k sa ⟨h0a, h1a, h5a, h6a, hIa⟩
  simp (maxSteps:=5000000) -dsimp only [↓gp, gq, reduceCtorEq, reduceEqDiff, reduceLT, reduceLeDiff, reduceAdd, reduceMul, reduceSub, Nat.reduceBEq, Int.reduceToNat, Int.reduceLE, Int.reduceLT, Int.reduceNeg, reduceMod, sid_ne1, sid_ne2, sid_inj, sid_mod, gT, TK.isInt, TK.agg, Array.toList, h0a, h1a, h5a, h6a, ofN_length]
  refine ⟨fun hk => ?_, fun hk => ?_⟩
  · have hx := hn k hk
    have hge : (ofN ns).getD k 0 = ((ns.getD k 0 : Nat) : Int) := ofN_getD hk
    have huk : IntKind.u64.wrap (k : Int) = (k : Int) := uwrap_nat (by omega)
    have hux : IntKind.u64.wrap ((ns.getD k 0 : Nat) : Int) = ((ns.getD k 0 : Nat) : Int) := uwrap_nat (by omega)
    have hb := ren_bit01 m hs k (by omega)
    have hf : (renF m ns k).testBit (ns.getD k 0) = false := by
      rw [← Bool.not_eq_true, renF_bit]
      rintro ⟨i, h1, _, h3⟩
      exact hd i k h1 hk h3
    have ho := ren_add _ (renF_lt m ns hn k hIa) _ hx hf (m.testBit k)
    have hm : (if m.testBit k then renF m ns k ||| 2 ^ (ns.getD k 0) else renF m ns k) = renF m ns (k + 1) := by rw [renF]
    rw [hm] at ho
    rw [hge, huk, hux, hb, ho]
    refine ⟨by omega, hk, by omega, by omega, ?_⟩
    exact again_of (k + 1) (by refine ⟨?_, ?_, ?_, ?_, by omega⟩ <;> (first | (simp (maxSteps:=5000000) -dsimp only [gr, reduceEqDiff, reduceLT, reduceAdd, reduceMod, Nat.reduceBEq, sid_mod, sid_ne1, sid_ne2, sid_inj, h0a, h1a, h5a, h6a, wrap_nat hk (by omega)]; first | done | rfl | (simp; done)) | assumption | rfl)) (by first | omega | (simp only; omega) | (dsimp only; omega) | (show _ < _; simp; omega))
  · have : k = ns.length := by omega
    rw [this]
def namL (n : Nat) : Nat → List Nat → List (List Nat)
  | 0, head => [head]
  | m + 1, head => (List.range n).flatMap fun k => if k ∈ head then [] else namL n m (head ++ [k])
def namD (n m : Nat) (head : List Nat) (i : Nat) : List (List Nat) := (List.range i).flatMap fun k => if k ∈ head then [] else namL n m (head ++ [k])
theorem namD_succ (n m : Nat) (head : List Nat) (i : Nat) : namD n m head (i + 1) = namD n m head i ++ if i ∈ head then [] else namL n m (head ++ [i]) := by
  unfold namD; rw [List.range_succ, List.flatMap_append]; simp
theorem namD_all (n m : Nat) (head : List Nat) : namD n m head n = namL n (m + 1) head := rfl
theorem namD_le (n m : Nat) (head : List Nat) {i j : Nat} (h : i ≤ j) : (namD n m head i).length ≤ (namD n m head j).length := by
  induction j with
  | zero => have : i = 0 := by omega
            rw [this]; exact Nat.le_refl _
  | succ j ih =>
    by_cases e : i = j + 1
    · rw [e]; exact Nat.le_refl _
    · rw [namD_succ, List.length_append]; have := ih (by omega); omega
theorem mem_ofN' {l : List Nat} {k : Nat} : (k : Int) ∈ ofN l ↔ k ∈ l := by
  unfold ofN
  rw [List.mem_map]
  exact ⟨fun ⟨x, hx, e⟩ => by have : x = k := by omega
                              exact this ▸ hx, fun h => ⟨k, h, rfl⟩⟩
theorem ofN_snoc (l : List Nat) (k : Nat) : ofN (l ++ [k]) = ofN l ++ [(k : Int)] := by simp [ofN]
theorem c_l9All0 (head : List Nat) (M : Mat) (hh : head.length ≤ 100) (hB : M.length ≤ 1000000) : APu Tryz.prog 172 [int head.length, .own 1000500 1, .own 1000000 1] 25 3 M (ofN head) := by
  refine APu.go (rs := [.tmp 6]) T_ok mixed Tryz.func172 rfl rfl rfl (by kernel_rfl) fun _ s hs hlow ht hH hrow => ?_
  simp (maxSteps:=5000000) -dsimp only [↓gp, gq, reduceCtorEq, reduceEqDiff, reduceLT, reduceLeDiff, reduceAdd, reduceMul, reduceSub, Nat.reduceBEq, Int.reduceToNat, Int.reduceLE, Int.reduceLT, Int.reduceNeg, reduceMod, sid_ne1, sid_ne2, sid_inj, sid_mod, gT, TK.isInt, TK.agg, Array.toList, hs, hlow, ht, hH, ofN_length]
  refine orB_r ?_
  simp (maxSteps:=5000000) -dsimp only [↓gp, gq, reduceCtorEq, reduceEqDiff, reduceLT, reduceLeDiff, reduceAdd, reduceMul, reduceSub, Nat.reduceBEq, Int.reduceToNat, Int.reduceLE, Int.reduceLT, Int.reduceNeg, reduceMod, sid_ne1, sid_ne2, sid_inj, sid_mod, gT, TK.isInt, TK.agg, Array.toList, hs, hlow, ht, hH, ofN_length, cellsT_length, List.length_range]
  refine ⟨by omega, _, rfl, by simp (maxSteps:=5000000) -dsimp only [gr, reduceEqDiff, reduceLT, reduceAdd, reduceMod, Nat.reduceBEq, sid_mod, sid_ne1, sid_ne2, sid_inj], by simp (maxSteps:=5000000) -dsimp only [gr, reduceEqDiff, reduceLT, reduceAdd, reduceMod, Nat.reduceBEq, sid_mod, sid_ne1, sid_ne2, sid_inj, hH], fun i hi => by simp (maxSteps:=5000000) -dsimp only [gr, reduceEqDiff, reduceLT, reduceAdd, reduceMod, Nat.reduceBEq, sid_mod, sid_ne1, sid_ne2, sid_inj, hrow i hi]⟩
theorem c_l9All : ∀ (m : Nat) (head : List Nat) (M : Mat) (hh : head.length + m ≤ 99) (hB : M.length + (namL (head.length + 1 + m) (m + 1) head).length ≤ 1000000),
    AGr Tryz.prog 172 [int (head.length + 1 + m : Nat), ints (ofN head), .own 1000000 1] 25 3 M (M ++ (namL (head.length + 1 + m) (m + 1) head).map ofN) := by
  intro m
  induction m with
  | zero =>
    intro head M hh hB
    refine AGr.go (rs := [.tmp 6]) T_ok mixed Tryz.func172 rfl rfl rfl (by kernel_rfl) fun _ hMl s hs hlow ht => ?_
    have e2 : ((head.length : Int) == ((head.length + 1 + 0 : Nat) : Int)) = false := by
      rw [beq_eq_false_iff_ne]; omega
    simp (maxSteps:=5000000) -dsimp only [↓gp, gq, reduceCtorEq, reduceEqDiff, reduceLT, reduceLeDiff, reduceAdd, reduceMul, reduceSub, Nat.reduceBEq, Int.reduceToNat, Int.reduceLE, Int.reduceLT, Int.reduceNeg, reduceMod, sid_ne1, sid_ne2, sid_inj, sid_mod, gT, TK.isInt, TK.agg, Array.toList, hs, hlow, ht.top, e2, ofN_length]
    generalize hN : head.length + 1 + 0 = N at *
    refine loop_of (fun (za : Nat × Nat) s => match za with | (i, v) => s.sl 0 = int N ∧ s.sl 1 = ints (ofN head) ∧ s.sl 2 = .own 1000000 v ∧ s.sl 7 = int i ∧ (i ≤ N ∧ TabG s.rw 1000000 v 25 3 (M ++ (namD N 0 head i).map ofN).length (M ++ (namD N 0 head i).map ofN))) (fun (i, v) => N - i) ((0, 1)) (by refine ⟨?_, ?_, ?_, ?_, ⟨by omega, by
      have e : M ++ (namD N 0 head 0).map ofN = M := by simp [namD]
      rw [e]
      exact ht.same (by simp (maxSteps:=5000000) -dsimp only [gr, reduceEqDiff, reduceLT, reduceAdd, reduceMod, Nat.reduceBEq, sid_mod, sid_ne1, sid_ne2, sid_inj]) (fun x => by simp (maxSteps:=5000000) -dsimp only [gr, reduceEqDiff, reduceLT, reduceAdd, reduceMod, Nat.reduceBEq, sid_mod, sid_ne1, sid_ne2, sid_inj])⟩⟩ <;> (first | (simp (maxSteps:=5000000) -dsimp only [gr, reduceEqDiff, reduceLT, reduceAdd, reduceMod, Nat.reduceBEq, sid_mod, sid_ne1, sid_ne2, sid_inj, hs]; first | done | rfl | (simp; done)) | assumption | rfl)) ?_
    intro (i, v) sa ⟨h0a, h1a, h2a, h7a, hIa⟩
    obtain ⟨hi, hta⟩ := hIa
    simp (maxSteps:=5000000) -dsimp only [↓gp, gq, reduceCtorEq, reduceEqDiff, reduceLT, reduceLeDiff, reduceAdd, reduceMul, reduceSub, Nat.reduceBEq, Int.reduceToNat, Int.reduceLE, Int.reduceLT, Int.reduceNeg, reduceMod, sid_ne1, sid_ne2, sid_inj, sid_mod, gT, TK.isInt, TK.agg, Array.toList, h0a, h1a, h2a, h7a]
    refine ⟨fun h => askK_of (c_spec_l2Has _ _) ?_, fun h => ?_⟩
    · simp (maxSteps:=5000000) -dsimp only [↓gp, gq, reduceCtorEq, reduceEqDiff, reduceLT, reduceLeDiff, reduceAdd, reduceMul, reduceSub, Nat.reduceBEq, Int.reduceToNat, Int.reduceLE, Int.reduceLT, Int.reduceNeg, reduceMod, sid_ne1, sid_ne2, sid_inj, sid_mod, gT, TK.isInt, TK.agg, Array.toList, h0a, h1a, h2a, h7a]
      have hsu := namD_succ N 0 head i
      refine ⟨fun hm => ?_, fun hm => ?_⟩
      · have hm : i ∉ head := fun e => by rw [decide_eq_true (mem_ofN'.2 e)] at hm; cases hm
        rw [if_neg hm] at hsu
        have hfl := namD_le N 0 head (show i + 1 ≤ N by omega)
        rw [namD_all, hsu, List.length_append] at hfl
        simp (maxSteps:=5000000) -dsimp only [↓gp, gq, reduceCtorEq, reduceEqDiff, reduceLT, reduceLeDiff, reduceAdd, reduceMul, reduceSub, Nat.reduceBEq, Int.reduceToNat, Int.reduceLE, Int.reduceLT, Int.reduceNeg, reduceMod, sid_ne1, sid_ne2, sid_inj, sid_mod, gT, TK.isInt, TK.agg, Array.toList, h0a, h1a, h2a, h7a, ofN_length]
        have hle : (M ++ (namD N 0 head i).map ofN).length ≤ 1000000 := by simp; omega
        have hc := c_l9All0 (head ++ [i]) (M ++ (namD N 0 head i).map ofN) (by simp; omega) hle
        rw [List.length_append, List.length_singleton, show head.length + 1 = N by omega] at hc
        generalize hM1 : M ++ (namD N 0 head i).map ofN = M1 at *
        refine ⟨by omega, by omega, askPush_of (d := 33) (k := 1000000) (h := 26) (v := v) (vh := (sa.rw 26).ver + 1 + 1 + 1) hc ?_ (TabG.toH (hta.same (by simp (maxSteps:=5000000) -dsimp only [gr, reduceEqDiff, reduceLT, reduceAdd, reduceMod, Nat.reduceBEq, sid_mod, sid_ne1, sid_ne2, sid_inj]) (fun x => by simp (maxSteps:=5000000) -dsimp only [gr, reduceEqDiff, reduceLT, reduceAdd, reduceMod, Nat.reduceBEq, sid_mod, sid_ne1, sid_ne2, sid_inj]))) (by simp (maxSteps:=5000000) -dsimp only [gr, reduceEqDiff, reduceLT, reduceAdd, reduceMod, Nat.reduceBEq, sid_mod, sid_ne1, sid_ne2, sid_inj, ofN_snoc]; simp only [iL, List.map_append]) (by decide) fun S v' hS hH hSd hSs hSi hSr => ?_⟩
        · refine .one (.v _) (.one (.own (if_pos rfl) (by rw [inTH_H]) (by simp (maxSteps:=5000000) -dsimp only [gr, reduceEqDiff, reduceLT, reduceAdd, reduceMod, Nat.reduceBEq, sid_mod, sid_ne1, sid_ne2, sid_inj]) (by rw [inTH_H]; rfl)) (.one (.own ?_ (by rw [inTH_top]) ?_ (by rw [inTH_top]; rfl)) .nil))
          · show (if (1000000 : Nat) = 1000500 then _ else _) = _
            rw [if_neg (by decide)]; exact rhoK_top _ _
          · simp (maxSteps:=5000000) -dsimp only [gr, reduceEqDiff, reduceLT, reduceAdd, reduceMod, Nat.reduceBEq, sid_mod, sid_ne1, sid_ne2, sid_inj, hta.top]
        · have u0 : S.sl 0 = int N := by rw [hSs 0 (by decide)]; simp (maxSteps:=5000000) -dsimp only [gr, reduceEqDiff, reduceLT, reduceAdd, reduceMod, Nat.reduceBEq, sid_mod, sid_ne1, sid_ne2, sid_inj, h0a, h1a, h2a, h7a]
          have u1 : S.sl 1 = ints (ofN head) := by rw [hSs 1 (by decide)]; simp (maxSteps:=5000000) -dsimp only [gr, reduceEqDiff, reduceLT, reduceAdd, reduceMod, Nat.reduceBEq, sid_mod, sid_ne1, sid_ne2, sid_inj, h0a, h1a, h2a, h7a]
          have u7 : S.sl 7 = int i := by rw [hSs 7 (by decide)]; simp (maxSteps:=5000000) -dsimp only [gr, reduceEqDiff, reduceLT, reduceAdd, reduceMod, Nat.reduceBEq, sid_mod, sid_ne1, sid_ne2, sid_inj, h0a, h1a, h2a, h7a]
          have hSi2 : ∀ j, S.rw (sid 1000000 j) = sa.rw (sid 1000000 j) := fun j => by rw [hSi j]; simp (maxSteps:=5000000) -dsimp only [gr, reduceEqDiff, reduceLT, reduceAdd, reduceMod, Nat.reduceBEq, sid_mod, sid_ne1, sid_ne2, sid_inj]
          clear hSs hSr hSi
          simp (maxSteps:=5000000) -dsimp only [↓gp, gq, reduceCtorEq, reduceEqDiff, reduceLT, reduceLeDiff, reduceAdd, reduceMul, reduceSub, Nat.reduceBEq, Int.reduceToNat, Int.reduceLE, Int.reduceLT, Int.reduceNeg, reduceMod, sid_ne1, sid_ne2, sid_inj, sid_mod, gT, TK.isInt, TK.agg, Array.toList, hSd, u0, u1, u7]
          have e : M ++ (namD N 0 head (i + 1)).map ofN = M1 ++ [ofN (head ++ [i])] := by rw [hsu, ← hM1]; simp [namL]
          exact again_grow0 (k := 1000000) (v := v') (e := 25) (e2 := 3) (n := M1.length) (d := 26) (vd := (sa.rw 26).ver + 1 + 1 + 1) (M := M1) (r := ofN (head ++ [i])) (by simp (maxSteps:=5000000) -dsimp only [gr, reduceEqDiff, reduceLT, reduceAdd, reduceMod, Nat.reduceBEq, sid_mod, sid_ne1, sid_ne2, sid_inj, hS]) rfl (fun j hj => by simp (maxSteps:=5000000) -dsimp only [gr, reduceEqDiff, reduceLT, reduceAdd, reduceMod, Nat.reduceBEq, sid_mod, sid_ne1, sid_ne2, sid_inj, hSi2, hta.row j hj]) (fun j hj => by simp (maxSteps:=5000000) -dsimp only [gr, reduceEqDiff, reduceLT, reduceAdd, reduceMod, Nat.reduceBEq, sid_mod, sid_ne1, sid_ne2, sid_inj, hSi2, hta.rest j hj]) (by simp (maxSteps:=5000000) -dsimp only [gr, reduceEqDiff, reduceLT, reduceAdd, reduceMod, Nat.reduceBEq, sid_mod, sid_ne1, sid_ne2, sid_inj, hH]) (by decide) (by decide) ((i + 1, v')) (fun sX htX hslX hoX => (by refine ⟨?_, ?_, ?_, ?_, ⟨by omega, by rw [e, List.length_append, List.length_singleton]; exact htX⟩⟩ <;> (first | (simp (maxSteps:=5000000) -dsimp only [gr, reduceEqDiff, reduceLT, reduceAdd, reduceMod, Nat.reduceBEq, sid_mod, sid_ne1, sid_ne2, sid_inj, hslX, hoX, h0a, h1a, h2a, h7a, u0, u1, u7, wrap_nat h (by omega)]; first | done | rfl | (simp; done)) | assumption | rfl))) (by first | omega | (simp only; omega) | (dsimp only; omega) | (show _ < _; simp; omega))
      · have hm : i ∈ head := Classical.byContradiction fun e => by rw [decide_eq_false (fun e' => e (mem_ofN'.1 e'))] at hm; cases hm
        rw [if_pos hm, List.append_nil] at hsu
        exact again_of ((i + 1, v)) (by refine ⟨?_, ?_, ?_, ?_, ⟨by omega, by rw [hsu]; exact hta.same (by simp (maxSteps:=5000000) -dsimp only [gr, reduceEqDiff, reduceLT, reduceAdd, reduceMod, Nat.reduceBEq, sid_mod, sid_ne1, sid_ne2, sid_inj]) (fun x => by simp (maxSteps:=5000000) -dsimp only [gr, reduceEqDiff, reduceLT, reduceAdd, reduceMod, Nat.reduceBEq, sid_mod, sid_ne1, sid_ne2, sid_inj])⟩⟩ <;> (first | (simp (maxSteps:=5000000) -dsimp only [gr, reduceEqDiff, reduceLT, reduceAdd, reduceMod, Nat.reduceBEq, sid_mod, sid_ne1, sid_ne2, sid_inj, h0a, h1a, h2a, h7a, wrap_nat h (by omega)]; first | done | rfl | (simp; done)) | assumption | rfl)) (by first | omega | (simp only; omega) | (dsimp only; omega) | (show _ < _; simp; omega))
    · have hi2 : i = N := by omega
      subst hi2
      rw [namD_all] at hta
      exact grow_same hta (by rw [List.length_append]; omega) rfl
  | succ m ih =>
    intro head M hh hB
    refine AGr.go (rs := [.tmp 6]) T_ok mixed Tryz.func172 rfl rfl rfl (by kernel_rfl) fun _ hMl s hs hlow ht => ?_
    have e2 : ((head.length : Int) == ((head.length + 1 + (m + 1) : Nat) : Int)) = false := by
      rw [beq_eq_false_iff_ne]; omega
    simp (maxSteps:=5000000) -dsimp only [↓gp, gq, reduceCtorEq, reduceEqDiff, reduceLT, reduceLeDiff, reduceAdd, reduceMul, reduceSub, Nat.reduceBEq, Int.reduceToNat, Int.reduceLE, Int.reduceLT, Int.reduceNeg, reduceMod, sid_ne1, sid_ne2, sid_inj, sid_mod, gT, TK.isInt, TK.agg, Array.toList, hs, hlow, ht.top, e2, ofN_length]
    generalize hN : head.length + 1 + (m + 1) = N at *
    refine loop_of (fun (za : Nat × Nat) s => match za with | (i, v) => s.sl 0 = int N ∧ s.sl 1 = ints (ofN head) ∧ s.sl 2 = .own 1000000 v ∧ s.sl 7 = int i ∧ (i ≤ N ∧ TabG s.rw 1000000 v 25 3 (M ++ (namD N (m + 1) head i).map ofN).length (M ++ (namD N (m + 1) head i).map ofN))) (fun (i, v) => N - i) ((0, 1)) (by refine ⟨?_, ?_, ?_, ?_, ⟨by omega, by
      have e : M ++ (namD N (m + 1) head 0).map ofN = M := by simp [namD]
      rw [e]
      exact ht.same (by simp (maxSteps:=5000000) -dsimp only [gr, reduceEqDiff, reduceLT, reduceAdd, reduceMod, Nat.reduceBEq, sid_mod, sid_ne1, sid_ne2, sid_inj]) (fun x => by simp (maxSteps:=5000000) -dsimp only [gr, reduceEqDiff, reduceLT, reduceAdd, reduceMod, Nat.reduceBEq, sid_mod, sid_ne1, sid_ne2, sid_inj])⟩⟩ <;> (first | (simp (maxSteps:=5000000) -dsimp only [gr, reduceEqDiff, reduceLT, reduceAdd, reduceMod, Nat.reduceBEq, sid_mod, sid_ne1, sid_ne2, sid_inj, hs]; first | done | rfl | (simp; done)) | assumption | rfl)) ?_
    intro (i, v) sa ⟨h0a, h1a, h2a, h7a, hIa⟩
    obtain ⟨hi, hta⟩ := hIa
    simp (maxSteps:=5000000) -dsimp only [↓gp, gq, reduceCtorEq, reduceEqDiff, reduceLT, reduceLeDiff, reduceAdd, reduceMul, reduceSub, Nat.reduceBEq, Int.reduceToNat, Int.reduceLE, Int.reduceLT, Int.reduceNeg, reduceMod, sid_ne1, sid_ne2, sid_inj, sid_mod, gT, TK.isInt, TK.agg, Array.toList, h0a, h1a, h2a, h7a]
    refine ⟨fun h => askK_of (c_spec_l2Has _ _) ?_, fun h => ?_⟩
    · simp (maxSteps:=5000000) -dsimp only [↓gp, gq, reduceCtorEq, reduceEqDiff, reduceLT, reduceLeDiff, reduceAdd, reduceMul, reduceSub, Nat.reduceBEq, Int.reduceToNat, Int.reduceLE, Int.reduceLT, Int.reduceNeg, reduceMod, sid_ne1, sid_ne2, sid_inj, sid_mod, gT, TK.isInt, TK.agg, Array.toList, h0a, h1a, h2a, h7a]
      have hsu := namD_succ N (m + 1) head i
      refine ⟨fun hm => ?_, fun hm => ?_⟩
      · have hm : i ∉ head := fun e => by rw [decide_eq_true (mem_ofN'.2 e)] at hm; cases hm
        rw [if_neg hm] at hsu
        have hfl := namD_le N (m + 1) head (show i + 1 ≤ N by omega)
        rw [namD_all, hsu, List.length_append] at hfl
        simp (maxSteps:=5000000) -dsimp only [↓gp, gq, reduceCtorEq, reduceEqDiff, reduceLT, reduceLeDiff, reduceAdd, reduceMul, reduceSub, Nat.reduceBEq, Int.reduceToNat, Int.reduceLE, Int.reduceLT, Int.reduceNeg, reduceMod, sid_ne1, sid_ne2, sid_inj, sid_mod, gT, TK.isInt, TK.agg, Array.toList, h0a, h1a, h2a, h7a, ofN_length]
        have hx0 : (head ++ [i]).length + 1 + m = N := by simp; omega
        have hc := ih (head ++ [i]) (M ++ (namD N (m + 1) head i).map ofN) (by simp; omega) (by rw [hx0]; simp; omega)
        rw [hx0, List.append_assoc, ← List.map_append, ← hsu] at hc
        refine ⟨by omega, by omega, askGrow_of (d := 33) (k := 1000000) (v := v) hc (fun j => j = 26) ?_ (TabG.toH (hta.same (by simp (maxSteps:=5000000) -dsimp only [gr, reduceEqDiff, reduceLT, reduceAdd, reduceMod, Nat.reduceBEq, sid_mod, sid_ne1, sid_ne2, sid_inj]) (fun x => by simp (maxSteps:=5000000) -dsimp only [gr, reduceEqDiff, reduceLT, reduceAdd, reduceMod, Nat.reduceBEq, sid_mod, sid_ne1, sid_ne2, sid_inj]))) (fun j hj => by subst hj; rfl) fun S v' hv hS hSd hSs hSr => ?_⟩
        · refine .one (.v _) (.one (.lent (e := 3) (fz := false) rfl (by simp (maxSteps:=5000000) -dsimp only [gr, reduceEqDiff, reduceLT, reduceAdd, reduceMod, Nat.reduceBEq, sid_mod, sid_ne1, sid_ne2, sid_inj, ofN_snoc]; simp only [iL, List.map_append])) (.one (gv_top ?_) .nil))
          simp (maxSteps:=5000000) -dsimp only [gr, reduceEqDiff, reduceLT, reduceAdd, reduceMod, Nat.reduceBEq, sid_mod, sid_ne1, sid_ne2, sid_inj, hta.top]
        · have u0 : S.sl 0 = int N := by rw [hSs 0 (by decide)]; simp (maxSteps:=5000000) -dsimp only [gr, reduceEqDiff, reduceLT, reduceAdd, reduceMod, Nat.reduceBEq, sid_mod, sid_ne1, sid_ne2, sid_inj, h0a, h1a, h2a, h7a]
          have u1 : S.sl 1 = ints (ofN head) := by rw [hSs 1 (by decide)]; simp (maxSteps:=5000000) -dsimp only [gr, reduceEqDiff, reduceLT, reduceAdd, reduceMod, Nat.reduceBEq, sid_mod, sid_ne1, sid_ne2, sid_inj, h0a, h1a, h2a, h7a]
          have u7 : S.sl 7 = int i := by rw [hSs 7 (by decide)]; simp (maxSteps:=5000000) -dsimp only [gr, reduceEqDiff, reduceLT, reduceAdd, reduceMod, Nat.reduceBEq, sid_mod, sid_ne1, sid_ne2, sid_inj, h0a, h1a, h2a, h7a]
          simp (maxSteps:=5000000) -dsimp only [↓gp, gq, reduceCtorEq, reduceEqDiff, reduceLT, reduceLeDiff, reduceAdd, reduceMul, reduceSub, Nat.reduceBEq, Int.reduceToNat, Int.reduceLE, Int.reduceLT, Int.reduceNeg, reduceMod, sid_ne1, sid_ne2, sid_inj, sid_mod, gT, TK.isInt, TK.agg, Array.toList, hSd, u0, u1, u7]
          exact again_of ((i + 1, v')) (by refine ⟨?_, ?_, ?_, ?_, ⟨by omega, hS.same (by simp (maxSteps:=5000000) -dsimp only [gr, reduceEqDiff, reduceLT, reduceAdd, reduceMod, Nat.reduceBEq, sid_mod, sid_ne1, sid_ne2, sid_inj]) (fun x => by simp (maxSteps:=5000000) -dsimp only [gr, reduceEqDiff, reduceLT, reduceAdd, reduceMod, Nat.reduceBEq, sid_mod, sid_ne1, sid_ne2, sid_inj])⟩⟩ <;> (first | (simp (maxSteps:=5000000) -dsimp only [gr, reduceEqDiff, reduceLT, reduceAdd, reduceMod, Nat.reduceBEq, sid_mod, sid_ne1, sid_ne2, sid_inj, h0a, h1a, h2a, h7a, u0, u1, u7, wrap_nat h (by omega)]; first | done | rfl | (simp; done)) | assumption | rfl)) (by first | omega | (simp only; omega) | (dsimp only; omega) | (show _ < _; simp; omega))
      · have hm : i ∈ head := Classical.byContradiction fun e => by rw [decide_eq_false (fun e' => e (mem_ofN'.1 e'))] at hm; cases hm
        rw [if_pos hm, List.append_nil] at hsu
        exact again_of ((i + 1, v)) (by refine ⟨?_, ?_, ?_, ?_, ⟨by omega, by rw [hsu]; exact hta.same (by simp (maxSteps:=5000000) -dsimp only [gr, reduceEqDiff, reduceLT, reduceAdd, reduceMod, Nat.reduceBEq, sid_mod, sid_ne1, sid_ne2, sid_inj]) (fun x => by simp (maxSteps:=5000000) -dsimp only [gr, reduceEqDiff, reduceLT, reduceAdd, reduceMod, Nat.reduceBEq, sid_mod, sid_ne1, sid_ne2, sid_inj])⟩⟩ <;> (first | (simp (maxSteps:=5000000) -dsimp only [gr, reduceEqDiff, reduceLT, reduceAdd, reduceMod, Nat.reduceBEq, sid_mod, sid_ne1, sid_ne2, sid_inj, h0a, h1a, h2a, h7a, wrap_nat h (by omega)]; first | done | rfl | (simp; done)) | assumption | rfl)) (by first | omega | (simp only; omega) | (dsimp only; omega) | (show _ < _; simp; omega))
    · have hi2 : i = N := by omega
      subst hi2
      rw [namD_all] at hta
      exact grow_same hta (by rw [List.length_append]; omega) rfl
end Go.Proofs.YtpnknaaehcljoaaGreat
namespace Go.Proofs.YtpnknaaehcljoaaGreat
open Go.Abs Go.Shelf Go.Sort
set_option linter.unusedSimpArgs false
set_option linter.unusedVariables false
def keyS (x : Fin 64) : Nat := popN x.val * 64 + x.val
def cmpF (x y : Fin 64) : Int := cmpS (x.val : Nat) (y.val : Nat)
theorem cmpF_key : ∀ x y : Fin 64, ltOf cmpF x y = decide (keyS x < keyS y) := by decide +kernel
theorem keyS_inj : ∀ x y : Fin 64, keyS x = keyS y → x = y := by
  intro x y h
  unfold keyS at h
  have := x.isLt; have := y.isLt
  exact Fin.ext (by omega)
theorem cmpF_swo : SWO (ltOf cmpF) where
  irrefl x := by rw [cmpF_key]; simp
  trans x y z h1 h2 := by rw [cmpF_key] at *; simp at *; omega
  ntrans x y z h1 h2 := by rw [cmpF_key] at *; simp at *; omega
theorem nd_befQ {l : List Nat} (h : l.Pairwise befN) : l.Nodup := h.imp fun {a b} hab e => by subst e; unfold befN at hab; omega
theorem eq_befQ {a b : List Nat} (ha : a.Pairwise befN) (hb : b.Pairwise befN) (h : ∀ s, s ∈ a ↔ s ∈ b) : a = b :=
  List.Perm.eq_of_pairwise (fun x y _ _ h1 h2 => by unfold befN at h1 h2; omega) ha hb ((List.perm_ext_iff_of_nodup (nd_befQ ha) (nd_befQ hb)).2 h)
def valN (d : List (Fin 64)) : List Nat := d.map fun x => x.val
theorem sorted_uni (d d' : List (Fin 64)) (hd : d.Nodup) (hp : d'.Perm d) (hs : d'.Pairwise fun x y => ltOf cmpF y x = false) : valN d' = ordN (inF (ofN (valN d))) := by
  have hd' : d'.Nodup := hp.nodup_iff.2 hd
  refine eq_befQ ?_ (ordN_pw _) fun s => ?_
  · unfold valN
    rw [List.pairwise_map]
    refine List.Pairwise.imp₂ (R := fun x y => ltOf cmpF y x = false) (S := fun x y => x ≠ y) ?_ hs hd'
    intro x y h1 h2
    rw [cmpF_key] at h1
    have h3 : keyS x ≠ keyS y := fun e => h2 (keyS_inj _ _ e)
    have h1 : ¬ keyS y < keyS x := by simpa using h1
    have h4 : keyS x < keyS y := by omega
    unfold keyS at h4
    have := x.isLt; have := y.isLt
    unfold befN
    omega
  · rw [mem_ordN, inF_ofN, decide_eq_true_eq]
    unfold valN
    have : s ∈ d'.map (fun x => x.val) ↔ s ∈ d.map (fun x => x.val) := (hp.map _).mem_iff
    rw [this]
    refine ⟨fun h => ⟨?_, h⟩, fun h => h.2⟩
    obtain ⟨x, _, rfl⟩ := List.mem_map.1 h
    exact x.isLt
open Nat (reduceEqDiff reduceMod reduceAdd reduceLT reduceLeDiff reduceSub reduceMul)
def rnL (fs ns : List Nat) : List Nat := fs.map fun s => renF s ns ns.length
theorem c_impl_renamedFacets (fs ns : List Nat) (hf : ∀ x ∈ fs, x < 64) (hfl : fs.length ≤ 64) (hl6 : ns.length ≤ 6) (hn : ∀ k, k < ns.length → ns.getD k 0 < 6) (hd : (rnL fs ns).Nodup) : AC Tryz.prog 207 [ints (ofN fs), ints (ofN ns)] (.fr 3 1 (iL (ofN (ordN (inF (ofN (rnL fs ns))))))) := by
  refine AC.go (rs := [.tmp 4]) T_ok mixed Tryz.func207 rfl rfl rfl (by kernel_rfl) fun hl => ?_
  simp (maxSteps:=5000000) -dsimp only [↓gp, gq, reduceCtorEq, reduceEqDiff, reduceLT, reduceLeDiff, reduceAdd, reduceMul, reduceSub, Nat.reduceBEq, Int.reduceToNat, Int.reduceLE, Int.reduceLT, Int.reduceNeg, reduceMod, sid_ne1, sid_ne2, sid_inj, sid_mod, gT, TK.isInt, TK.agg, Array.toList, ofN_length]
  have hrl : (rnL fs ns).length = fs.length := by simp [rnL]
  refine ⟨by omega, by omega, ?_⟩
  refine loop_of (fun (za : Nat × Nat) s => match za with | (k, v) => s.sl 0 = ints (ofN fs) ∧ s.sl 1 = ints (ofN ns) ∧ s.sl 5 = .own 10 v ∧ s.rw 10 = ⟨v, .sli 3 1 false (iL (ofN ((rnL fs ns).take k)))⟩ ∧ s.sl 11 = ints (ofN fs) ∧ s.sl 12 = int fs.length ∧ s.sl 13 = int k ∧ (k ≤ fs.length)) (fun (k, v) => fs.length - k) ((0, 1)) (by refine ⟨?_, ?_, ?_, ?_, ?_, ?_, ?_, by simp⟩ <;> (first | (simp (maxSteps:=5000000) -dsimp only [gr, reduceEqDiff, reduceLT, reduceAdd, reduceMod, Nat.reduceBEq, sid_mod, sid_ne1, sid_ne2, sid_inj, ofN_length]; first | done | rfl | (simp; done)) | assumption | rfl)) ?_
  intro (k, v) sa ⟨h0a, h1a, h5a, r10a, h11a, h12a, h13a, hIa⟩
  simp (maxSteps:=5000000) -dsimp only [↓gp, gq, reduceCtorEq, reduceEqDiff, reduceLT, reduceLeDiff, reduceAdd, reduceMul, reduceSub, Nat.reduceBEq, Int.reduceToNat, Int.reduceLE, Int.reduceLT, Int.reduceNeg, reduceMod, sid_ne1, sid_ne2, sid_inj, sid_mod, gT, TK.isInt, TK.agg, Array.toList, h0a, h1a, h5a, r10a, h11a, h12a, h13a, ofN_length]
  refine ⟨fun hk => ⟨hk, hk, ?_⟩, fun hk => ?_⟩
  · have hs : (fs.getD k 0) < 64 := hf _ (getD_mem 0 hk)
    have hge : (ofN fs).getD k 0 = ((fs.getD k 0 : Nat) : Int) := ofN_getD hk
    rw [hge]
    refine askK_of (c_impl_renamed _ hs ns hl6 hn) ?_
    simp (maxSteps:=5000000) -dsimp only [↓gp, gq, reduceCtorEq, reduceEqDiff, reduceLT, reduceLeDiff, reduceAdd, reduceMul, reduceSub, Nat.reduceBEq, Int.reduceToNat, Int.reduceLE, Int.reduceLT, Int.reduceNeg, reduceMod, sid_ne1, sid_ne2, sid_inj, sid_mod, gT, TK.isInt, TK.agg, Array.toList, h0a, h1a, h5a, r10a, h11a, h12a, h13a, ofN_length]
    have hnx : (rnL fs ns).take (k + 1) = (rnL fs ns).take k ++ [renF (fs.getD k 0) ns ns.length] := by
      rw [take_snoc 0 (by omega)]
      congr 2
      unfold rnL
      simp [List.getD_eq_getElem?_getD, List.getElem?_map, List.getElem?_eq_getElem hk]
    have htl : ((rnL fs ns).take k).length ≤ k := by simp; omega
    refine ⟨by omega, ?_⟩
    exact again_of ((k + 1, v + 1)) (by refine ⟨?_, ?_, ?_, ?_, ?_, ?_, ?_, by omega⟩ <;> (first | (simp (maxSteps:=5000000) -dsimp only [gr, reduceEqDiff, reduceLT, reduceAdd, reduceMod, Nat.reduceBEq, sid_mod, sid_ne1, sid_ne2, sid_inj, h0a, h1a, h5a, r10a, h11a, h12a, h13a, h0a, h1a, h5a, r10a, h11a, h12a, h13a, wrap_nat hk (by omega), hnx, ofN_append, ofN_one]; first | done | rfl | (simp; done)) | assumption | rfl)) (by first | omega | (simp only; omega) | (dsimp only; omega) | (show _ < _; simp; omega))
  · have hkk : k = fs.length := by omega
    rw [hkk, ← hrl, List.take_length] at r10a
    rw [hkk, ← hrl, List.take_length]
    have hin : ∀ x ∈ rnL fs ns, x < 64 := fun x hx => by
      obtain ⟨y, _, rfl⟩ := List.mem_map.1 hx
      exact renF_lt y ns hn _ (Nat.le_refl _)
    obtain ⟨d, hdv⟩ : ∃ d : List (Fin 64), valN d = rnL fs ns := by
      refine ⟨(rnL fs ns).attach.map fun x => ⟨x.1, hin _ x.2⟩, ?_⟩
      simp [valN, List.map_map, Function.comp_def]
    have hdn : d.Nodup := by
      rw [← hdv] at hd
      exact (List.pairwise_map.1 hd).imp fun h e => h (by rw [e])
    have hdl : d.length ≤ 64 := by
      have : d.length = (rnL fs ns).length := by rw [← hdv]; simp [valN]
      omega
    have hE : Abs.Enters Tryz.prog 224 := ⟨_, Tryz.func224, by kernel_rfl, by kernel_rfl⟩
    have hA := sort_AM laysSF laysSF0 hE trivial (fun x : Fin 64 => ((x.val : Nat) : Int)) cmpF cmpF_swo 225 (enters_of Tryz.func225 (by kernel_rfl) rfl) (fun x y => c_impl_renamedFacets1 _ _) 3 d (Nat.lt_of_le_of_lt hdl (by decide)) (ofN (ordN (inF (ofN (valN d))))) (fun d' hp hs => by
        rw [← sorted_uni d d' hdn hp hs]
        simp [valN, ofN, List.map_map, Function.comp_def])
    have hmap : d.map (fun x : Fin 64 => ((x.val : Nat) : Int)) = ofN (rnL fs ns) := by
      rw [← hdv]; simp [valN, ofN, List.map_map, Function.comp_def]
    rw [hmap, hdv] at hA
    refine askM_of hA [(10, v)] (by repeat (first | exact GiveL.nil | refine GiveL.v ?_ | refine GiveL.clo ?_ | refine GiveL.own 0 rfl ?_ | refine GiveL.own 1 rfl ?_ | refine GiveL.ag ?_ ?_)) ⟨by simp (maxSteps:=5000000) -dsimp only [gr, reduceEqDiff, reduceLT, reduceAdd, reduceMod, Nat.reduceBEq, sid_mod, sid_ne1, sid_ne2, sid_inj, r10a], trivial⟩ (by simp) ?_
    simp (maxSteps:=5000000) -dsimp only [↓gp, gq, reduceCtorEq, reduceEqDiff, reduceLT, reduceLeDiff, reduceAdd, reduceMul, reduceSub, Nat.reduceBEq, Int.reduceToNat, Int.reduceLE, Int.reduceLT, Int.reduceNeg, reduceMod, sid_ne1, sid_ne2, sid_inj, sid_mod, gT, TK.isInt, TK.agg, Array.toList, h0a, h1a, h5a, r10a, h11a, h12a, h13a, hmap, hdv]
end Go.Proofs.YtpnknaaehcljoaaGreat
namespace Go.Proofs.YtpnknaaehcljoaaGreat
open Go.Abs
set_option linter.unusedSimpArgs false
set_option linter.unusedVariables false
theorem cx_len {n : Int} {xs : List Int} (h : isCx n xs = true) : xs.length ≤ 64 := by
  have hn := cx_nodup (isCx_iff.1 h)
  have hx := cx_ok h
  have h2 : (xs.map Int.toNat).Nodup := by
    refine List.Pairwise.map _ (fun a b => ?_) (List.Pairwise.imp_of_mem (S := fun a b => 0 ≤ a ∧ 0 ≤ b ∧ a ≠ b) (fun ha hb hab => ⟨(hx _ ha).1, (hx _ hb).1, hab⟩) hn)
    intro ⟨q1, q2, q3⟩ e
    omega
  refine Classical.byContradiction fun hc => ?_
  have := (perm_of_sub (m := List.range 64) h2 (fun x hx' => ?_) (by simp; omega)).length_eq
  · simp at this; omega
  · obtain ⟨y, hy, rfl⟩ := List.mem_map.1 hx'
    have := hx y hy
    exact List.mem_range.2 (by omega)
open Nat (reduceEqDiff reduceMod reduceAdd reduceLT reduceLeDiff reduceSub reduceMul)
theorem nd_bef {l : List Nat} (h : l.Pairwise befN) : l.Nodup := h.imp fun {a b} hab e => by subst e; exact befN_irrefl hab
theorem c_spec_l3CopyB (n : Int) (xs : List Int) (hx : xs.length ≤ 1048576) : AC Tryz.prog 171 [.ag [int n, ints xs]] (.ag [.im (int n), .fr 3 1 (iL xs)]) := by
  refine AC.go (rs := [.cell 2 27]) T_ok mixed Tryz.func171 rfl rfl rfl (by kernel_rfl) fun hl => ?_
  simp (maxSteps:=5000000) -dsimp only [↓gp, gq, reduceCtorEq, reduceEqDiff, reduceLT, reduceLeDiff, reduceAdd, reduceMul, reduceSub, Nat.reduceBEq, Int.reduceToNat, Int.reduceLE, Int.reduceLT, Int.reduceNeg, reduceMod, sid_ne1, sid_ne2, sid_inj, sid_mod, gT, TK.isInt, TK.agg, Array.toList]
  exact ⟨by kernel_rfl, by omega, by kernel_rfl⟩
structure goodN (n : Nat) (ns : List Nat) : Prop where
  len : ns.length = n
  lt : ∀ x ∈ ns, x < n
  nd : ns.Nodup
theorem goodN.at {n : Nat} {ns : List Nat} (h : goodN n ns) {k : Nat} (hk : k < ns.length) : ns.getD k 0 < n := h.lt _ (getD_mem 0 hk)
theorem goodN.at6 {n : Nat} (hn : n ≤ 6) {ns : List Nat} (h : goodN n ns) : ∀ k, k < ns.length → ns.getD k 0 < 6 := fun k hk => by have := h.at hk; omega
theorem goodN.ne {n : Nat} {ns : List Nat} (h : goodN n ns) {i k : Nat} (hik : i < k) (hk : k < ns.length) : ns.getD i 0 ≠ ns.getD k 0 := by
  rw [getD_at 0 (show i < ns.length by omega), getD_at 0 hk]
  exact fun e => absurd ((List.getElem_inj h.nd).1 e) (by omega)
theorem mem_namL {n : Nat} : ∀ (m : Nat) (head ns : List Nat), ns ∈ namL n m head → head.Nodup → (∀ x ∈ head, x < n) → ns.length = head.length + m ∧ ns.Nodup ∧ ∀ x ∈ ns, x < n
  | 0, head, ns, h, hn, hl => by
    rw [namL, List.mem_singleton] at h
    subst h; exact ⟨rfl, hn, hl⟩
  | m + 1, head, ns, h, hn, hl => by
    rw [namL, List.mem_flatMap] at h
    obtain ⟨k, hk, h⟩ := h
    rw [List.mem_range] at hk
    split at h
    · cases h
    · rename_i hkh
      have := mem_namL m (head ++ [k]) ns h (List.nodup_append.2 ⟨hn, by simp, fun a ha b hb e => by simp at hb; subst hb; subst e; exact hkh ha⟩) (fun x hx => by
        rw [List.mem_append, List.mem_singleton] at hx
        exact hx.elim (hl x) (fun e => e ▸ hk))
      exact ⟨by rw [this.1]; simp; omega, this.2⟩
theorem namL_good {n : Nat} {ns : List Nat} (h : ns ∈ namL n n []) : goodN n ns := by
  have := mem_namL n [] ns h List.nodup_nil (by simp)
  exact ⟨by simpa using this.1, this.2.2, this.2.1⟩
theorem namL_len : ∀ n, n < 7 → (namL n n []).length ≤ 720 := by decide +kernel
theorem renF_inj {n : Nat} (hn : n ≤ 6) {ns : List Nat} (h : goodN n ns) {s t : Nat} (hs : s < 2 ^ n) (ht : t < 2 ^ n) (e : renF s ns ns.length = renF t ns ns.length) : s = t := by
  have key : ∀ {s t : Nat}, s < 2 ^ n → renF s ns ns.length = renF t ns ns.length → ∀ i, s.testBit i = true → t.testBit i = true := fun {s t} hs e i hi => by
    have hin : i < ns.length := by
      rw [h.len]
      exact Nat.lt_of_not_le fun hle => by rw [Nat.testBit_lt_two_pow (Nat.lt_of_lt_of_le hs (Nat.pow_le_pow_right (by omega) hle))] at hi; cases hi
    have h1 := (renF_bit s ns (ns.getD i 0) ns.length).2 ⟨i, hin, hi, rfl⟩
    rw [e] at h1
    obtain ⟨j, hj, h2, h3⟩ := (renF_bit t ns (ns.getD i 0) ns.length).1 h1
    have : j = i := by
      rw [getD_at 0 hj, getD_at 0 hin] at h3
      exact (List.getElem_inj h.nd).1 h3
    exact this ▸ h2
  refine Nat.eq_of_testBit_eq fun i => ?_
  cases h1 : s.testBit i with
  | true => exact (key hs e i h1).symm
  | false =>
    cases h2 : t.testBit i with
    | true => rw [key ht e.symm i h2] at h1; cases h1
    | false => rfl
theorem rnL_nd {n : Nat} (hn : n ≤ 6) {fs ns : List Nat} (h : goodN n ns) (hf : ∀ x ∈ fs, x < 2 ^ n) (hd : fs.Nodup) : (rnL fs ns).Nodup :=
  List.pairwise_map.2 (List.Pairwise.imp_of_mem (fun ha hb hne e => hne (renF_inj hn h (hf _ ha) (hf _ hb) e)) hd)
theorem rnL_lt {n : Nat} (hn : n ≤ 6) {fs ns : List Nat} (h : goodN n ns) : ∀ x ∈ rnL fs ns, x < 64 := fun x hx => by
  obtain ⟨y, _, rfl⟩ := List.mem_map.1 hx
  exact renF_lt y ns (h.at6 hn) _ (Nat.le_refl _)
noncomputable def cvL (fs ns : List Nat) : List Int := ofN (ordN (inF (ofN (rnL fs ns))))
theorem ordN_len {l : List Nat} (hl : ∀ x ∈ l, x < 64) (hd : l.Nodup) : (ordN (inF (ofN l))).length = l.length := by
  refine (((List.perm_ext_iff_of_nodup (nd_bef (ordN_pw _)) hd).2 fun s => ?_)).length_eq
  rw [mem_ordN, inF_ofN, decide_eq_true_eq]
  exact ⟨fun h => h.2, fun h => ⟨hl s h, h⟩⟩
theorem cvL_len {n : Nat} (hn : n ≤ 6) {fs ns : List Nat} (h : goodN n ns) (hf : ∀ x ∈ fs, x < 2 ^ n) (hd : fs.Nodup) : (cvL fs ns).length = fs.length := by
  unfold cvL
  rw [ofN_length, ordN_len (rnL_lt hn h) (rnL_nd hn h hf hd)]
  simp [rnL]
theorem c_spec_l9Complex (n : Int) (fs ns : List Nat) (hf : ∀ x ∈ fs, x < 64) (hfl : fs.length ≤ 64) {m : Nat} (hm : m ≤ 6) (hg : goodN m ns) :
    AC Tryz.prog 86 [.ag [int n, ints (ofN fs)], ints (ofN ns)] (.ag [.im (int n), .fr 3 1 (iL (cvL fs ns))]) := by
  refine AC.go (rs := [.cell 4 27]) T_ok mixed Tryz.func86 rfl rfl rfl (by kernel_rfl) fun hl => ?_
  have hl6 : ns.length ≤ 6 := by have := hg.len; omega
  simp (maxSteps:=5000000) -dsimp only [↓gp, gq, reduceCtorEq, reduceEqDiff, reduceLT, reduceLeDiff, reduceAdd, reduceMul, reduceSub, Nat.reduceBEq, Int.reduceToNat, Int.reduceLE, Int.reduceLT, Int.reduceNeg, reduceMod, sid_ne1, sid_ne2, sid_inj, sid_mod, gT, TK.isInt, TK.agg, Array.toList, ofN_length]
  have hrl : (rnL fs ns).length = fs.length := by simp [rnL]
  refine loop_of (fun (za : Nat × Nat) s => match za with | (k, v) => s.sl 1 = ints (ofN ns) ∧ s.sl 2 = .ref 2 1 0 ∧ s.rw 2 = ⟨1, .box 27 [int n, ints (ofN fs)]⟩ ∧ s.sl 4 = .ref 4 1 0 ∧ s.rw 4 = ⟨1, .box 27 [int 0, .v (.slice none 0 0)]⟩ ∧ s.sl 5 = .own 7 v ∧ s.rw 7 = ⟨v, .sli 3 1 false (iL (ofN ((rnL fs ns).take k)))⟩ ∧ s.sl 6 = int k ∧ (k ≤ fs.length)) (fun (k, v) => fs.length - k) ((0, 1)) (by refine ⟨?_, ?_, ?_, ?_, ?_, ?_, ?_, ?_, by simp⟩ <;> (first | (simp (maxSteps:=5000000) -dsimp only [gr, reduceEqDiff, reduceLT, reduceAdd, reduceMod, Nat.reduceBEq, sid_mod, sid_ne1, sid_ne2, sid_inj, ofN_length]; first | done | rfl | (simp; done)) | assumption | rfl)) ?_
  intro (k, v) sa ⟨h1a, h2a, r2a, h4a, r4a, h5a, r7a, h6a, hIa⟩
  simp (maxSteps:=5000000) -dsimp only [↓gp, gq, reduceCtorEq, reduceEqDiff, reduceLT, reduceLeDiff, reduceAdd, reduceMul, reduceSub, Nat.reduceBEq, Int.reduceToNat, Int.reduceLE, Int.reduceLT, Int.reduceNeg, reduceMod, sid_ne1, sid_ne2, sid_inj, sid_mod, gT, TK.isInt, TK.agg, Array.toList, h1a, h2a, r2a, h4a, r4a, h5a, r7a, h6a, ofN_length]
  refine ⟨fun hk => ?_, fun hk => ?_⟩
  · have hs : (fs.getD k 0) < 64 := hf _ (getD_mem 0 hk)
    have hge : (ofN fs).getD k 0 = ((fs.getD k 0 : Nat) : Int) := ofN_getD hk
    rw [hge]
    refine ⟨hk, hk, askK_of (c_spec_l9Set _ hs ns hl6 (hg.at6 hm) (fun i k h1 h2 => hg.ne h1 h2)) ?_⟩
    simp (maxSteps:=5000000) -dsimp only [↓gp, gq, reduceCtorEq, reduceEqDiff, reduceLT, reduceLeDiff, reduceAdd, reduceMul, reduceSub, Nat.reduceBEq, Int.reduceToNat, Int.reduceLE, Int.reduceLT, Int.reduceNeg, reduceMod, sid_ne1, sid_ne2, sid_inj, sid_mod, gT, TK.isInt, TK.agg, Array.toList, h1a, h2a, r2a, h4a, r4a, h5a, r7a, h6a, ofN_length]
    have hnx : (rnL fs ns).take (k + 1) = (rnL fs ns).take k ++ [renF (fs.getD k 0) ns ns.length] := by
      rw [take_snoc 0 (by omega)]
      congr 2
      unfold rnL
      simp [List.getD_eq_getElem?_getD, List.getElem?_map, List.getElem?_eq_getElem hk]
    have htl : ((rnL fs ns).take k).length ≤ k := by simp; omega
    refine ⟨by omega, ?_⟩
    exact again_of ((k + 1, v + 1)) (by refine ⟨?_, ?_, ?_, ?_, ?_, ?_, ?_, ?_, by omega⟩ <;> (first | (simp (maxSteps:=5000000) -dsimp only [gr, reduceEqDiff, reduceLT, reduceAdd, reduceMod, Nat.reduceBEq, sid_mod, sid_ne1, sid_ne2, sid_inj, h1a, h2a, r2a, h4a, r4a, h5a, r7a, h6a, wrap_nat hk (by omega), hnx, ofN_append, ofN_one]; first | done | rfl | (simp; done)) | assumption | rfl)) (by first | omega | (simp only; omega) | (dsimp only; omega) | (show _ < _; simp; omega))
  · have hkk : k = fs.length := by omega
    rw [hkk, ← hrl, List.take_length]
    refine ⟨by kernel_rfl, askK_of (c_spec_l2Order _ (ofN_ok (rnL_lt hm hg))) ?_⟩
    simp (maxSteps:=5000000) -dsimp only [↓gp, gq, reduceCtorEq, reduceEqDiff, reduceLT, reduceLeDiff, reduceAdd, reduceMul, reduceSub, Nat.reduceBEq, Int.reduceToNat, Int.reduceLE, Int.reduceLT, Int.reduceNeg, reduceMod, sid_ne1, sid_ne2, sid_inj, sid_mod, gT, TK.isInt, TK.agg, Array.toList, h1a, h2a, r2a, h4a, r4a, h5a, r7a, h6a]
    exact ⟨by kernel_rfl, rfl⟩
def intV : Value → Nat | .int _ x => x.toNat | _ => 0
def shS (bs : List Int) (k : Nat) (q : List Nat × Nat × Int) : List Nat × Nat × Int :=
  (q.1.take (intV (beF bs ((q.1.length : Int) + 1) q.2.1 q.2.2).1) ++ [k] ++ q.1.drop (intV (beF bs ((q.1.length : Int) + 1) q.2.1 q.2.2).1), (beF bs ((q.1.length : Int) + 1) q.2.1 q.2.2).2)
def shF (bs : List Int) : Nat → Nat → Int → List Nat × Nat × Int
  | 0, i, h => ([], i, h)
  | k + 1, i, h => shS bs k (shF bs k i h)
theorem shF_perm (bs : List Int) (i : Nat) (h : Int) : ∀ k, (shF bs k i h).1.Perm (List.range k)
  | 0 => .nil
  | k + 1 => by
    rw [List.range_succ]
    show (List.take _ _ ++ [k] ++ List.drop _ _).Perm _
    refine List.Perm.trans ?_ ((shF_perm bs i h k).append_right [k])
    rw [List.append_assoc]
    refine (List.Perm.append_left _ List.perm_append_comm).trans ?_
    rw [← List.append_assoc, List.take_append_drop]
theorem shF_good (bs : List Int) (i : Nat) (h : Int) (k : Nat) : goodN k (shF bs k i h).1 := by
  have p := shF_perm bs i h k
  exact ⟨by rw [p.length_eq, List.length_range], fun x hx => List.mem_range.1 (p.mem_iff.1 hx), p.nodup_iff.2 List.nodup_range⟩
theorem shF_len (bs : List Int) (i : Nat) (h : Int) (k : Nat) : (shF bs k i h).1.length = k := by rw [(shF_perm bs i h k).length_eq, List.length_range]
theorem isV_iL (l : List Int) : ∀ p ∈ iL l, isV p = true := fun p hp => by
  obtain ⟨x, _, rfl⟩ := List.mem_map.1 hp
  rfl
theorem c_spec_l9Shuffle (bs : List Int) (hbs : bs.length ≤ 9223372036854775806) (n : Nat) (hn : n ≤ 6) : ACurX Tryz.prog 87 TC bs [int n] fun i h => (.fr 3 1 (iL (ofN (shF bs n i h).1)), (shF bs n i h).2) := by
  intro i h
  refine AG.goS (rs := [.tmp 4]) T_ok mixed Tryz.func87 rfl rfl rfl (by kernel_rfl) fun hl s hs hR => ?_
  have e0 : s.rw 1000000 = ⟨1, .box TC [.sl false 1 (kL .u8 bs), int i, int h]⟩ := by rw [hR]; rfl
  have e1 : s.rw 1000500 = ⟨0, .dead⟩ := by rw [hR]; rfl
  have elo : ∀ k, k < 1000000 → s.rw k = ⟨0, .dead⟩ := fun k hk => by rw [hR]; exact curR_lo hk
  refine semw_to T_ok mixed (by kernel_rfl) ?_
  simp (maxSteps:=5000000) -dsimp only [↓gp, gq, reduceCtorEq, reduceEqDiff, reduceLT, reduceLeDiff, reduceAdd, reduceMul, reduceSub, Nat.reduceBEq, Int.reduceToNat, Int.reduceLE, Int.reduceLT, Int.reduceNeg, reduceMod, sid_ne1, sid_ne2, sid_inj, sid_mod, gT, TK.isInt, TK.agg, Array.toList, hs, e0, elo]
  refine semw_to T_ok mixed (by kernel_rfl) ?_
  simp (maxSteps:=5000000) -dsimp only [↓gp, gq, reduceCtorEq, reduceEqDiff, reduceLT, reduceLeDiff, reduceAdd, reduceMul, reduceSub, Nat.reduceBEq, Int.reduceToNat, Int.reduceLE, Int.reduceLT, Int.reduceNeg, reduceMod, sid_ne1, sid_ne2, sid_inj, sid_mod, gT, TK.isInt, TK.agg, Array.toList, hs, e0, elo]
  refine semw_seq (semw_to T_ok mixed (by kernel_rfl) ?_)
  simp (maxSteps:=5000000) -dsimp only [↓gp, gq, reduceCtorEq, reduceEqDiff, reduceLT, reduceLeDiff, reduceAdd, reduceMul, reduceSub, Nat.reduceBEq, Int.reduceToNat, Int.reduceLE, Int.reduceLT, Int.reduceNeg, reduceMod, sid_ne1, sid_ne2, sid_inj, sid_mod, gT, TK.isInt, TK.agg, Array.toList, hs, e0, elo]
  refine semw_block (semw_loopk ?_)
  refine loop_of (fun (za : Nat × Nat) s => match za with | (k, v) => s.sl 0 = .ref 1000000 1 0 ∧ s.rw 1000000 = ⟨1, .box TC [.sl false 1 (kL .u8 bs), int (shF bs k i h).2.1, int (shF bs k i h).2.2]⟩ ∧ s.rw 1000500 = ⟨0, .dead⟩ ∧ s.sl 1 = int n ∧ s.sl 4 = .own 4 1 ∧ s.rw 4 = ⟨1, .sli 3 1 false []⟩ ∧ s.sl 5 = .own 9 v ∧ s.rw 9 = ⟨v, .sli 3 1 false (iL (ofN (shF bs k i h).1))⟩ ∧ s.sl 6 = int k ∧ (k ≤ n)) (fun (k, v) => n - k) ((0, 1)) (by refine ⟨?_, ?_, ?_, ?_, ?_, ?_, ?_, ?_, ?_, Nat.zero_le _⟩ <;> (first | (simp (maxSteps:=5000000) -dsimp only [gr, reduceEqDiff, reduceLT, reduceAdd, reduceMod, Nat.reduceBEq, sid_mod, sid_ne1, sid_ne2, sid_inj, hs, e0, e1, elo]; first | done | rfl | (simp; done)) | assumption | rfl)) ?_
  intro (k, v) sa ⟨h0a, r1000000a, r1000500a, h1a, h4a, r4a, h5a, r9a, h6a, hIa⟩
  refine semw_to T_ok mixed (by kernel_rfl) ?_
  simp (maxSteps:=5000000) -dsimp only [↓gp, gq, reduceCtorEq, reduceEqDiff, reduceLT, reduceLeDiff, reduceAdd, reduceMul, reduceSub, Nat.reduceBEq, Int.reduceToNat, Int.reduceLE, Int.reduceLT, Int.reduceNeg, reduceMod, sid_ne1, sid_ne2, sid_inj, sid_mod, gT, TK.isInt, TK.agg, Array.toList, h0a, r1000000a, r1000500a, h1a, h4a, r4a, h5a, r9a, h6a]
  have hlen := shF_len bs i h k
  have hsu : shF bs (k + 1) i h = shS bs k (shF bs k i h) := rfl
  refine ⟨fun hk => semw_seq (semw_block (semw_to T_ok mixed (by kernel_rfl) ?_)), fun hk => semw_of T_ok mixed (by kernel_rfl) ?_⟩
  · generalize shF bs k i h = q at *
    obtain ⟨L, j, g⟩ := q
    dsimp only at *
    have hw1 : IntKind.i64.wrap ((L.length : Int) + 1) = ((k + 1 : Nat) : Int) := by rw [wrap_id (by omega) (by omega)]; omega
    simp (maxSteps:=5000000) -dsimp only [↓gp, gq, reduceCtorEq, reduceEqDiff, reduceLT, reduceLeDiff, reduceAdd, reduceMul, reduceSub, Nat.reduceBEq, Int.reduceToNat, Int.reduceLE, Int.reduceLT, Int.reduceNeg, reduceMod, sid_ne1, sid_ne2, sid_inj, sid_mod, gT, TK.isInt, TK.agg, Array.toList, h0a, r1000000a, r1000500a, h1a, h4a, r4a, h5a, r9a, h6a, ofN_length, hw1]
    refine askF_of' (c_spec_l1BelowF bs hbs ((k + 1 : Nat) : Int) (by omega)) (plain_int _) (i := j) (h := g) (by simp (maxSteps:=5000000) -dsimp only [gr, reduceEqDiff, reduceLT, reduceAdd, reduceMod, Nat.reduceBEq, sid_mod, sid_ne1, sid_ne2, sid_inj, h0a, r1000000a, r1000500a, h1a, h4a, r4a, h5a, r9a, h6a] <;> rfl) rfl ?_
    obtain ⟨y, j3, g3, hr, hy⟩ := beF_at bs ((k + 1 : Nat) : Int) j g
    obtain ⟨m, rfl, hm⟩ := bel_nat (n := k + 1) (by omega) hy
    have hsv : shF bs (k + 1) i h = (L.take m ++ [k] ++ L.drop m, j3, g3) := by
      rw [hsu]; unfold shS
      have e : ((L.length : Int) + 1) = ((k + 1 : Nat) : Int) := by omega
      simp only [e, hr]
      rfl
    rw [hr]
    simp (maxSteps:=5000000) -dsimp only [↓gp, gq, reduceCtorEq, reduceEqDiff, reduceLT, reduceLeDiff, reduceAdd, reduceMul, reduceSub, Nat.reduceBEq, Int.reduceToNat, Int.reduceLE, Int.reduceLT, Int.reduceNeg, reduceMod, sid_ne1, sid_ne2, sid_inj, sid_mod, gT, TK.isInt, TK.agg, Array.toList, h0a, r1000000a, r1000500a, h1a, h4a, r4a, h5a, r9a, h6a]
    refine semw_seq (semw_region (lsemw_step T_ok rfl (fun d hd => by cases hd; decide) ?_))
    simp (maxSteps:=5000000) -dsimp only [↓gp, gq, reduceCtorEq, reduceEqDiff, reduceLT, reduceLeDiff, reduceAdd, reduceMul, reduceSub, Nat.reduceBEq, Int.reduceToNat, Int.reduceLE, Int.reduceLT, Int.reduceNeg, reduceMod, sid_ne1, sid_ne2, sid_inj, sid_mod, gT, TK.isInt, TK.agg, Array.toList, h0a, r1000000a, r1000500a, h1a, h4a, r4a, h5a, r9a, h6a]
    refine lsemw_step T_ok rfl (fun d hd => by cases hd; decide) ?_
    simp (maxSteps:=5000000) -dsimp only [↓gp, gq, reduceCtorEq, reduceEqDiff, reduceLT, reduceLeDiff, reduceAdd, reduceMul, reduceSub, Nat.reduceBEq, Int.reduceToNat, Int.reduceLE, Int.reduceLT, Int.reduceNeg, reduceMod, sid_ne1, sid_ne2, sid_inj, sid_mod, gT, TK.isInt, TK.agg, Array.toList, h0a, r1000000a, r1000500a, h1a, h4a, r4a, h5a, r9a, h6a]
    refine lsemw_step T_ok rfl (fun d hd => by cases hd; decide) ?_
    simp (maxSteps:=5000000) -dsimp only [↓gp, gq, reduceCtorEq, reduceEqDiff, reduceLT, reduceLeDiff, reduceAdd, reduceMul, reduceSub, Nat.reduceBEq, Int.reduceToNat, Int.reduceLE, Int.reduceLT, Int.reduceNeg, reduceMod, sid_ne1, sid_ne2, sid_inj, sid_mod, gT, TK.isInt, TK.agg, Array.toList, h0a, r1000000a, r1000500a, h1a, h4a, r4a, h5a, r9a, h6a]
    refine lsemw_peek (e := 3) (k := 9) (v := v) (j := 20) (kd := .i64) (m := (m : Int)) (c := iL (ofN L)) (c0 := []) T_ok rfl rfl rfl (by decide) rfl rfl rfl (by decide) (by decide) rfl (by decide) rfl (by decide)
      (by simp (maxSteps:=5000000) -dsimp only [gr, reduceEqDiff, reduceLT, reduceAdd, reduceMod, Nat.reduceBEq, sid_mod, sid_ne1, sid_ne2, sid_inj, h0a, r1000000a, r1000500a, h1a, h4a, r4a, h5a, r9a, h6a]) (by simp (maxSteps:=5000000) -dsimp only [gr, reduceEqDiff, reduceLT, reduceAdd, reduceMod, Nat.reduceBEq, sid_mod, sid_ne1, sid_ne2, sid_inj, h0a, r1000000a, r1000500a, h1a, h4a, r4a, h5a, r9a, h6a] <;> rfl) (isV_iL _) (by simp (maxSteps:=5000000) -dsimp only [gr, reduceEqDiff, reduceLT, reduceAdd, reduceMod, Nat.reduceBEq, sid_mod, sid_ne1, sid_ne2, sid_inj, h0a, r1000000a, r1000500a, h1a, h4a, r4a, h5a, r9a, h6a]) (by omega) (by simp [iL, ofN]; omega) (by simp (maxSteps:=5000000) -dsimp only [gr, reduceEqDiff, reduceLT, reduceAdd, reduceMod, Nat.reduceBEq, sid_mod, sid_ne1, sid_ne2, sid_inj, h0a, r1000000a, r1000500a, h1a, h4a, r4a, h5a, r9a, h6a] <;> rfl) (by simp (maxSteps:=5000000) -dsimp only [gr, reduceEqDiff, reduceLT, reduceAdd, reduceMod, Nat.reduceBEq, sid_mod, sid_ne1, sid_ne2, sid_inj, h0a, r1000000a, r1000500a, h1a, h4a, r4a, h5a, r9a, h6a] <;> rfl) ?_ (lsemw_step T_ok rfl (fun d hd => by cases hd; decide) ?_)
    · show (0 + ((iL (ofN L)).length - ((m : Int)).toNat)) * 8 ≤ _
      simp [iL, ofN]; omega
    simp (maxSteps:=5000000) -dsimp only [↓gp, gq, reduceCtorEq, reduceEqDiff, reduceLT, reduceLeDiff, reduceAdd, reduceMul, reduceSub, Nat.reduceBEq, Int.reduceToNat, Int.reduceLE, Int.reduceLT, Int.reduceNeg, reduceMod, sid_ne1, sid_ne2, sid_inj, sid_mod, gT, TK.isInt, TK.agg, Array.toList, h0a, r1000000a, r1000500a, h1a, h4a, r4a, h5a, r9a, h6a]
    refine lsemw_nil ?_
    simp (maxSteps:=5000000) -dsimp only [↓gp, gq, reduceCtorEq, reduceEqDiff, reduceLT, reduceLeDiff, reduceAdd, reduceMul, reduceSub, Nat.reduceBEq, Int.reduceToNat, Int.reduceLE, Int.reduceLT, Int.reduceNeg, reduceMod, sid_ne1, sid_ne2, sid_inj, sid_mod, gT, TK.isInt, TK.agg, Array.toList, h0a, r1000000a, r1000500a, h1a, h4a, r4a, h5a, r9a, h6a]
    refine semw_region (lsemw_step T_ok rfl (fun d hd => by cases hd; decide) ?_)
    simp (maxSteps:=5000000) -dsimp only [↓gp, gq, reduceCtorEq, reduceEqDiff, reduceLT, reduceLeDiff, reduceAdd, reduceMul, reduceSub, Nat.reduceBEq, Int.reduceToNat, Int.reduceLE, Int.reduceLT, Int.reduceNeg, reduceMod, sid_ne1, sid_ne2, sid_inj, sid_mod, gT, TK.isInt, TK.agg, Array.toList, h0a, r1000000a, r1000500a, h1a, h4a, r4a, h5a, r9a, h6a]
    refine lsemw_step T_ok rfl (fun d hd => by cases hd; decide) ?_
    simp (maxSteps:=5000000) -dsimp only [↓gp, gq, reduceCtorEq, reduceEqDiff, reduceLT, reduceLeDiff, reduceAdd, reduceMul, reduceSub, Nat.reduceBEq, Int.reduceToNat, Int.reduceLE, Int.reduceLT, Int.reduceNeg, reduceMod, sid_ne1, sid_ne2, sid_inj, sid_mod, gT, TK.isInt, TK.agg, Array.toList, h0a, r1000000a, r1000500a, h1a, h4a, r4a, h5a, r9a, h6a]
    refine lsemw_cut (e := 3) (k := 9) (v := v) (kd := .i64) (m := (m : Int)) (c := iL (ofN L)) T_ok rfl rfl rfl (by decide) (by decide) rfl (by decide) rfl (by simp (maxSteps:=5000000) -dsimp only [gr, reduceEqDiff, reduceLT, reduceAdd, reduceMod, Nat.reduceBEq, sid_mod, sid_ne1, sid_ne2, sid_inj, h0a, r1000000a, r1000500a, h1a, h4a, r4a, h5a, r9a, h6a]) (by simp (maxSteps:=5000000) -dsimp only [gr, reduceEqDiff, reduceLT, reduceAdd, reduceMod, Nat.reduceBEq, sid_mod, sid_ne1, sid_ne2, sid_inj, h0a, r1000000a, r1000500a, h1a, h4a, r4a, h5a, r9a, h6a] <;> rfl) (by simp (maxSteps:=5000000) -dsimp only [gr, reduceEqDiff, reduceLT, reduceAdd, reduceMod, Nat.reduceBEq, sid_mod, sid_ne1, sid_ne2, sid_inj, h0a, r1000000a, r1000500a, h1a, h4a, r4a, h5a, r9a, h6a]) (by omega) (by simp [iL, ofN]; omega) (lsemw_of T_ok (by kernel_rfl) ?_)
    simp (maxSteps:=5000000) -dsimp only [↓gp, gq, reduceCtorEq, reduceEqDiff, reduceLT, reduceLeDiff, reduceAdd, reduceMul, reduceSub, Nat.reduceBEq, Int.reduceToNat, Int.reduceLE, Int.reduceLT, Int.reduceNeg, reduceMod, sid_ne1, sid_ne2, sid_inj, sid_mod, gT, TK.isInt, TK.agg, Array.toList, h0a, r1000000a, r1000500a, h1a, h4a, r4a, h5a, r9a, h6a]
    have h1 : (List.take m (ofN L)).length ≤ k := by rw [List.length_take, ofN_length]; omega
    have h2 : (List.drop m (ofN L)).length ≤ k := by rw [List.length_drop, ofN_length]; omega
    have hins : ofN (L.take m ++ [k] ++ L.drop m) = (ofN L).take m ++ [(k : Int)] ++ (ofN L).drop m := by simp [ofN, List.map_take, List.map_drop]
    refine ⟨by omega, by rw [List.length_append, List.length_singleton]; omega, semw_of T_ok mixed (by kernel_rfl) ?_⟩
    simp (maxSteps:=5000000) -dsimp only [↓gp, gq, reduceCtorEq, reduceEqDiff, reduceLT, reduceLeDiff, reduceAdd, reduceMul, reduceSub, Nat.reduceBEq, Int.reduceToNat, Int.reduceLE, Int.reduceLT, Int.reduceNeg, reduceMod, sid_ne1, sid_ne2, sid_inj, sid_mod, gT, TK.isInt, TK.agg, Array.toList, h0a, r1000000a, r1000500a, h1a, h4a, r4a, h5a, r9a, h6a]
    exact again_of ((k + 1, v + 3)) (by refine ⟨?_, ?_, ?_, ?_, ?_, ?_, ?_, ?_, ?_, by dsimp only; omega⟩ <;> (first | (simp (maxSteps:=5000000) -dsimp only [gr, reduceEqDiff, reduceLT, reduceAdd, reduceMod, Nat.reduceBEq, sid_mod, sid_ne1, sid_ne2, sid_inj, h0a, r1000000a, r1000500a, h1a, h4a, r4a, h5a, r9a, h6a, hsv, hins, wrap_nat hk (by omega)]; first | done | rfl | (simp; done)) | assumption | rfl)) (by first | omega | (simp only; omega) | (dsimp only; omega) | (show _ < _; simp; omega))
  · have hk : k = n := by omega
    subst hk
    simp (maxSteps:=5000000) -dsimp only [↓gp, gq, reduceCtorEq, reduceEqDiff, reduceLT, reduceLeDiff, reduceAdd, reduceMul, reduceSub, Nat.reduceBEq, Int.reduceToNat, Int.reduceLE, Int.reduceLT, Int.reduceNeg, reduceMod, sid_ne1, sid_ne2, sid_inj, sid_mod, gT, TK.isInt, TK.agg, Array.toList, h0a, r1000000a, r1000500a, h1a, h4a, r4a, h5a, r9a, h6a]
    exact ⟨⟨_, .one (.lf (.fr (by simp (maxSteps:=5000000) -dsimp only [gr, reduceEqDiff, reduceLT, reduceAdd, reduceMod, Nat.reduceBEq, sid_mod, sid_ne1, sid_ne2, sid_inj, h0a, r1000000a, r1000500a, h1a, h4a, r4a, h5a, r9a, h6a] <;> rfl) (by decide))), by simp⟩, by simp (maxSteps:=5000000) -dsimp only [gr, reduceEqDiff, reduceLT, reduceAdd, reduceMod, Nat.reduceBEq, sid_mod, sid_ne1, sid_ne2, sid_inj, h0a, r1000000a, r1000500a, h1a, h4a, r4a, h5a, r9a, h6a] <;> rfl, by simp (maxSteps:=5000000) -dsimp only [gr, reduceEqDiff, reduceLT, reduceAdd, reduceMod, Nat.reduceBEq, sid_mod, sid_ne1, sid_ne2, sid_inj, h0a, r1000000a, r1000500a, h1a, h4a, r4a, h5a, r9a, h6a]⟩
noncomputable def bestL (fs : List Nat) (N : List (List Nat)) (b : List Int) : List Int := N.foldl (fun b ns => if lessL (cvL fs ns) b then cvL fs ns else b) b
theorem bestL_snoc (fs : List Nat) (N : List (List Nat)) (ns : List Nat) (b : List Int) : bestL fs (N ++ [ns]) b = if lessL (cvL fs ns) (bestL fs N b) then cvL fs ns else bestL fs N b := by
  unfold bestL; rw [List.foldl_append]; rfl
noncomputable def canR (n : Int) (xs : List Int) : List Int := if isCx n xs = true then bestL (xs.map Int.toNat) (namL n.toNat n.toNat []) xs else []
def canP (n : Int) (xs : List Int) (b : Bool) : Int := if b then n else 0
theorem cx_nat {n : Int} {xs : List Int} (h : isCx n xs = true) : ∃ (m : Nat) (fs : List Nat), n = m ∧ 1 ≤ m ∧ m ≤ 6 ∧ xs = ofN fs ∧ xs.map Int.toNat = fs ∧ (∀ x ∈ fs, x < 2 ^ m) ∧ fs.length ≤ 64 ∧ fs.Nodup := by
  obtain ⟨h1, h6, _⟩ := isCx_iff.1 h
  have hok := cx_ok h
  have e0 : ofN (xs.map Int.toNat) = xs := by
    unfold ofN
    rw [List.map_map]
    have : ∀ x ∈ xs, ((fun s : Nat => (s : Int)) ∘ Int.toNat) x = id x := fun x hx => by
      have := hok x hx
      show ((x.toNat : Nat) : Int) = x
      omega
    rw [List.map_congr_left this, List.map_id]
  have hp := isCx_iff.1 h
  have hnd : (xs.map Int.toNat).Nodup := by
    refine List.pairwise_map.2 (List.Pairwise.imp_of_mem (fun {a b} ha hb hne e => hne ?_) (cx_nodup hp))
    have := hok a ha; have := hok b hb; omega
  refine ⟨n.toNat, xs.map Int.toNat, by omega, by omega, by omega, e0.symm, rfl, fun x hx => ?_, by rw [List.length_map]; exact cx_len h, hnd⟩
  obtain ⟨y, hy, rfl⟩ := List.mem_map.1 hx
  obtain ⟨k, hk, rfl⟩ := List.getElem_of_mem hy
  have hs := (hp.2.2 k hk).1
  rw [getD_at 0 hk] at hs
  obtain ⟨m, t, e1, e2, e3, e4⟩ := inSet_nat hs
  rw [e2, show n.toNat = m by omega]
  simpa using e4
theorem c_spec_CanonicalComplex (n : Int) (xs : List Int) : AC Tryz.prog 91 [.ag [int n, ints xs]] (.tup [.ag [.im (int (canP n xs (isCx n xs))), .fr 3 1 (iL (canR n xs))], .im (bool (isCx n xs))]) := by
  refine AC.go (rs := [.cell 2 27, .tmp 3]) T_ok mixed Tryz.func91 rfl rfl rfl (by kernel_rfl) fun hl => ?_
  simp only [lens_cons, lens_nil, and_true, lens2_ag2, lens1_v, lens1_iL, true_and] at hl
  simp (maxSteps:=5000000) -dsimp only [↓gp, gq, reduceCtorEq, reduceEqDiff, reduceLT, reduceLeDiff, reduceAdd, reduceMul, reduceSub, Nat.reduceBEq, Int.reduceToNat, Int.reduceLE, Int.reduceLT, Int.reduceNeg, reduceMod, sid_ne1, sid_ne2, sid_inj, sid_mod, gT, TK.isInt, TK.agg, Array.toList]
  refine askK_of (c_spec_IsComplex n xs) ?_
  simp (maxSteps:=5000000) -dsimp only [↓gp, gq, reduceCtorEq, reduceEqDiff, reduceLT, reduceLeDiff, reduceAdd, reduceMul, reduceSub, Nat.reduceBEq, Int.reduceToNat, Int.reduceLE, Int.reduceLT, Int.reduceNeg, reduceMod, sid_ne1, sid_ne2, sid_inj, sid_mod, gT, TK.isInt, TK.agg, Array.toList]
  refine ⟨fun hh => ?_, fun hh => ?_⟩
  · have hh : isCx n xs = false := by simpa using hh
    have : canR n xs = [] := by unfold canR; rw [if_neg (by rw [hh]; decide)]
    rw [hh, this]
    exact ⟨rfl, rfl, rfl⟩
  · have hh : isCx n xs = true := by simpa using hh
    obtain ⟨m, fs, rfl, hm1, hm6, hxs, hfs, hf, hfl, hnd⟩ := cx_nat hh
    have hcan : canR (m : Int) xs = bestL fs (namL m m []) xs := by unfold canR; rw [if_pos hh, hfs]; rfl
    have hcp : canP (m : Int) xs true = (m : Int) := if_pos rfl
    rw [hcan, hh, hcp]
    subst hxs
    have hxl := cx_len hh
    refine askK_of (c_spec_l3CopyB _ (ofN fs) (by omega)) ?_
    simp (maxSteps:=5000000) -dsimp only [↓gp, gq, reduceCtorEq, reduceEqDiff, reduceLT, reduceLeDiff, reduceAdd, reduceMul, reduceSub, Nat.reduceBEq, Int.reduceToNat, Int.reduceLE, Int.reduceLT, Int.reduceNeg, reduceMod, sid_ne1, sid_ne2, sid_inj, sid_mod, gT, TK.isInt, TK.agg, Array.toList]
    have hnl := namL_len m (by omega)
    have hc := c_l9All (m - 1) [] [] (by simp; omega) (by
      have e : ([] : List Nat).length + 1 + (m - 1) = m := by simp; omega
      rw [e, show m - 1 + 1 = m by omega]; simp; omega)
    have e : ([] : List Nat).length + 1 + (m - 1) = m := by simp; omega
    rw [e, show m - 1 + 1 = m by omega, List.nil_append] at hc
    have hgood : ∀ ns ∈ namL m m [], goodN m ns := fun ns h => namL_good h
    generalize namL m m [] = N at *
    refine askGrow_of (d := 18) (k := 17) (v := 1) (M := []) hc (fun j => j = 16) ?_ ⟨.inr ⟨rfl, by simp (maxSteps:=5000000) -dsimp only [gr, reduceEqDiff, reduceLT, reduceAdd, reduceMod, Nat.reduceBEq, sid_mod, sid_ne1, sid_ne2, sid_inj]⟩, rfl, fun j hj => absurd hj (by simp), fun j _ => by simp (maxSteps:=5000000) -dsimp only [gr, reduceEqDiff, reduceLT, reduceAdd, reduceMod, Nat.reduceBEq, sid_mod, sid_ne1, sid_ne2, sid_inj]⟩ (fun j hj => by subst hj; rfl) fun S v' hv hS hSd hSs hSr => ?_
    · exact .one (.v _) (.one (.lent (e := 3) (fz := false) rfl (by simp (maxSteps:=5000000) -dsimp only [gr, reduceEqDiff, reduceLT, reduceAdd, reduceMod, Nat.reduceBEq, sid_mod, sid_ne1, sid_ne2, sid_inj]; rfl)) (.one (gv_top (by simp (maxSteps:=5000000) -dsimp only [gr, reduceEqDiff, reduceLT, reduceAdd, reduceMod, Nat.reduceBEq, sid_mod, sid_ne1, sid_ne2, sid_inj])) .nil))
    · have u1 : S.sl 1 = .ref 1 1 0 := by rw [hSs 1 (by decide)]; simp (maxSteps:=5000000) -dsimp only [gr, reduceEqDiff, reduceLT, reduceAdd, reduceMod, Nat.reduceBEq, sid_mod, sid_ne1, sid_ne2, sid_inj]
      have u2 : S.sl 2 = .ref 2 1 0 := by rw [hSs 2 (by decide)]; simp (maxSteps:=5000000) -dsimp only [gr, reduceEqDiff, reduceLT, reduceAdd, reduceMod, Nat.reduceBEq, sid_mod, sid_ne1, sid_ne2, sid_inj]
      have u4 : S.sl 4 = .ref 4 1 0 := by rw [hSs 4 (by decide)]; simp (maxSteps:=5000000) -dsimp only [gr, reduceEqDiff, reduceLT, reduceAdd, reduceMod, Nat.reduceBEq, sid_mod, sid_ne1, sid_ne2, sid_inj]
      have w1 : S.rw 1 = ⟨1, .box 27 [int m, ints (ofN fs)]⟩ := by rw [hSr 1 (by decide)]; simp (maxSteps:=5000000) -dsimp only [gr, reduceEqDiff, reduceLT, reduceAdd, reduceMod, Nat.reduceBEq, sid_mod, sid_ne1, sid_ne2, sid_inj]
      have w2 : S.rw 2 = ⟨1, .box 27 [int 0, .v (.slice none 0 0)]⟩ := by rw [hSr 2 (by decide)]; simp (maxSteps:=5000000) -dsimp only [gr, reduceEqDiff, reduceLT, reduceAdd, reduceMod, Nat.reduceBEq, sid_mod, sid_ne1, sid_ne2, sid_inj]
      have w4 : S.rw 4 = ⟨1, .box 27 [int m, .own 13 1]⟩ := by rw [hSr 4 (by decide)]; simp (maxSteps:=5000000) -dsimp only [gr, reduceEqDiff, reduceLT, reduceAdd, reduceMod, Nat.reduceBEq, sid_mod, sid_ne1, sid_ne2, sid_inj]
      have w13 : S.rw 13 = ⟨1, .sli 3 1 false (iL (ofN fs))⟩ := by rw [hSr 13 (by decide)]; simp (maxSteps:=5000000) -dsimp only [gr, reduceEqDiff, reduceLT, reduceAdd, reduceMod, Nat.reduceBEq, sid_mod, sid_ne1, sid_ne2, sid_inj]
      have w900 : S.rw 900 = ⟨0, .dead⟩ := by rw [hSr 900 (by decide)]; simp (maxSteps:=5000000) -dsimp only [gr, reduceEqDiff, reduceLT, reduceAdd, reduceMod, Nat.reduceBEq, sid_mod, sid_ne1, sid_ne2, sid_inj]
      clear hSs hSr
      have hml : (N.map ofN).length = N.length := by simp
      simp (maxSteps:=5000000) -dsimp only [↓gp, gq, reduceCtorEq, reduceEqDiff, reduceLT, reduceLeDiff, reduceAdd, reduceMul, reduceSub, Nat.reduceBEq, Int.reduceToNat, Int.reduceLE, Int.reduceLT, Int.reduceNeg, reduceMod, sid_ne1, sid_ne2, sid_inj, sid_mod, gT, TK.isInt, TK.agg, Array.toList, hSd, u1, u2, u4, w1, w2, w4]
      refine loop_mvb (j := 13) (v := 1) (e := 3) (sz := 1) (c := iL (ofN fs)) (b := 4) (vb := 1) (tb := 27) (cb := [int m, .own 13 1]) (cb' := [int m, .own 900 1]) (o := 1) (by simp (maxSteps:=5000000) -dsimp only [gr, reduceEqDiff, reduceLT, reduceAdd, reduceMod, Nat.reduceBEq, sid_mod, sid_ne1, sid_ne2, sid_inj, w13]) (by simp (maxSteps:=5000000) -dsimp only [gr, reduceEqDiff, reduceLT, reduceAdd, reduceMod, Nat.reduceBEq, sid_mod, sid_ne1, sid_ne2, sid_inj, w4]) rfl 900 1 (by simp (maxSteps:=5000000) -dsimp only [gr, reduceEqDiff, reduceLT, reduceAdd, reduceMod, Nat.reduceBEq, sid_mod, sid_ne1, sid_ne2, sid_inj, w900]) rfl (by decide) rfl rfl rfl (fun (za : Nat × Nat) s => match za with | (k, u) => s.sl 1 = .ref 1 1 0 ∧ s.rw 1 = ⟨1, .box 27 [int m, ints (ofN fs)]⟩ ∧ s.sl 2 = .ref 2 1 0 ∧ s.rw 2 = ⟨1, .box 27 [int 0, .v (.slice none 0 0)]⟩ ∧ s.sl 4 = .ref 4 1 0 ∧ s.rw 4 = ⟨1, .box 27 [int m, .own 900 u]⟩ ∧ s.rw 900 = ⟨u, .sli 3 1 false (iL (bestL fs (N.take k) (ofN fs)))⟩ ∧ s.sl 5 = .own 17 v' ∧ s.sl 6 = int k ∧ (1 ≤ u ∧ k ≤ N.length ∧ TabG s.rw 17 v' 25 3 (N.map ofN).length (N.map ofN))) (fun (k, u) => N.length - k) ((0, 1)) (fun sX htX hslX hoX => (by refine ⟨?_, ?_, ?_, ?_, ?_, ?_, ?_, ?_, ?_, ⟨by decide, by simp, hS.same (by simp (maxSteps:=5000000) -dsimp only [gr, reduceEqDiff, reduceLT, reduceAdd, reduceMod, Nat.reduceBEq, sid_mod, sid_ne1, sid_ne2, sid_inj, hoX]) (fun x => by simp (maxSteps:=5000000) -dsimp only [gr, reduceEqDiff, reduceLT, reduceAdd, reduceMod, Nat.reduceBEq, sid_mod, sid_ne1, sid_ne2, sid_inj, hoX])⟩⟩ <;> (first | (simp (maxSteps:=5000000) -dsimp only [gr, reduceEqDiff, reduceLT, reduceAdd, reduceMod, Nat.reduceBEq, sid_mod, sid_ne1, sid_ne2, sid_inj, hslX, hoX, hSd, u1, u2, u4, w1, w2, htX.1, htX.2]; first | done | rfl | (simp; done)) | assumption | rfl))) ?_
      intro (k, u) sa ⟨h1a, r1a, h2a, r2a, h4a, r4a, r900a, h5a, h6a, hIa⟩
      obtain ⟨hu, hk, hta⟩ := hIa
      have hxl2 : (N.map ofN).length = N.length := by simp
      simp (maxSteps:=5000000) -dsimp only [↓gp, gq, reduceCtorEq, reduceEqDiff, reduceLT, reduceLeDiff, reduceAdd, reduceMul, reduceSub, Nat.reduceBEq, Int.reduceToNat, Int.reduceLE, Int.reduceLT, Int.reduceNeg, reduceMod, sid_ne1, sid_ne2, sid_inj, sid_mod, gT, TK.isInt, TK.agg, Array.toList, h1a, r1a, h2a, r2a, h4a, r4a, r900a, h5a, h6a, hta.top, cellsT_length, List.length_range]
      by_cases h : k < N.length
      · have hN : k < (N.map ofN).length := by omega
        have hmem : N.getD k [] ∈ N := getD_mem [] h
        have hg := hgood _ hmem
        have hgd : (N.map ofN).getD k [] = ofN (N.getD k []) := by simp [List.getD, h]
        have hr := hta.row k hN
        rw [hgd] at hr
        refine ⟨fun h1 => ?_, fun h1 => absurd hN h1⟩
        rw [rangeG hN, hr]
        refine ⟨by kernel_rfl, hN, hN, ?_⟩
        simp (maxSteps:=5000000) -dsimp only [↓gp, gq, reduceCtorEq, reduceEqDiff, reduceLT, reduceLeDiff, reduceAdd, reduceMul, reduceSub, Nat.reduceBEq, Int.reduceToNat, Int.reduceLE, Int.reduceLT, Int.reduceNeg, reduceMod, sid_ne1, sid_ne2, sid_inj, sid_mod, gT, TK.isInt, TK.agg, Array.toList, hr]
        refine askK_of (c_spec_l9Complex (m : Int) fs (N.getD k []) (fun x hx => Nat.lt_of_lt_of_le (hf x hx) (Nat.pow_le_pow_right (n := 2) (i := m) (j := 6) (by omega) hm6)) hfl hm6 hg) ?_
        simp (maxSteps:=5000000) -dsimp only [↓gp, gq, reduceCtorEq, reduceEqDiff, reduceLT, reduceLeDiff, reduceAdd, reduceMul, reduceSub, Nat.reduceBEq, Int.reduceToNat, Int.reduceLE, Int.reduceLT, Int.reduceNeg, reduceMod, sid_ne1, sid_ne2, sid_inj, sid_mod, gT, TK.isInt, TK.agg, Array.toList, h1a, r1a, h2a, r2a, h4a, r4a, r900a, h5a, h6a]
        refine ⟨by kernel_rfl, askK_of (c_spec_l9Less _ _) ?_⟩
        have hsn := bestL_snoc fs (N.take k) (N.getD k []) (ofN fs)
        rw [← take_snoc [] h] at hsn
        simp (maxSteps:=5000000) -dsimp only [↓gp, gq, reduceCtorEq, reduceEqDiff, reduceLT, reduceLeDiff, reduceAdd, reduceMul, reduceSub, Nat.reduceBEq, Int.reduceToNat, Int.reduceLE, Int.reduceLT, Int.reduceNeg, reduceMod, sid_ne1, sid_ne2, sid_inj, sid_mod, gT, TK.isInt, TK.agg, Array.toList, h1a, r1a, h2a, r2a, h4a, r4a, r900a, h5a, h6a]
        refine ⟨fun hle => ?_, fun hle => ?_⟩
        · rw [if_pos hle] at hsn
          exact again_mvb (j := 30) (v := (sa.rw 30).ver + 1) (e := 3) (sz := 1) (c := iL (cvL fs (N.getD k []))) (b := 4) (vb := 1) (tb := 27) (cb := [int m, .own 30 ((sa.rw 30).ver + 1)]) (cb' := [int m, .own 900 (u + 1)]) (o := 1) (by simp (maxSteps:=5000000) -dsimp only [gr, reduceEqDiff, reduceLT, reduceAdd, reduceMod, Nat.reduceBEq, sid_mod, sid_ne1, sid_ne2, sid_inj]) (by simp (maxSteps:=5000000) -dsimp only [gr, reduceEqDiff, reduceLT, reduceAdd, reduceMod, Nat.reduceBEq, sid_mod, sid_ne1, sid_ne2, sid_inj]) rfl 900 (u + 1) (by simp (maxSteps:=5000000) -dsimp only [gr, reduceEqDiff, reduceLT, reduceAdd, reduceMod, Nat.reduceBEq, sid_mod, sid_ne1, sid_ne2, sid_inj, h1a, r1a, h2a, r2a, h4a, r4a, r900a, h5a, h6a]; exact Nat.lt_succ_self _) rfl (by decide) rfl rfl rfl ((k + 1, u + 1)) (fun sX htX hslX hoX => (by refine ⟨?_, ?_, ?_, ?_, ?_, ?_, ?_, ?_, ?_, ⟨by omega, by dsimp only; omega, hta.same (by simp (maxSteps:=5000000) -dsimp only [gr, reduceEqDiff, reduceLT, reduceAdd, reduceMod, Nat.reduceBEq, sid_mod, sid_ne1, sid_ne2, sid_inj, hoX]) (fun x => by simp (maxSteps:=5000000) -dsimp only [gr, reduceEqDiff, reduceLT, reduceAdd, reduceMod, Nat.reduceBEq, sid_mod, sid_ne1, sid_ne2, sid_inj, hoX])⟩⟩ <;> (first | (simp (maxSteps:=5000000) -dsimp only [gr, reduceEqDiff, reduceLT, reduceAdd, reduceMod, Nat.reduceBEq, sid_mod, sid_ne1, sid_ne2, sid_inj, hslX, hoX, h1a, r1a, h2a, r2a, h4a, r4a, r900a, h5a, h6a, htX.1, htX.2, hsn, wrap_nat h (by omega)]; first | done | rfl | (simp; done)) | assumption | rfl))) (by first | omega | (simp only; omega) | (dsimp only; omega) | (show _ < _; simp; omega))
        · rw [if_neg (by rw [hle]; decide)] at hsn
          exact again_of ((k + 1, u)) (by refine ⟨?_, ?_, ?_, ?_, ?_, ?_, ?_, ?_, ?_, ⟨hu, by dsimp only; omega, hta.same (by simp (maxSteps:=5000000) -dsimp only [gr, reduceEqDiff, reduceLT, reduceAdd, reduceMod, Nat.reduceBEq, sid_mod, sid_ne1, sid_ne2, sid_inj]) (fun x => by simp (maxSteps:=5000000) -dsimp only [gr, reduceEqDiff, reduceLT, reduceAdd, reduceMod, Nat.reduceBEq, sid_mod, sid_ne1, sid_ne2, sid_inj])⟩⟩ <;> (first | (simp (maxSteps:=5000000) -dsimp only [gr, reduceEqDiff, reduceLT, reduceAdd, reduceMod, Nat.reduceBEq, sid_mod, sid_ne1, sid_ne2, sid_inj, h1a, r1a, h2a, r2a, h4a, r4a, r900a, h5a, h6a, hsn, wrap_nat h (by omega)]; first | done | rfl | (simp; done)) | assumption | rfl)) (by first | omega | (simp only; omega) | (dsimp only; omega) | (show _ < _; simp; omega))
      · refine ⟨fun h1 => absurd (hxl2 ▸ h1) h, fun _ => ?_⟩
        have : k = N.length := by omega
        rw [this, List.take_length]
end Go.Proofs.YtpnknaaehcljoaaGreat

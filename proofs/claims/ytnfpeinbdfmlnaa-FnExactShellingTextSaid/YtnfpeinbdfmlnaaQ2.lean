/- DERIVED by an AI agent. -/
import Derived.Test.YtnfpeinbdfmlnaaQ1
import Derived.Test.YtnfpeinbdfmlnaaP1
import Derived.Test.YtnfpeinbdfmlnaaA16
namespace Go.Proofs.Ytnfpeinbdfmlnaa
open Go.Abs
set_option linter.unusedSimpArgs false
set_option linter.unusedVariables false

/-- The cells of a search. -/
def oC (items : List Int) (f : FuncId) (fl : List Bool) (p : PV) : List PV := .sl false 1 (iL items) :: .clo f [] :: (bL fl ++ [p])
section
variable {items : List Int} {f : FuncId} {fl : List Bool} {p : PV} {Kp : PV → Prop}
theorem oC_len (h : fl.length = 256) : (oC items f fl p).length = 259 := by simp [oC, bL, h]
theorem ld_oC0 {t : TypeId} (h0 : (T t).k.agg = false) (h1 : 0 < (T t).size) : ldK T t .asis (oC items f fl p) 0 Kp = Kp (.sl false 1 (iL items)) := by simp [ldK, h0, h1, oC, Md.fix]
theorem ld_oC1 {t : TypeId} (h0 : (T t).k.agg = false) (h1 : 0 < (T t).size) : ldK T t .asis (oC items f fl p) 1 Kp = Kp (.clo f []) := by simp [ldK, h0, h1, oC, Md.fix]
theorem ld_oCf {t : TypeId} (n : Nat) (h : fl.length = 256) (hn : n < 256) (h0 : (T t).k.agg = false) (h1 : 0 < (T t).size) : ldK T t .asis (oC items f fl p) (2 + n) Kp = Kp (.v (.bool (fl.getD n false))) := by
  have e : (oC items f fl p).getD (2 + n) .junk = .v (.bool (fl.getD n false)) := by
    have h2 : n < (bL fl).length := by simp [bL, h, hn]
    simp only [oC, List.getD, show 2 + n = n + 1 + 1 by omega, List.getElem?_cons_succ]
    rw [List.getElem?_append_left h2]
    simp [bL, h, hn]
  have hl := oC_len (items := items) (f := f) (p := p) h
  simp only [ldK, h0, h1, hl, true_and]
  rw [e]
  simp [Md.fix]; omega
theorem ld_oCl {t : TypeId} (h : fl.length = 256) (h0 : (T t).k.agg = false) (h1 : 0 < (T t).size) : ldK T t .asis (oC items f fl p) 258 Kp = Kp p := by
  have e : (oC items f fl p).getD 258 .junk = p := by
    have h2 : (bL fl).length = 256 := by simp [bL, h]
    simp only [oC, List.getD, show 258 = 256 + 1 + 1 by omega, List.getElem?_cons_succ]
    rw [List.getElem?_append_right (by omega), h2]
    simp
  have hl := oC_len (items := items) (f := f) (p := p) h
  simp only [ldK, h0, h1, hl, true_and]
  rw [e]
  simp [Md.fix]
theorem spl_oCl (h : fl.length = 256) (q : PV) : spl (oC items f fl p) 258 [q] = oC items f fl q := by
  have h2 : (bL fl).length = 256 := by simp [bL, h]
  show (oC items f fl p).set 258 q = _
  simp only [oC, show 258 = 256 + 1 + 1 by omega, List.set_cons_succ]
  rw [List.set_append_right _ _ (by omega), h2]
  simp
theorem spl_oCf (n : Nat) (h : fl.length = 256) (hn : n < 256) (b : Bool) : spl (oC items f fl p) (2 + n) [.v (.bool b)] = oC items f (fl.set n b) p := by
  have h2 : n < (bL fl).length := by simp [bL, h, hn]
  show (oC items f fl p).set (2 + n) (.v (.bool b)) = _
  simp only [oC, show 2 + n = n + 1 + 1 by omega, List.set_cons_succ]
  rw [List.set_append_left _ _ h2]
  simp [bL, List.map_set]
end

def oR (b : Bool) (items : List Int) (f : FuncId) (fl : List Bool) (list : List Int) (k : Nat) : Row :=
  if k = 1000000 then ⟨1, .box 127 (oC items f fl (if b = true then .v (.slice none 0 0) else .own 1000001 1))⟩ else if k = 1000001 ∧ b = false then ⟨1, .sli 3 1 false (iL list)⟩ else ⟨0, .dead⟩
def oPost (ft : List Int → Int → Bool) (items : List Int) (f : FuncId) (n : Nat) (list : List Int) (R1 : Nat → Row) (p : PV) : Prop :=
  ∃ fl v, fl.length = 256 ∧ InvF ft items (fun u => fl.getD u false) ∧ p = bool (findF ft items n list).isSome ∧ R1 1000000 = ⟨1, .box 127 (oC items f fl (.own 1000001 v))⟩ ∧ R1 1000001 = ⟨v, .sli 3 1 false (iL ((findF ft items n list).getD list))⟩
theorem fitsT_s : (T 103).size = 1 := by decide +kernel
theorem fitsT_k : (T 103).k = .other := by first | rfl | decide +kernel
theorem bit_of : ∀ u, u < 256 → ∀ k, k < 8 → (iand .i64 (ishr .i64 (u : Nat) (k : Nat)) 1 == 1) = Nat.testBit u k := by decide +kernel
theorem bit_or : ∀ u, u < 256 → ∀ k, k < 8 → ior .i64 (u : Nat) (ishl .i64 1 (k : Nat)) = ((u ||| 2 ^ k : Nat) : Int) := by decide +kernel
theorem complete_start {items : List Int} {f : FuncId} {fl : List Bool} {list : List Int} (b : Bool) (hf : fl.length = 256) (hb : b = true → list = []) {s : St} (hr : ∀ k, s.rw k = oR b items f fl list k) :
    ∃ s', Wk s s' ∧ s'.sl = s.sl ∧ s'.rw 1000000 = ⟨1, .box 127 (oC items f fl (.own 1000001 1))⟩ ∧ s'.rw 1000001 = ⟨1, .sli 3 1 false (iL list)⟩ ∧ ∀ k, k < 1000000 → s'.rw k = ⟨0, .dead⟩ := by
  cases b with
  | false => exact ⟨s, Wk.refl s, rfl, by rw [hr]; rfl, by rw [hr]; rfl, fun k hk => by rw [hr]; unfold oR; rw [if_neg (by omega), if_neg (by omega)]⟩
  | true =>
    have hl := hb rfl
    subst hl
    have h0 : s.rw 1000000 = ⟨1, .box 127 (oC items f fl (.v (.slice none 0 0)))⟩ := by rw [hr]; rfl
    have h1 : s.rw 1000001 = ⟨0, .dead⟩ := by rw [hr]; rfl
    have ho : (oC items f fl (.v (.slice none 0 0)))[258]? = some (.v (.slice none 0 0)) := by
      have h2 : (bL fl).length = 256 := by simp [bL, hf]
      simp only [oC, show 258 = 256 + 1 + 1 by omega, List.getElem?_cons_succ]
      rw [List.getElem?_append_right (by omega), h2]; rfl
    have hw := Wk.nilBox 1000001 3 h0 ho (by decide)
    rw [h1] at hw
    have e : (oC items f fl (.v (.slice none 0 0))).set 258 (.own 1000001 (0 + 1)) = oC items f fl (.own 1000001 1) := spl_oCl hf _
    rw [e] at hw
    refine ⟨_, hw, rfl, by rw [row_rw_same], by rw [row_rw_ne _ _ _ _ (by decide), row_rw_same]; rfl, fun k hk => ?_⟩
    rw [row_rw_ne _ _ _ _ (by omega), row_rw_ne _ _ _ _ (by omega), hr]; unfold oR; rw [if_neg (by omega), if_neg (by omega)]
theorem gvL_bL {rho : Nat → Option Nat} {Ln : Nat → Prop} {R0 R : Nat → Row} {l l' : List PV} (h : GvL rho Ln R0 R l l') : ∀ fl : List Bool, GvL rho Ln R0 R (bL fl ++ l) (bL fl ++ l') := by
  intro fl
  induction fl with
  | nil => exact h
  | cons b fl ih => exact .one (.v _) ih
theorem map_oC {rho : Nat → Option Nat} {R1 : Nat → Row} {nv : Nat → Nat} {items : List Int} {f : FuncId} {fl : List Bool} {j v : Nat} {nl : Bool} (h1 : rho 1000001 = some j) (h2 : (R1 1000001).ver = v) :
    (oC items f fl (.own 1000001 v)).map (ren1 rho R1 nv nl) = (match nl with | true => oC items f fl (.own j (nv 1000001)) | false => .junk :: (oC items f fl (.own j (nv 1000001))).tail) := by
  have hb : (bL fl).map (ren1 rho R1 nv nl) = bL fl := by
    unfold bL; rw [List.map_map]; exact List.map_congr_left fun x _ => rfl
  have hp : ren1 rho R1 nv nl (.own 1000001 v) = .own j (nv 1000001) := by
    show renA rho R1 nv nl (.own 1000001 v) = _
    rw [renA_own, h1, h2, beq_self_eq_true]
  unfold oC
  rw [List.map_cons, List.map_cons, List.map_append, hb, List.map_singleton, hp]
  cases nl <;> rfl
def rhoO (k : Nat) : Option Nat := if k = 1000000 ∨ k = 1000001 then some k else none
theorem rhoO_some {k j : Nat} (h : rhoO k = some j) : k = j ∧ (k = 1000000 ∨ k = 1000001) := by
  unfold rhoO at h
  by_cases hk : k = 1000000 ∨ k = 1000001
  · rw [if_pos hk] at h; exact ⟨Option.some.inj h, hk⟩
  · rw [if_neg hk] at h; cases h
theorem oR_nd {items : List Int} {f : FuncId} {fl : List Bool} {list : List Int} {k : Nat} (h : (oR false items f fl list k).kind.nd = true) : k = 1000000 ∨ k = 1000001 := by
  unfold oR at h
  by_cases h0 : k = 1000000
  · exact .inl h0
  · rw [if_neg h0] at h
    by_cases h1 : k = 1000001 ∧ false = false
    · exact .inr h1.1
    · rw [if_neg h1] at h; cases h
theorem askO_of {s : St} {K : St → Prop} {g f : FuncId} {ft : List Int → Int → Bool} {items list : List Int} {fl : List Bool} {n d v : Nat} {u : Int} {lent : List PV} {Ka : RV → Prop} {us : Dm s} {uu : Dm K}
    (h : AG Try.prog g [.ref 1000000 1 0, int u] (oR false items f fl list) (oPost ft items f n list)) (hb : s.rw 1000000 = ⟨1, .box 127 (oC items f fl (.own 1000001 v))⟩) (hl : s.rw 1000001 = ⟨v, .sli 3 1 false (iL list)⟩)
    (hk : ∀ (S : St) (fl' : List Bool) (v' : Nat), fl'.length = 256 → InvF ft items (fun u => fl'.getD u false) → S.sl d = bool (findF ft items n list).isSome → (∀ t, t ≠ d → S.sl t = s.sl t) →
      S.rw 1000000 = ⟨1, .box 127 (oC items f fl' (.own 1000001 v'))⟩ → S.rw 1000001 = ⟨v', .sli 3 1 false (iL ((findF ft items n list).getD list))⟩ → (∀ i, i ≠ 1000000 → i ≠ 1000001 → S.rw i = s.rw i) → K S) :
    askK Try.prog g lent Ka (askR Try.prog g lent [.ref 1000000 1 0, int u] (some d) (kk s us) (kk K uu)) := by
  have r0 : rhoO 1000000 = some 1000000 := rfl
  have r1 : rhoO 1000001 = some 1000001 := rfl
  have R00 : oR false items f fl list 1000000 = ⟨1, .box 127 (oC items f fl (.own 1000001 1))⟩ := rfl
  have R01 : oR false items f fl list 1000001 = ⟨1, .sli 3 1 false (iL list)⟩ := rfl
  refine askG_of h rhoO (fun _ => False) (.one (.ref r0 (by rw [R00]) (by rw [hb]) (by rw [R00]; rfl)) (.one (.v _) .nil)) ⟨fun k hk => ?_, fun k k' j _ _ h1 h2 => ?_, fun k j _ _ h => h⟩ fun R1 p hp => ?_
  · rcases oR_nd hk with rfl | rfl
    · refine ⟨Nat.le_refl _, by rw [R00]; exact Nat.one_pos, 1000000, r0, ?_⟩
      rw [R00, hb]
      exact ⟨rfl, .one (.sl _ _ _) (.clo .nil (gvL_bL (.one (.own r1 (by rw [R01]) (by rw [hl]) (by rw [R01]; rfl)) .nil) fl))⟩
    · refine ⟨by decide, by rw [R01]; exact Nat.one_pos, 1000001, r1, ?_⟩
      rw [R01, hl]
      exact ⟨rfl, rfl, rfl, plain_iL _⟩
  · rw [(rhoO_some h1).1, (rhoO_some h2).1]
  · obtain ⟨fl', v', hfl, hI, rfl, hb1, hl1⟩ := hp
    refine ⟨rhoO, fun k => if k = 1000001 then (if v' = 1 then v else v + 1) else 1, true, ⟨fun _ _ => rfl, fun a b i h1 h2 => ?_, fun a i h1 h2 h3 => ?_, fun a i h1 h2 => ?_, fun _ _ h => h⟩, fun S hS => ?_⟩
    · rw [(rhoO_some h1).1, (rhoO_some h2).1]
    · obtain ⟨rfl, rfl | rfl⟩ := rhoO_some h1
      · rw [hb]; rfl
      · rw [hl1, R01] at h3
        have h3 : v' = 1 := h3
        rw [hl]
        simp [h3]
    · obtain ⟨rfl, rfl | rfl⟩ := rhoO_some h1
      · have := h2 (by rw [R00]; rfl)
        rw [hb1, R00] at this
        exact absurd rfl this
      · have := h2 (by rw [R01]; rfl)
        rw [hl1, R01] at this
        have h3 : ¬ v' = 1 := this
        rw [hl]
        simp [h3]
    · have e0 := hS.row 1000000 1000000 r0
      have e1 := hS.row 1000001 1000001 r1
      rw [hb1] at e0
      rw [hl1] at e1
      have e0 : S.rw 1000000 = ⟨1, .box 127 ((oC items f fl' (.own 1000001 v')).map (ren1 rhoO R1 _ true))⟩ := e0
      rw [map_oC r1 (by rw [hl1])] at e0
      refine hk S fl' _ hfl hI ?_ (fun t ht => ?_) e0 e1 fun i h1 h2 => hS.off i fun k hk => ?_
      · rw [hS.sl, put_sl_same]; rfl
      · rw [hS.sl, put_sl_ne _ _ _ _ ht]
      · obtain ⟨rfl, h | h⟩ := rhoO_some hk
        · exact h1 h
        · exact h2 h
theorem c_complete (f : FuncId) (ft : List Int → Int → Bool) (hF : ∀ l x, okL l → (0 ≤ x ∧ x < 64) → AC Try.prog f [ints l, int x] (.im (bool (ft l x)))) (hP : ∀ l l' x, l.Perm l' → ft l x = ft l' x) (items : List Int) (hn : items.Nodup) (hok : okL items) (h8 : items.length ≤ 8) :
    ∀ (n : Nat) (b : Bool) (fl : List Bool) (u : Nat) (list : List Int), (b = true → list = []) → fl.length = 256 → InvF ft items (fun u => fl.getD u false) → Codes items u list → list.length + n = items.length → okL list → u < 256 →
      AG Try.prog 138 [.ref 1000000 1 0, int u] (oR b items f fl list) (oPost ft items f n list) := by
  intro n
  induction n with
  | zero =>
    intro b fl u list hb hfl hI hc hll hol hu
    refine AG.goW (rs := [.tmp 4]) T_ok mixed Try.func138 rfl rfl rfl (by kernel_rfl) fun hl hrl z hz hr => ?_
    obtain ⟨s, hw, hsl, y0, y1, hlow⟩ := complete_start b hfl hb hr
    refine ⟨s, hw, ?_⟩
    have z0 : s.sl 0 = .ref 1000000 1 0 := by rw [hsl, hz]; rfl
    have z1 : s.sl 1 = int u := by rw [hsl, hz]; rfl
    clear hz hr hw hsl z
    simp (maxSteps := 5000000) -dsimp only [↓gp, gq, reduceCtorEq, Nat.reduceEqDiff, Nat.reduceLT, Nat.reduceLeDiff, Nat.reduceAdd, Nat.reduceMul, Nat.reduceSub, Nat.reduceBEq, Int.reduceToNat, Int.reduceLE, Int.reduceLT, Int.reduceNeg, Nat.reduceMod, sid_ne1, sid_ne2, sid_inj, sid_mod, gT, TK.isInt, TK.agg, Array.toList, z0, z1, y0, y1, ld_oCl hfl, ld_oC0, ld_oC1]
    have e : ((list.length : Int) == (items.length : Int)) = true := by rw [beq_iff_eq]; omega
    exact ⟨by kernel_rfl, fun _ => ⟨fl, 1, hfl, hI, rfl, y0, y1⟩, fun h => absurd (e.symm.trans h) (by decide)⟩
  | succ n ih =>
    intro b fl u list hb hfl hI hc hll hol hu
    refine AG.goW (rs := [.tmp 4]) T_ok mixed Try.func138 rfl rfl rfl (by kernel_rfl) fun hl hrl z hz hr => ?_
    obtain ⟨s, hw, hsl, y0, y1, hlow⟩ := complete_start b hfl hb hr
    refine ⟨s, hw, ?_⟩
    have z0 : s.sl 0 = .ref 1000000 1 0 := by rw [hsl, hz]; rfl
    have z1 : s.sl 1 = int u := by rw [hsl, hz]; rfl
    clear hz hr hw hsl z
    simp (maxSteps := 5000000) -dsimp only [↓gp, gq, reduceCtorEq, Nat.reduceEqDiff, Nat.reduceLT, Nat.reduceLeDiff, Nat.reduceAdd, Nat.reduceMul, Nat.reduceSub, Nat.reduceBEq, Int.reduceToNat, Int.reduceLE, Int.reduceLT, Int.reduceNeg, Nat.reduceMod, sid_ne1, sid_ne2, sid_inj, sid_mod, gT, TK.isInt, TK.agg, Array.toList, z0, z1, y0, y1, ld_oCl hfl, ld_oC0, ld_oC1]
    have e : ((list.length : Int) == (items.length : Int)) = false := by rw [beq_eq_false_iff_ne]; omega
    refine ⟨by kernel_rfl, fun h => absurd (e.symm.trans h) (by decide), fun _ => ⟨hu, ?_⟩⟩
    simp (maxSteps := 5000000) -dsimp only [↓gp, gq, reduceCtorEq, Nat.reduceEqDiff, Nat.reduceLT, Nat.reduceLeDiff, Nat.reduceAdd, Nat.reduceMul, Nat.reduceSub, Nat.reduceBEq, Int.reduceToNat, Int.reduceLE, Int.reduceLT, Int.reduceNeg, Nat.reduceMod, sid_ne1, sid_ne2, sid_inj, sid_mod, gT, TK.isInt, TK.agg, Array.toList, ld_oCf u hfl hu, ld_oC0, ld_oC1, ld_oCl hfl, z0, z1, y0, y1]
    refine ⟨fun h => ?_, fun h => ?_⟩
    · unfold oPost
      rw [show findF ft items (n + 1) list = none from hI u h (n + 1) list hc hll]
      exact ⟨fl, 1, hfl, hI, rfl, y0, y1⟩
    · have hdef : findF ft items (n + 1) list = items.findSome? (fun g => if decide (g ∈ list) || !ft list g then none else findF ft items n (list ++ [g])) := rfl
      generalize hff : (fun g => if decide (g ∈ list) || !ft list g then none else findF ft items n (list ++ [g])) = F at *
      refine loop_of (fun (za : Nat × Nat × List Bool) s => match za with | (k, v, g) => s.sl 0 = .ref 1000000 1 0 ∧ s.sl 1 = int u ∧ s.sl 27 = ints items ∧ s.sl 28 = int items.length ∧ s.sl 29 = int k ∧ s.rw 1000000 = ⟨1, .box 127 (oC items f g (.own 1000001 v))⟩ ∧ s.rw 1000001 = ⟨v, .sli 3 1 false (iL list)⟩ ∧ (k ≤ items.length ∧ g.length = 256 ∧ InvF ft items (fun u => g.getD u false) ∧ (items.take k).findSome? F = none)) (fun (k, v, g) => items.length - k) ((0, 1, fl)) (by refine ⟨?_, ?_, ?_, ?_, ?_, ?_, ?_, ⟨Nat.zero_le _, hfl, hI, rfl⟩⟩ <;> (first | (simp (maxSteps := 5000000) -dsimp only [gr, Nat.reduceEqDiff, Nat.reduceLT, Nat.reduceAdd, Nat.reduceMod, Nat.reduceBEq, sid_mod, sid_ne1, sid_ne2, sid_inj, z0, z1, y0, y1]; first | done | rfl | (simp; done)) | assumption | rfl)) ?_
      intro (k, v, g) sa ⟨h0a, h1a, h27a, h28a, h29a, r1000000a, r1000001a, hIa⟩
      obtain ⟨hk, hgl, hgI, hnone⟩ := hIa
      by_cases h : k < items.length
      · have hk8 : k < 8 := by omega
        have hu8 : IntKind.u64.wrap (k : Int) = (k : Int) := uwrap_id (by omega)
        have hb1 := bit_of u hu k hk8
        have hb2 := bit_or u hu k hk8
        simp (maxSteps := 5000000) -dsimp only [↓gp, gq, reduceCtorEq, Nat.reduceEqDiff, Nat.reduceLT, Nat.reduceLeDiff, Nat.reduceAdd, Nat.reduceMul, Nat.reduceSub, Nat.reduceBEq, Int.reduceToNat, Int.reduceLE, Int.reduceLT, Int.reduceNeg, Nat.reduceMod, sid_ne1, sid_ne2, sid_inj, sid_mod, gT, TK.isInt, TK.agg, Array.toList, h0a, h1a, h27a, h28a, h29a, r1000000a, r1000001a, ld_oC0, ld_oC1, ld_oCl hgl, fitsT_s, fitsT_k, hu8, hb1]
        have hgk := hok _ (getD_mem 0 h)
        have hgo : F (items.getD k 0) = if decide (items.getD k 0 ∈ list) || !ft list (items.getD k 0) then none else findF ft items n (list ++ [items.getD k 0]) := by rw [← hff]
        have hmem := codes_mem hn hc h
        have hskip : F (items.getD k 0) = none → (items.take (k + 1)).findSome? F = none := fun e => by rw [findSome_take F 0 h, hnone, e]; rfl
        refine ⟨fun _ => ⟨h, h, by kernel_rfl, fun hbit => askK_of (hF list _ hol hgk) ?_, fun hbit => ?_⟩, fun h' => absurd h h'⟩
        · simp (maxSteps := 5000000) -dsimp only [↓gp, gq, reduceCtorEq, Nat.reduceEqDiff, Nat.reduceLT, Nat.reduceLeDiff, Nat.reduceAdd, Nat.reduceMul, Nat.reduceSub, Nat.reduceBEq, Int.reduceToNat, Int.reduceLE, Int.reduceLT, Int.reduceNeg, Nat.reduceMod, sid_ne1, sid_ne2, sid_inj, sid_mod, gT, TK.isInt, TK.agg, Array.toList, h0a, h1a, h27a, h28a, h29a, r1000000a, r1000001a, ld_oC0, ld_oC1, ld_oCl hgl, spl_oCl hgl, fitsT_s, fitsT_k, hu8, hb1]
          refine ⟨fun hb => ?_, fun hb => ?_⟩
          · have e0 : F (items.getD k 0) = none := by rw [hgo, if_pos (by rw [show ft list (items.getD k 0) = false by simpa using hb]; simp)]
            exact again_of ((k + 1, v, g)) (by refine ⟨?_, ?_, ?_, ?_, ?_, ?_, ?_, ⟨by omega, hgl, hgI, hskip e0⟩⟩ <;> (first | (simp (maxSteps := 5000000) -dsimp only [gr, Nat.reduceEqDiff, Nat.reduceLT, Nat.reduceAdd, Nat.reduceMod, Nat.reduceBEq, sid_mod, sid_ne1, sid_ne2, sid_inj, h0a, h1a, h27a, h28a, h29a, r1000000a, r1000001a, wrap_nat h (by omega)]; first | done | rfl | (simp; done)) | assumption | rfl)) (by first | omega | (simp only; omega) | (dsimp only; omega) | (show _ < _; simp; omega))
          · have hft : ft list (items.getD k 0) = true := by simpa using hb
            have e0 : F (items.getD k 0) = findF ft items n (list ++ [items.getD k 0]) := by rw [hgo, if_neg (by rw [hmem, hbit, hft]; decide)]
            have hu2 : u ||| 2 ^ k < 256 := by
              have : u ||| 2 ^ k < 2 ^ 8 := Nat.or_lt_two_pow hu (Nat.pow_lt_pow_right (by omega) hk8)
              exact this
            have hIH := ih false g (u ||| 2 ^ k) (list ++ [items.getD k 0]) (fun h => by cases h) hgl hgI (codes_step hc h hbit) (by simp; omega) (fun b hb' => by
              rcases List.mem_append.1 hb' with h' | h'
              · exact hol b h'
              · rw [List.mem_singleton.1 h']; exact hgk) hu2
            rw [← hb2] at hIH
            refine ⟨by omega, by rw [oC_len hgl]; exact Nat.le_refl _, askO_of (v := v + 1) hIH (by simp (maxSteps := 5000000) -dsimp only [gr, Nat.reduceEqDiff, Nat.reduceLT, Nat.reduceAdd, Nat.reduceMod, Nat.reduceBEq, sid_mod, sid_ne1, sid_ne2, sid_inj, h0a, h1a, h27a, h28a, h29a, r1000000a, r1000001a]) (by simp (maxSteps := 5000000) -dsimp only [gr, Nat.reduceEqDiff, Nat.reduceLT, Nat.reduceAdd, Nat.reduceMod, Nat.reduceBEq, sid_mod, sid_ne1, sid_ne2, sid_inj, h0a, h1a, h27a, h28a, h29a, r1000000a, r1000001a]) fun S g' v' hgl' hgI' hSd hSs w0 w1 hoff => ?_⟩
            rw [← e0] at hSd w1
            have u0 : S.sl 0 = .ref 1000000 1 0 := by rw [hSs 0 (by decide)]; simp (maxSteps := 5000000) -dsimp only [gr, Nat.reduceEqDiff, Nat.reduceLT, Nat.reduceAdd, Nat.reduceMod, Nat.reduceBEq, sid_mod, sid_ne1, sid_ne2, sid_inj, h0a, h1a, h27a, h28a, h29a, r1000000a, r1000001a]
            have u1 : S.sl 1 = int u := by rw [hSs 1 (by decide)]; simp (maxSteps := 5000000) -dsimp only [gr, Nat.reduceEqDiff, Nat.reduceLT, Nat.reduceAdd, Nat.reduceMod, Nat.reduceBEq, sid_mod, sid_ne1, sid_ne2, sid_inj, h0a, h1a, h27a, h28a, h29a, r1000000a, r1000001a]
            have u27 : S.sl 27 = ints items := by rw [hSs 27 (by decide)]; simp (maxSteps := 5000000) -dsimp only [gr, Nat.reduceEqDiff, Nat.reduceLT, Nat.reduceAdd, Nat.reduceMod, Nat.reduceBEq, sid_mod, sid_ne1, sid_ne2, sid_inj, h0a, h1a, h27a, h28a, h29a, r1000000a, r1000001a]
            have u28 : S.sl 28 = int items.length := by rw [hSs 28 (by decide)]; simp (maxSteps := 5000000) -dsimp only [gr, Nat.reduceEqDiff, Nat.reduceLT, Nat.reduceAdd, Nat.reduceMod, Nat.reduceBEq, sid_mod, sid_ne1, sid_ne2, sid_inj, h0a, h1a, h27a, h28a, h29a, r1000000a, r1000001a]
            have u29 : S.sl 29 = int k := by rw [hSs 29 (by decide)]; simp (maxSteps := 5000000) -dsimp only [gr, Nat.reduceEqDiff, Nat.reduceLT, Nat.reduceAdd, Nat.reduceMod, Nat.reduceBEq, sid_mod, sid_ne1, sid_ne2, sid_inj, h0a, h1a, h27a, h28a, h29a, r1000000a, r1000001a]
            clear hSs hoff
            simp (maxSteps := 5000000) -dsimp only [↓gp, gq, reduceCtorEq, Nat.reduceEqDiff, Nat.reduceLT, Nat.reduceLeDiff, Nat.reduceAdd, Nat.reduceMul, Nat.reduceSub, Nat.reduceBEq, Int.reduceToNat, Int.reduceLE, Int.reduceLT, Int.reduceNeg, Nat.reduceMod, sid_ne1, sid_ne2, sid_inj, sid_mod, gT, TK.isInt, TK.agg, Array.toList, hSd, u0, u1, u27, u28, u29, w0, w1, ld_oC0, ld_oC1, ld_oCl hgl', spl_oCl hgl']
            refine ⟨fun hs => ?_, fun hs => ?_⟩
            · obtain ⟨x, hx⟩ := Option.isSome_iff_exists.1 hs
              unfold oPost
              rw [hdef, findSome_hit F 0 h hnone hx]
              rw [hx] at w1
              exact ⟨g', v', hgl', hgI', rfl, w0, w1⟩
            · have e1 : F (items.getD k 0) = none := by
                cases hx : F (items.getD k 0) with
                | none => rfl
                | some x => rw [hx] at hs; cases hs
              have el : ((F (items.getD k 0)).getD (list ++ [items.getD k 0])).length = list.length + 1 := by rw [e1]; simp
              have ew : IntKind.i64.wrap (((F (items.getD k 0)).getD (list ++ [items.getD k 0])).length - 1 : Int) = (list.length : Int) := by rw [el, wrap_id (by omega) (by omega)]; omega
              have et : ((F (items.getD k 0)).getD (list ++ [items.getD k 0])).take ((list.length : Nat) : Int).toNat = list := by rw [e1]; simp
              rw [ew, el]
              refine ⟨by kernel_rfl, ⟨by decide +kernel, by kernel_rfl, by decide +kernel, by kernel_rfl⟩, by omega, by omega, by rw [oC_len hgl']; exact Nat.le_refl _, by kernel_rfl, ?_⟩
              exact again_of ((k + 1, v' + 1, g')) (by refine ⟨?_, ?_, ?_, ?_, ?_, ?_, ?_, ⟨by omega, hgl', hgI', hskip e1⟩⟩ <;> (first | (simp (maxSteps := 5000000) -dsimp only [gr, Nat.reduceEqDiff, Nat.reduceLT, Nat.reduceAdd, Nat.reduceMod, Nat.reduceBEq, sid_mod, sid_ne1, sid_ne2, sid_inj, h0a, h1a, h27a, h28a, h29a, r1000000a, r1000001a, u0, u1, u27, u28, u29, et, wrap_nat h (show items.length ≤ 9223372036854775807 by omega)]; first | done | rfl | (simp; done)) | assumption | rfl)) (by first | omega | (simp only; omega) | (dsimp only; omega) | (show _ < _; simp; omega))
        · have e0 : F (items.getD k 0) = none := by rw [hgo, if_pos (by rw [hmem, hbit]; rfl)]
          exact again_of ((k + 1, v, g)) (by refine ⟨?_, ?_, ?_, ?_, ?_, ?_, ?_, ⟨by omega, hgl, hgI, hskip e0⟩⟩ <;> (first | (simp (maxSteps := 5000000) -dsimp only [gr, Nat.reduceEqDiff, Nat.reduceLT, Nat.reduceAdd, Nat.reduceMod, Nat.reduceBEq, sid_mod, sid_ne1, sid_ne2, sid_inj, h0a, h1a, h27a, h28a, h29a, r1000000a, r1000001a, wrap_nat h (by omega)]; first | done | rfl | (simp; done)) | assumption | rfl)) (by first | omega | (simp only; omega) | (dsimp only; omega) | (show _ < _; simp; omega))
      · have hke : k = items.length := by omega
        simp (maxSteps := 5000000) -dsimp only [↓gp, gq, reduceCtorEq, Nat.reduceEqDiff, Nat.reduceLT, Nat.reduceLeDiff, Nat.reduceAdd, Nat.reduceMul, Nat.reduceSub, Nat.reduceBEq, Int.reduceToNat, Int.reduceLE, Int.reduceLT, Int.reduceNeg, Nat.reduceMod, sid_ne1, sid_ne2, sid_inj, sid_mod, gT, TK.isInt, TK.agg, Array.toList, h0a, h1a, h27a, h28a, h29a, r1000000a, r1000001a, ld_oC0, ld_oC1, ld_oCl hgl, spl_oCf u hgl hu]
        refine ⟨fun h' => absurd h' h, fun _ => ⟨hu, by rw [oC_len hgl]; omega, ?_⟩⟩
        rw [hke, List.take_length] at hnone
        unfold oPost
        rw [hdef, hnone]
        refine ⟨g.set u true, v, by rw [List.length_set]; exact hgl, ?_, rfl, by simp (maxSteps := 5000000) -dsimp only [gr, Nat.reduceEqDiff, Nat.reduceLT, Nat.reduceAdd, Nat.reduceMod, Nat.reduceBEq, sid_mod, sid_ne1, sid_ne2, sid_inj], by simp (maxSteps := 5000000) -dsimp only [gr, Nat.reduceEqDiff, Nat.reduceLT, Nat.reduceAdd, Nat.reduceMod, Nat.reduceBEq, sid_mod, sid_ne1, sid_ne2, sid_inj, h0a, h1a, h27a, h28a, h29a, r1000000a, r1000001a]; rfl⟩
        have := invF_set hP hgI hc hll (by rw [hdef, hnone])
        intro w hw
        refine this w ?_
        show (if w = u then true else g.getD w false) = true
        by_cases e : w = u
        · rw [if_pos e]
        · rw [if_neg e]
          have hw : (g.set u true).getD w false = true := hw
          simpa [List.getD, List.getElem?_set_ne (Ne.symm e)] using hw
end Go.Proofs.Ytnfpeinbdfmlnaa

namespace Go.Proofs.Ytnfpeinbdfmlnaa
open Go.Abs
set_option linter.unusedSimpArgs false
set_option linter.unusedVariables false

/-- The cells of a search, whatever its items are. -/
def oX (p0 : PV) (f : FuncId) (fl : List Bool) (p : PV) : List PV := p0 :: .clo f [] :: (bL fl ++ [p])
theorem oX_ini (p0 : PV) (f : FuncId) : p0 :: .clo f [] :: List.map PV.v (List.replicate 256 (Value.bool false) ++ [Value.slice none 0 0]) = oX p0 f (List.replicate 256 false) (.v (.slice none 0 0)) := by
  unfold oX bL
  rw [List.map_append, List.map_replicate, List.map_replicate]; rfl
theorem oX_len {p0 p : PV} {f : FuncId} {fl : List Bool} (h : fl.length = 256) : (oX p0 f fl p).length = 259 := by simp [oX, bL, h]
theorem ld_oXl {p0 p : PV} {f : FuncId} {fl : List Bool} {Kp : PV → Prop} {t : TypeId} (h : fl.length = 256) (h0 : (T t).k.agg = false) (h1 : 0 < (T t).size) : ldK T t .asis (oX p0 f fl p) 258 Kp = Kp p := by
  have e : (oX p0 f fl p).getD 258 .junk = p := by
    have h2 : (bL fl).length = 256 := by simp [bL, h]
    simp only [oX, List.getD, show 258 = 256 + 1 + 1 by omega, List.getElem?_cons_succ]
    rw [List.getElem?_append_right (by omega), h2]
    simp
  have hl := oX_len (p0 := p0) (f := f) (p := p) h
  simp only [ldK, h0, h1, hl, true_and]
  rw [e]
  simp [Md.fix]
theorem spl_all {c c' : List PV} (h : c'.length = c.length) : spl c 0 c' = c' := by
  rw [spl_eq c 0 c' (by omega)]
  simp [h]
theorem allP_oX {rw : Nat → Row} {p0 p : PV} {f : FuncId} {fl : List Bool} (h0 : oneP rw p0) (h1 : oneP rw p) : Go.Abs.allP rw (oX p0 f fl p) := by
  unfold oX Go.Abs.allP
  intro q hq
  rcases List.mem_cons.1 hq with rfl | hq
  · exact h0
  rcases List.mem_cons.1 hq with rfl | hq
  · trivial
  rcases List.mem_append.1 hq with hq | hq
  · obtain ⟨b, _, rfl⟩ := List.mem_map.1 hq
    rfl
  · rw [List.mem_singleton.1 hq]; exact h1
theorem store_oX {s : St} {K : St → Prop} {j ver : Nat} {bt : TypeId} {c : List PV} {p0 p : PV} {f : FuncId} {fl : List Bool} (hf : fl.length = 256) (hc : c.length = 259) (h0 : oneP s.rw p0) (h1 : oneP s.rw p) (u : Dm K) :
    K (s.row j ⟨ver, .box bt (oX p0 f fl p)⟩) → storeD s 259 j ver 0 ⟨ver, .box bt c⟩ (.ag (oX p0 f fl p)) (kk K u) := by
  intro hk
  rw [store_box 258, cells_ag]
  refine ⟨oX_len hf, by rw [oX_len hf, hc]; exact Nat.le_refl _, allP_oX h0 h1, ?_⟩
  rw [spl_all (by rw [oX_len hf, hc])]
  exact hk
theorem askL_of {s : St} {K : St → Prop} {g f : FuncId} {ft : List Int → Int → Bool} {items : List Int} {fl : List Bool} {n d kb ki vi ei : Nat} {fz : Bool} {lent : List PV} {Ka : RV → Prop} {us : Dm s} {uu : Dm K}
    (h : AG Try.prog g [.ref 1000000 1 0, int 0] (oR true items f fl []) (oPost ft items f n [])) (hb : s.rw kb = ⟨1, .box 127 (oX (.own ki vi) f fl (.v (.slice none 0 0)))⟩) (hi : s.rw ki = ⟨vi, .sli ei 1 fz (iL items)⟩) (hd : s.rw d = ⟨0, .dead⟩)
    (h1 : ki ≠ kb) (h2 : d ≠ kb)
    (hk : ∀ (S : St) (fl' : List Bool), fl'.length = 256 → S.sl d = bool (findF ft items n []).isSome → (∀ t, t ≠ d → S.sl t = s.sl t) →
      S.rw kb = ⟨1, .box 127 (oX .junk f fl' (.own d 1))⟩ → S.rw d = ⟨1, .sli 3 1 false (iL ((findF ft items n []).getD []))⟩ → (∀ i, i ≠ kb → i ≠ d → S.rw i = s.rw i) → K S) :
    askK Try.prog g lent Ka (askR Try.prog g lent [.ref kb 1 0, int 0] (some d) (kk s us) (kk K uu)) := by
  have R00 : oR true items f fl [] 1000000 = ⟨1, .box 127 (oC items f fl (.v (.slice none 0 0)))⟩ := rfl
  have R0n : ∀ k, k ≠ 1000000 → oR true items f fl [] k = ⟨0, .dead⟩ := fun k hk => by unfold oR; rw [if_neg hk, if_neg (fun h => by cases h.2)]
  have nd0 : ∀ k, (oR true items f fl [] k).kind.nd = true → k = 1000000 := fun k hk => by
    by_cases h : k = 1000000
    · exact h
    · rw [R0n k h] at hk; cases hk
  have r0 : (fun k : Nat => if k = 1000000 then some kb else none) 1000000 = some kb := if_pos rfl
  have q0 : (fun k : Nat => if k = 1000000 then some kb else if k = 1000001 then some d else none) 1000000 = some kb := if_pos rfl
  have q1 : (fun k : Nat => if k = 1000000 then some kb else if k = 1000001 then some d else none) 1000001 = some d := rfl
  have qq : ∀ {k j : Nat}, (fun k : Nat => if k = 1000000 then some kb else if k = 1000001 then some d else none) k = some j → (k = 1000000 ∧ j = kb) ∨ (k = 1000001 ∧ j = d) := fun {k j} h => by
    have h : (if k = 1000000 then some kb else if k = 1000001 then some d else none) = some j := h
    by_cases a : k = 1000000
    · rw [if_pos a] at h; exact .inl ⟨a, (Option.some.inj h).symm⟩
    · rw [if_neg a] at h
      by_cases b : k = 1000001
      · rw [if_pos b] at h; exact .inr ⟨b, (Option.some.inj h).symm⟩
      · rw [if_neg b] at h; cases h
  refine askG_of h (fun k => if k = 1000000 then some kb else none) (fun j => j = ki) (.one (.ref r0 (by rw [R00]) (by rw [hb]) (by rw [R00]; rfl)) (.one (.v _) .nil)) ⟨fun k hk => ?_, fun k k' j a b _ _ => by rw [nd0 k a, nd0 k' b], fun k j a b e => ?_⟩ fun R1 p hp => ?_
  · have := nd0 k hk; subst this
    refine ⟨Nat.le_refl _, by rw [R00]; exact Nat.one_pos, kb, r0, ?_⟩
    rw [R00, hb]
    exact ⟨rfl, .one (.lent rfl hi) (.clo .nil (gvL_bL (.one (.v _) .nil) fl))⟩
  · have := nd0 k a; subst this
    have b : some kb = some j := b
    cases b
    exact h1 e.symm
  · obtain ⟨fl', v', hfl, hI, rfl, hb1, hl1⟩ := hp
    refine ⟨fun k => if k = 1000000 then some kb else if k = 1000001 then some d else none, fun k => 1, false, ⟨fun k hk => ?_, fun a b i a1 a2 => ?_, fun a i a1 a2 a3 => ?_, fun a i a1 a2 => ?_, fun h => by cases h⟩, fun S hS => ?_⟩
    · have := nd0 k hk; subst this; rfl
    · rcases qq a1 with ⟨rfl, e1⟩ | ⟨rfl, e1⟩ <;> rcases qq a2 with ⟨rfl, e2⟩ | ⟨rfl, e2⟩ <;> first | rfl | (exact absurd (e1.symm.trans e2) (Ne.symm h2)) | (exact absurd (e1.symm.trans e2) h2)
    · have := nd0 a a2; subst this
      rcases qq a1 with ⟨_, rfl⟩ | ⟨h, _⟩
      · rw [hb]
      · exact absurd h (by decide)
    · rcases qq a1 with ⟨rfl, rfl⟩ | ⟨rfl, rfl⟩
      · have := a2 (by rw [R00]; rfl)
        rw [hb1, R00] at this
        exact absurd rfl this
      · rw [hd]; exact Nat.one_pos
    · have e0 := hS.row 1000000 kb q0
      have e1 := hS.row 1000001 d q1
      rw [hb1] at e0
      rw [hl1] at e1
      have e0 : S.rw kb = ⟨1, .box 127 ((oC items f fl' (.own 1000001 v')).map (ren1 (fun k : Nat => if k = 1000000 then some kb else if k = 1000001 then some d else none) R1 _ false))⟩ := e0
      rw [map_oC q1 (by rw [hl1])] at e0
      refine hk S fl' hfl ?_ (fun t ht => ?_) e0 e1 fun i a b => hS.off i fun k hk => ?_
      · rw [hS.sl, put_sl_same]; rfl
      · rw [hS.sl, put_sl_ne _ _ _ _ ht]
      · rcases qq hk with ⟨_, rfl⟩ | ⟨_, rfl⟩
        · exact a rfl
        · exact b rfl
def leastO (ft : List Int → Int → Bool) (xs : List Int) : Option (List Int) := if xs.length ≤ 8 then findF ft (sortI xs) xs.length [] else none
theorem c_leastOrder (f : FuncId) (ft : List Int → Int → Bool) (hF : ∀ l x, okL l → (0 ≤ x ∧ x < 64) → AC Try.prog f [ints l, int x] (.im (bool (ft l x)))) (hP : ∀ l l' x, l.Perm l' → ft l x = ft l' x) (xs : List Int) (hn : xs.Nodup) (hok : okL xs) :
    AC Try.prog 93 [ints xs, .clo f []] (.tup [.fr 3 1 (iL ((leastO ft xs).getD [])), .im (bool (leastO ft xs).isSome)]) := by
  refine AC.go (rs := [.tmp 4, .tmp 5]) T_ok mixed Try.func93 rfl rfl rfl (by kernel_rfl) fun hl => ?_
  simp only [lens_cons, lens_nil, and_true, lens2_ag2, lens1_v, lens1_iL, lens2_iL, lens2_v, true_and] at hl
  simp (maxSteps := 5000000) -dsimp only [↓gp, gq, reduceCtorEq, Nat.reduceEqDiff, Nat.reduceLT, Nat.reduceLeDiff, Nat.reduceAdd, Nat.reduceMul, Nat.reduceSub, Nat.reduceBEq, Int.reduceToNat, Int.reduceLE, Int.reduceLT, Int.reduceNeg, Nat.reduceMod, sid_ne1, sid_ne2, sid_inj, sid_mod, gT, TK.isInt, TK.agg, Array.toList, fitsT_s, fitsT_k]
  refine ⟨fun h => ?_, fun h => ?_⟩
  · unfold leastO; rw [if_neg (by omega)]; exact ⟨rfl, rfl⟩
  · have h8 : xs.length ≤ 8 := by omega
    unfold leastO; rw [if_pos h8]
    refine askK_of (c_slices_Clone xs (by omega)) ?_
    simp (maxSteps := 5000000) -dsimp only [↓gp, gq, reduceCtorEq, Nat.reduceEqDiff, Nat.reduceLT, Nat.reduceLeDiff, Nat.reduceAdd, Nat.reduceMul, Nat.reduceSub, Nat.reduceBEq, Int.reduceToNat, Int.reduceLE, Int.reduceLT, Int.reduceNeg, Nat.reduceMod, sid_ne1, sid_ne2, sid_inj, sid_mod, gT, TK.isInt, TK.agg, Array.toList, fitsT_s, fitsT_k]
    refine askM_of (c_slices_Sort xs h8) [(12, 1)] (by repeat (first | exact GiveL.nil | refine GiveL.v ?_ | refine GiveL.own 0 rfl ?_ | refine GiveL.own 1 rfl ?_ | refine GiveL.ag ?_ ?_)) ⟨by simp (maxSteps := 5000000) -dsimp only [gr, Nat.reduceEqDiff, Nat.reduceLT, Nat.reduceAdd, Nat.reduceMod, Nat.reduceBEq, sid_mod, sid_ne1, sid_ne2, sid_inj]; try rfl, trivial⟩ (by decide) ?_
    simp (maxSteps := 5000000) -dsimp only [↓gp, gq, reduceCtorEq, Nat.reduceEqDiff, Nat.reduceLT, Nat.reduceLeDiff, Nat.reduceAdd, Nat.reduceMul, Nat.reduceSub, Nat.reduceBEq, Int.reduceToNat, Int.reduceLE, Int.reduceLT, Int.reduceNeg, Nat.reduceMod, sid_ne1, sid_ne2, sid_inj, sid_mod, gT, TK.isInt, TK.agg, Array.toList, fitsT_s, fitsT_k, oX_ini]
    refine store_oX List.length_replicate (by simp only [List.length_cons, List.length_map, List.length_append, List.length_replicate, List.length_nil]) ?_ (by exact rfl) _ ?_
    · simp (maxSteps := 5000000) -dsimp only [↓gp, gq, reduceCtorEq, Nat.reduceEqDiff, Nat.reduceLT, Nat.reduceLeDiff, Nat.reduceAdd, Nat.reduceMul, Nat.reduceSub, Nat.reduceBEq, Int.reduceToNat, Int.reduceLE, Int.reduceLT, Int.reduceNeg, Nat.reduceMod, sid_ne1, sid_ne2, sid_inj, sid_mod, gT, TK.isInt, TK.agg, Array.toList, oneP_own]
    have hC := c_complete f ft hF hP (sortI xs) ((sortI_perm xs).nodup_iff.2 hn) (fun b hb => hok b ((sortI_perm xs).mem_iff.1 hb)) (by rw [sortI_len]; exact h8) xs.length true (List.replicate 256 false) 0 [] (fun _ => rfl) List.length_replicate (fun u hu => by
      have hu : (List.replicate 256 false).getD u false = true := hu
      have : (List.replicate 256 false).getD u false = false := by
        rw [List.getD, List.getElem?_replicate]; split <;> rfl
      rw [this] at hu; cases hu) (codes_zero _) (by rw [sortI_len]; simp) (fun b hb => by cases hb) (by decide)
    simp (maxSteps := 5000000) -dsimp only [↓gp, gq, reduceCtorEq, Nat.reduceEqDiff, Nat.reduceLT, Nat.reduceLeDiff, Nat.reduceAdd, Nat.reduceMul, Nat.reduceSub, Nat.reduceBEq, Int.reduceToNat, Int.reduceLE, Int.reduceLT, Int.reduceNeg, Nat.reduceMod, sid_ne1, sid_ne2, sid_inj, sid_mod, gT, TK.isInt, TK.agg, Array.toList, fitsT_s, fitsT_k, oX_ini]
    refine askL_of (ki := 12) (vi := 1) (ei := 3) (fz := false) hC (by simp (maxSteps := 5000000) -dsimp only [gr, Nat.reduceEqDiff, Nat.reduceLT, Nat.reduceAdd, Nat.reduceMod, Nat.reduceBEq, sid_mod, sid_ne1, sid_ne2, sid_inj]) (by simp (maxSteps := 5000000) -dsimp only [gr, Nat.reduceEqDiff, Nat.reduceLT, Nat.reduceAdd, Nat.reduceMod, Nat.reduceBEq, sid_mod, sid_ne1, sid_ne2, sid_inj]) (by simp (maxSteps := 5000000) -dsimp only [gr, Nat.reduceEqDiff, Nat.reduceLT, Nat.reduceAdd, Nat.reduceMod, Nat.reduceBEq, sid_mod, sid_ne1, sid_ne2, sid_inj]) (by decide) (by decide) fun S fl' hfl' hSd hSs w7 w18 hoff => ?_
    have u7 : S.sl 7 = .ref 7 1 0 := by rw [hSs 7 (by decide)]; simp (maxSteps := 5000000) -dsimp only [gr, Nat.reduceEqDiff, Nat.reduceLT, Nat.reduceAdd, Nat.reduceMod, Nat.reduceBEq, sid_mod, sid_ne1, sid_ne2, sid_inj]
    simp (maxSteps := 5000000) -dsimp only [↓gp, gq, reduceCtorEq, Nat.reduceEqDiff, Nat.reduceLT, Nat.reduceLeDiff, Nat.reduceAdd, Nat.reduceMul, Nat.reduceSub, Nat.reduceBEq, Int.reduceToNat, Int.reduceLE, Int.reduceLT, Int.reduceNeg, Nat.reduceMod, sid_ne1, sid_ne2, sid_inj, sid_mod, gT, TK.isInt, TK.agg, Array.toList, hSd, u7, w7, w18, ld_oXl hfl']
    generalize findF ft (sortI xs) xs.length [] = o
    cases o with
    | none => exact ⟨fun _ => ⟨rfl, rfl⟩, fun h => by cases h⟩
    | some l => exact ⟨fun h => (by cases h), fun _ => rfl⟩
end Go.Proofs.Ytnfpeinbdfmlnaa

namespace Go.Proofs.Ytnfpeinbdfmlnaa
open Go.Abs
set_option linter.unusedSimpArgs false
set_option linter.unusedVariables false

theorem cx_okL {n : Int} {xs : List Int} (h : cxP n xs) : okL xs := fun b hb => by
  obtain ⟨i, hi, rfl⟩ := mem_getD 0 hb
  exact inSet_lt (h.2.2 i hi).1
end Go.Proofs.Ytnfpeinbdfmlnaa

namespace Go.Proofs.Ytnfpeinbdfmlnaa
open Go.Abs
set_option linter.unusedSimpArgs false
set_option linter.unusedVariables false

theorem findF_len {ft : List Int → Int → Bool} {gens : List Int} : ∀ (n : Nat) (head l : List Int), findF ft gens n head = some l → l.length = head.length + n := by
  intro n
  induction n with
  | zero => intro head l h; rw [← Option.some.inj (show some head = some l from h)]; rfl
  | succ n ih =>
    intro head l h
    obtain ⟨x, _, hx⟩ := List.exists_of_findSome?_eq_some (show gens.findSome? _ = some l from h)
    split at hx
    · cases hx
    · rw [ih _ _ hx]; simp; omega
end Go.Proofs.Ytnfpeinbdfmlnaa

namespace Go.Proofs.Ytnfpeinbdfmlnaa
open Go.Abs
set_option linter.unusedSimpArgs false
set_option linter.unusedVariables false

def ok64 (l : List Nat) : Prop := ∀ g ∈ l, g < 64
theorem ok64_at {l : List Nat} (h : ok64 l) {k : Nat} (hk : k < l.length) : l.getD k 0 < 64 := h _ (getD_mem 0 hk)
theorem foldlN_step {α : Type} (f : α → Nat → α) (a : α) {l : List Nat} {k : Nat} (h : k < l.length) : (l.take (k + 1)).foldl f a = f ((l.take k).foldl f a) (l.getD k 0) := by
  rw [take_snoc 0 h, List.foldl_append]; rfl
theorem c_impl_newPart (bs : List Nat) (fc : Nat) (hb : ok64 bs) (hs : fc < 64) : AC Try.prog 187 [ints (ofN bs), int fc] (.im (int (npN bs fc : Nat))) := by
  refine AC.go (rs := [.tmp 4]) T_ok mixed Try.func187 rfl rfl rfl (by kernel_rfl) fun hl => ?_
  simp only [lens_cons, lens_nil, and_true, lens2_v, lens2_iL, true_and, ofN_length] at hl
  have hol := ofN_length bs
  simp (maxSteps := 5000000) -dsimp only [↓gp, gq, reduceCtorEq, Nat.reduceEqDiff, Nat.reduceLT, Nat.reduceLeDiff, Nat.reduceAdd, Nat.reduceMul, Nat.reduceSub, Nat.reduceBEq, Int.reduceToNat, Int.reduceLE, Int.reduceLT, Int.reduceNeg, Nat.reduceMod, sid_ne1, sid_ne2, sid_inj, sid_mod, gT, TK.isInt, TK.agg, Array.toList]
  refine loop_of (fun (k : Nat) s => s.sl 1 = int fc ∧ s.sl 5 = int ((bs.take k).foldl (npS fc) 0 : Nat) ∧ s.sl 9 = ints (ofN bs) ∧ s.sl 10 = int bs.length ∧ s.sl 11 = int k ∧ (k ≤ bs.length)) (fun k => bs.length - k) (0) (by refine ⟨?_, ?_, ?_, ?_, ?_, by simp⟩ <;> (first | (simp (maxSteps := 5000000) -dsimp only [gr, Nat.reduceEqDiff, Nat.reduceLT, Nat.reduceAdd, Nat.reduceMod, Nat.reduceBEq, sid_mod, sid_ne1, sid_ne2, sid_inj, hol]; first | done | rfl | (simp; done)) | assumption | rfl)) ?_
  intro k sa ⟨h1a, h5a, h9a, h10a, h11a, hIa⟩
  simp (maxSteps := 5000000) -dsimp only [↓gp, gq, reduceCtorEq, Nat.reduceEqDiff, Nat.reduceLT, Nat.reduceLeDiff, Nat.reduceAdd, Nat.reduceMul, Nat.reduceSub, Nat.reduceBEq, Int.reduceToNat, Int.reduceLE, Int.reduceLT, Int.reduceNeg, Nat.reduceMod, sid_ne1, sid_ne2, sid_inj, sid_mod, gT, TK.isInt, TK.agg, Array.toList, h1a, h5a, h9a, h10a, h11a, hol]
  refine ⟨fun h => ?_, fun h => ?_⟩
  · have hg := ok64_at hb h
    have hx : iandnot .i64 (fc : Int) (bs.getD k 0 : Nat) = ((fc ^^^ (fc &&& bs.getD k 0) : Nat) : Int) := iandnot_nat (by omega) (by omega)
    have hx64 := xor_lt64 (s := fc) (g := bs.getD k 0) hs
    have hpp : szOf ((fc ^^^ (fc &&& bs.getD k 0) : Nat) : Int) = (popN (fc ^^^ (fc &&& bs.getD k 0)) : Nat) := by rw [szOf_pop (by omega)]; simp
    have hst : (bs.take (k + 1)).foldl (npS fc) 0 = npS fc ((bs.take k).foldl (npS fc) 0) (bs.getD k 0) := foldlN_step (npS fc) 0 h
    have hlt : (bs.take k).foldl (npS fc) 0 < 64 := np_lt (bs := bs.take k) hs
    have hor : ior .i64 (((bs.take k).foldl (npS fc) 0 : Nat) : Int) ((fc ^^^ (fc &&& bs.getD k 0) : Nat) : Int) = (((bs.take k).foldl (npS fc) 0 ||| (fc ^^^ (fc &&& bs.getD k 0)) : Nat) : Int) := ior_nat (by omega) (by omega)
    rw [ofN_getD h, hx]
    refine ⟨h, h, askK_of (c_impl_SizeOf _) ?_⟩
    simp (maxSteps := 5000000) -dsimp only [↓gp, gq, reduceCtorEq, Nat.reduceEqDiff, Nat.reduceLT, Nat.reduceLeDiff, Nat.reduceAdd, Nat.reduceMul, Nat.reduceSub, Nat.reduceBEq, Int.reduceToNat, Int.reduceLE, Int.reduceLT, Int.reduceNeg, Nat.reduceMod, sid_ne1, sid_ne2, sid_inj, sid_mod, gT, TK.isInt, TK.agg, Array.toList, h1a, h5a, h9a, h10a, h11a, hol, ofN_getD h, hx, hpp]
    refine ⟨fun hp => ?_, fun hp => ?_⟩
    · have hn : npS fc ((bs.take k).foldl (npS fc) 0) (bs.getD k 0) = (bs.take k).foldl (npS fc) 0 ||| (fc ^^^ (fc &&& bs.getD k 0)) := by unfold npS; rw [if_pos (by have := beq_iff_eq.1 hp; omega)]
      exact again_of (k + 1) (by refine ⟨?_, ?_, ?_, ?_, ?_, by omega⟩ <;> (first | (simp (maxSteps := 5000000) -dsimp only [gr, Nat.reduceEqDiff, Nat.reduceLT, Nat.reduceAdd, Nat.reduceMod, Nat.reduceBEq, sid_mod, sid_ne1, sid_ne2, sid_inj, h1a, h5a, h9a, h10a, h11a, wrap_nat h hl, hst, hn, hor, hx]; first | done | rfl | (simp; done)) | assumption | rfl)) (by first | omega | (simp only; omega) | (dsimp only; omega) | (show _ < _; simp; omega))
    · have hn : npS fc ((bs.take k).foldl (npS fc) 0) (bs.getD k 0) = (bs.take k).foldl (npS fc) 0 := by unfold npS; rw [if_neg (by have := beq_eq_false_iff_ne.1 hp; omega)]
      exact again_of (k + 1) (by refine ⟨?_, ?_, ?_, ?_, ?_, by omega⟩ <;> (first | (simp (maxSteps := 5000000) -dsimp only [gr, Nat.reduceEqDiff, Nat.reduceLT, Nat.reduceAdd, Nat.reduceMod, Nat.reduceBEq, sid_mod, sid_ne1, sid_ne2, sid_inj, h1a, h5a, h9a, h10a, h11a, wrap_nat h hl, hst, hn, hx]; first | done | rfl | (simp; done)) | assumption | rfl)) (by first | omega | (simp only; omega) | (dsimp only; omega) | (show _ < _; simp; omega))
  · obtain rfl : k = bs.length := by omega
    unfold npN
    rw [List.take_length]
theorem c_impl_shellFits (bs : List Nat) (fc : Nat) (hb : ok64 bs) (hs : fc < 64) : AC Try.prog 154 [ints (ofN bs), int fc] (.im (bool (fitI bs fc))) := by
  refine AC.go (rs := [.tmp 4]) T_ok mixed Try.func154 rfl rfl rfl (by kernel_rfl) fun hl => ?_
  simp only [lens_cons, lens_nil, and_true, lens2_v, lens2_iL, true_and, ofN_length] at hl
  have hol := ofN_length bs
  simp (maxSteps := 5000000) -dsimp only [↓gp, gq, reduceCtorEq, Nat.reduceEqDiff, Nat.reduceLT, Nat.reduceLeDiff, Nat.reduceAdd, Nat.reduceMul, Nat.reduceSub, Nat.reduceBEq, Int.reduceToNat, Int.reduceLE, Int.reduceLT, Int.reduceNeg, Nat.reduceMod, sid_ne1, sid_ne2, sid_inj, sid_mod, gT, TK.isInt, TK.agg, Array.toList]
  refine askK_of (c_impl_newPart bs fc hb hs) ?_
  simp (maxSteps := 5000000) -dsimp only [↓gp, gq, reduceCtorEq, Nat.reduceEqDiff, Nat.reduceLT, Nat.reduceLeDiff, Nat.reduceAdd, Nat.reduceMul, Nat.reduceSub, Nat.reduceBEq, Int.reduceToNat, Int.reduceLE, Int.reduceLT, Int.reduceNeg, Nat.reduceMod, sid_ne1, sid_ne2, sid_inj, sid_mod, gT, TK.isInt, TK.agg, Array.toList]
  refine loop_of (fun (k : Nat) s => s.sl 5 = int (npN bs fc : Nat) ∧ s.sl 11 = ints (ofN bs) ∧ s.sl 12 = int bs.length ∧ s.sl 13 = int k ∧ (k ≤ bs.length ∧ ∀ i, i < k → (npN bs fc ^^^ (npN bs fc &&& bs.getD i 0) != 0) = true)) (fun k => bs.length - k) (0) (by refine ⟨?_, ?_, ?_, ?_, by simp⟩ <;> (first | (simp (maxSteps := 5000000) -dsimp only [gr, Nat.reduceEqDiff, Nat.reduceLT, Nat.reduceAdd, Nat.reduceMod, Nat.reduceBEq, sid_mod, sid_ne1, sid_ne2, sid_inj, hol]; first | done | rfl | (simp; done)) | assumption | rfl)) ?_
  intro k sa ⟨h5a, h11a, h12a, h13a, hIa⟩
  obtain ⟨hk, hall⟩ := hIa
  simp (maxSteps := 5000000) -dsimp only [↓gp, gq, reduceCtorEq, Nat.reduceEqDiff, Nat.reduceLT, Nat.reduceLeDiff, Nat.reduceAdd, Nat.reduceMul, Nat.reduceSub, Nat.reduceBEq, Int.reduceToNat, Int.reduceLE, Int.reduceLT, Int.reduceNeg, Nat.reduceMod, sid_ne1, sid_ne2, sid_inj, sid_mod, gT, TK.isInt, TK.agg, Array.toList, h5a, h11a, h12a, h13a, hol]
  refine ⟨fun h => ?_, fun h => ?_⟩
  · have hg := ok64_at hb h
    have hlt := np_lt (bs := bs) hs
    have hx : iandnot .i64 (npN bs fc : Nat) (bs.getD k 0 : Nat) = ((npN bs fc ^^^ (npN bs fc &&& bs.getD k 0) : Nat) : Int) := iandnot_nat (by omega) (by omega)
    rw [ofN_getD h, hx]
    refine ⟨h, h, fun he => ?_, fun he => again_of (k + 1) ⟨(by (first | (simp (maxSteps := 5000000) -dsimp only [gr, Nat.reduceEqDiff, Nat.reduceLT, Nat.reduceAdd, Nat.reduceMod, Nat.reduceBEq, sid_mod, sid_ne1, sid_ne2, sid_inj, h5a, h11a, h12a, h13a, wrap_nat h hl]; first | done | rfl | (simp; done)) | assumption | rfl)), (by (first | (simp (maxSteps := 5000000) -dsimp only [gr, Nat.reduceEqDiff, Nat.reduceLT, Nat.reduceAdd, Nat.reduceMod, Nat.reduceBEq, sid_mod, sid_ne1, sid_ne2, sid_inj, h5a, h11a, h12a, h13a, wrap_nat h hl]; first | done | rfl | (simp; done)) | assumption | rfl)), (by (first | (simp (maxSteps := 5000000) -dsimp only [gr, Nat.reduceEqDiff, Nat.reduceLT, Nat.reduceAdd, Nat.reduceMod, Nat.reduceBEq, sid_mod, sid_ne1, sid_ne2, sid_inj, h5a, h11a, h12a, h13a, wrap_nat h hl]; first | done | rfl | (simp; done)) | assumption | rfl)), (by (first | (simp (maxSteps := 5000000) -dsimp only [gr, Nat.reduceEqDiff, Nat.reduceLT, Nat.reduceAdd, Nat.reduceMod, Nat.reduceBEq, sid_mod, sid_ne1, sid_ne2, sid_inj, h5a, h11a, h12a, h13a, wrap_nat h hl]; first | done | rfl | (simp; done)) | assumption | rfl)), ⟨by omega, fun i hi => ?_⟩⟩ (by first | omega | (simp only; omega) | (dsimp only; omega) | (show _ < _; simp; omega))⟩
    · unfold fitI
      rw [List.all_eq_false]
      refine ⟨_, getD_mem 0 h, ?_⟩
      have he : npN bs fc ^^^ (npN bs fc &&& bs.getD k 0) = 0 := by have := beq_iff_eq.1 he; omega
      rw [he]; simp
    · rcases Nat.lt_succ_iff_lt_or_eq.1 hi with hi | rfl
      · exact hall i hi
      · rw [bne_iff_ne]
        have := beq_eq_false_iff_ne.1 he
        omega
  · unfold fitI
    rw [List.all_eq_true]
    intro x hx
    obtain ⟨i, hi, rfl⟩ := mem_getD 0 hx
    exact hall i (by omega)
theorem bitf_zero : ∀ f, f < 64 → ∀ i, i < 6 → (((f &&& 2 ^ i : Nat) : Int) == 0) = !(Nat.testBit f i) := by decide +kernel
theorem c_spec_l19New (bs : List Nat) (fc : Nat) (hb : ok64 bs) (hs : fc < 64) : AC Try.prog 220 [ints (ofN bs), int fc] (.im (int (frN bs fc 6 : Nat))) := by
  refine AC.go (rs := [.tmp 4]) T_ok mixed Try.func220 rfl rfl rfl (by kernel_rfl) fun hl => ?_
  simp only [lens_cons, lens_nil, and_true, lens2_v, lens2_iL, true_and, ofN_length] at hl
  have hol := ofN_length bs
  simp (maxSteps := 5000000) -dsimp only [↓gp, gq, reduceCtorEq, Nat.reduceEqDiff, Nat.reduceLT, Nat.reduceLeDiff, Nat.reduceAdd, Nat.reduceMul, Nat.reduceSub, Nat.reduceBEq, Int.reduceToNat, Int.reduceLE, Int.reduceLT, Int.reduceNeg, Nat.reduceMod, sid_ne1, sid_ne2, sid_inj, sid_mod, gT, TK.isInt, TK.agg, Array.toList]
  refine loop_of (fun (i : Nat) s => s.sl 0 = ints (ofN bs) ∧ s.sl 1 = int fc ∧ s.sl 5 = int (frN bs fc i : Nat) ∧ s.sl 6 = int i ∧ (i ≤ 6)) (fun i => 6 - i) (0) (by refine ⟨?_, ?_, ?_, ?_, by omega⟩ <;> (first | (simp (maxSteps := 5000000) -dsimp only [gr, Nat.reduceEqDiff, Nat.reduceLT, Nat.reduceAdd, Nat.reduceMod, Nat.reduceBEq, sid_mod, sid_ne1, sid_ne2, sid_inj, frN]; first | done | rfl | (simp; done)) | assumption | rfl)) ?_
  intro i sa ⟨h0a, h1a, h5a, h6a, hIa⟩
  by_cases hi : i < 6
  · have hui : IntKind.u64.wrap (i : Int) = (i : Int) := uwrap_id (by omega)
    have hsh : ishl .i64 1 (i : Int) = ((2 ^ i : Nat) : Int) := ishl_small (by omega)
    have h2i : (2 : Nat) ^ i ≤ 2 ^ 5 := Nat.pow_le_pow_right (by omega) (by omega)
    have han : iand .i64 (fc : Int) ((2 ^ i : Nat) : Int) = ((fc &&& 2 ^ i : Nat) : Int) := iand_nat (by omega) (by omega)
    have hbit : (((fc &&& 2 ^ i : Nat) : Int) == 0) = !(fc.testBit i) := bitf_zero fc hs i hi
    have hfr : frN bs fc (i + 1) = if fc.testBit i && bs.any (fun g => g &&& (fc - 2 ^ i) == fc - 2 ^ i) then frN bs fc i ||| 2 ^ i else frN bs fc i := rfl
    simp (maxSteps := 5000000) -dsimp only [↓gp, gq, reduceCtorEq, Nat.reduceEqDiff, Nat.reduceLT, Nat.reduceLeDiff, Nat.reduceAdd, Nat.reduceMul, Nat.reduceSub, Nat.reduceBEq, Int.reduceToNat, Int.reduceLE, Int.reduceLT, Int.reduceNeg, Nat.reduceMod, sid_ne1, sid_ne2, sid_inj, sid_mod, gT, TK.isInt, TK.agg, Array.toList, h0a, h1a, h5a, h6a, hui, hsh, han, hbit]
    refine ⟨fun _ => ⟨fun hz => ?_, fun hz => ?_⟩, fun h => absurd (show (i : Int) < 6 by omega) h⟩
    · have hz : fc.testBit i = false := by simpa using hz
      rw [hz, Bool.false_and, if_neg (by decide)] at hfr
      exact again_of (i + 1) (by refine ⟨?_, ?_, ?_, ?_, by omega⟩ <;> (first | (simp (maxSteps := 5000000) -dsimp only [gr, Nat.reduceEqDiff, Nat.reduceLT, Nat.reduceAdd, Nat.reduceMod, Nat.reduceBEq, sid_mod, sid_ne1, sid_ne2, sid_inj, h0a, h1a, h5a, h6a, wrap_nat hi (by omega), hfr]; first | done | rfl | (simp; done)) | assumption | rfl)) (by first | omega | (simp only; omega) | (dsimp only; omega) | (show _ < _; simp; omega))
    · have hz : fc.testBit i = true := by simpa using hz
      rw [hz, Bool.true_and] at hfr
      have hle : 2 ^ i ≤ fc := Nat.ge_two_pow_of_testBit hz
      have hsl : fc - 2 ^ i ≤ fc := Nat.sub_le _ _
      have hsub : IntKind.i64.wrap ((fc : Int) - ((2 ^ i : Nat) : Int)) = ((fc - 2 ^ i : Nat) : Int) := by
        rw [← Int.ofNat_sub hle]; exact wrap_id (by omega) (by omega)
      generalize hq : (fun g => g &&& (fc - 2 ^ i) == fc - 2 ^ i) = q at *
      refine loop_of (fun (k : Nat) s => s.sl 0 = ints (ofN bs) ∧ s.sl 1 = int fc ∧ s.sl 5 = int (if (bs.take k).any q = true then frN bs fc i ||| 2 ^ i else frN bs fc i : Nat) ∧ s.sl 6 = int i ∧ s.sl 7 = int (2 ^ i : Nat) ∧ s.sl 8 = int k ∧ (k ≤ bs.length)) (fun k => bs.length - k) (0) (by refine ⟨?_, ?_, ?_, ?_, ?_, ?_, by omega⟩ <;> (first | (simp (maxSteps := 5000000) -dsimp only [gr, Nat.reduceEqDiff, Nat.reduceLT, Nat.reduceAdd, Nat.reduceMod, Nat.reduceBEq, sid_mod, sid_ne1, sid_ne2, sid_inj, h0a, h1a, h5a, h6a, hsh, hui, List.take_zero, List.any_nil]; first | done | rfl | (simp; done)) | assumption | rfl)) ?_
      intro k sb ⟨h0b, h1b, h5b, h6b, h7b, h8b, hIb⟩
      simp (maxSteps := 5000000) -dsimp only [↓gp, gq, reduceCtorEq, Nat.reduceEqDiff, Nat.reduceLT, Nat.reduceLeDiff, Nat.reduceAdd, Nat.reduceMul, Nat.reduceSub, Nat.reduceBEq, Int.reduceToNat, Int.reduceLE, Int.reduceLT, Int.reduceNeg, Nat.reduceMod, sid_ne1, sid_ne2, sid_inj, sid_mod, gT, TK.isInt, TK.agg, Array.toList, h0b, h1b, h5b, h6b, h7b, h8b, hol, hsub]
      refine ⟨fun hk => ?_, fun hk => ?_⟩
      · have hg := ok64_at hb hk
        have hx : iand .i64 ((bs.getD k 0 : Nat) : Int) ((fc - 2 ^ i : Nat) : Int) = ((bs.getD k 0 &&& (fc - 2 ^ i) : Nat) : Int) := iand_nat (by omega) (by omega)
        rw [ofN_getD hk, hx]
        have hany : (bs.take (k + 1)).any q = ((bs.take k).any q || q (bs.getD k 0)) := by rw [take_snoc 0 hk, List.any_append]; simp
        have hqk : q (bs.getD k 0) = (bs.getD k 0 &&& (fc - 2 ^ i) == fc - 2 ^ i) := by rw [← hq]
        have hcast : (((bs.getD k 0 &&& (fc - 2 ^ i) : Nat) : Int) == ((fc - 2 ^ i : Nat) : Int)) = (bs.getD k 0 &&& (fc - 2 ^ i) == fc - 2 ^ i) := by
          rw [Bool.eq_iff_iff, beq_iff_eq, beq_iff_eq]; omega
        refine ⟨hk, hk, fun he => ?_, fun he => ?_⟩
        · have he : q (bs.getD k 0) = true := by rw [hqk, ← hcast]; exact he
          have hlt : frN bs fc i < 64 := fr_lt hs
          have hlt2 : frN bs fc i ||| 2 ^ i < 64 := Nat.or_lt_two_pow (n := 6) hlt (by omega)
          have hor : ior .i64 ((if (bs.take k).any q = true then frN bs fc i ||| 2 ^ i else frN bs fc i : Nat) : Int) ((2 ^ i : Nat) : Int) = ((frN bs fc i ||| 2 ^ i : Nat) : Int) := by
            rw [ior_nat (by split <;> omega) (by omega)]
            split
            · rw [Nat.or_assoc, Nat.or_self]
            · rfl
          exact again_of (k + 1) (by refine ⟨?_, ?_, ?_, ?_, ?_, ?_, by omega⟩ <;> (first | (simp (maxSteps := 5000000) -dsimp only [gr, Nat.reduceEqDiff, Nat.reduceLT, Nat.reduceAdd, Nat.reduceMod, Nat.reduceBEq, sid_mod, sid_ne1, sid_ne2, sid_inj, h0b, h1b, h5b, h6b, h7b, h8b, wrap_nat hk hl, hany, he, hor, Bool.or_true, if_true]; first | done | rfl | (simp; done)) | assumption | rfl)) (by first | omega | (simp only; omega) | (dsimp only; omega) | (show _ < _; simp; omega))
        · have he : q (bs.getD k 0) = false := by rw [hqk, ← hcast]; exact he
          exact again_of (k + 1) (by refine ⟨?_, ?_, ?_, ?_, ?_, ?_, by omega⟩ <;> (first | (simp (maxSteps := 5000000) -dsimp only [gr, Nat.reduceEqDiff, Nat.reduceLT, Nat.reduceAdd, Nat.reduceMod, Nat.reduceBEq, sid_mod, sid_ne1, sid_ne2, sid_inj, h0b, h1b, h5b, h6b, h7b, h8b, wrap_nat hk hl, hany, he, Bool.or_false]; first | done | rfl | (simp; done)) | assumption | rfl)) (by first | omega | (simp only; omega) | (dsimp only; omega) | (show _ < _; simp; omega))
      · have e : k = bs.length := by omega
        rw [e, List.take_length, ← hfr] at h5b
        exact again_of (i + 1) (by refine ⟨?_, ?_, ?_, ?_, by omega⟩ <;> (first | (simp (maxSteps := 5000000) -dsimp only [gr, Nat.reduceEqDiff, Nat.reduceLT, Nat.reduceAdd, Nat.reduceMod, Nat.reduceBEq, sid_mod, sid_ne1, sid_ne2, sid_inj, h0a, h1a, h5a, h6a, h0b, h1b, h5b, h6b, wrap_nat hi (by omega)]; first | done | rfl | (simp; done)) | assumption | rfl)) (by first | omega | (simp only; omega) | (dsimp only; omega) | (show _ < _; simp; omega))
  · have e : i = 6 := by omega
    subst e
    simp (maxSteps := 5000000) -dsimp only [↓gp, gq, reduceCtorEq, Nat.reduceEqDiff, Nat.reduceLT, Nat.reduceLeDiff, Nat.reduceAdd, Nat.reduceMul, Nat.reduceSub, Nat.reduceBEq, Int.reduceToNat, Int.reduceLE, Int.reduceLT, Int.reduceNeg, Nat.reduceMod, sid_ne1, sid_ne2, sid_inj, sid_mod, gT, TK.isInt, TK.agg, Array.toList, h0a, h1a, h5a, h6a]
    exact fun h => absurd h (by decide)
theorem c_spec_l19Fits (bs : List Nat) (fc : Nat) (hb : ok64 bs) (hs : fc < 64) : AC Try.prog 186 [ints (ofN bs), int fc] (.im (bool (fitI bs fc))) := by
  refine AC.go (rs := [.tmp 4]) T_ok mixed Try.func186 rfl rfl rfl (by kernel_rfl) fun hl => ?_
  simp only [lens_cons, lens_nil, and_true, lens2_v, lens2_iL, true_and, ofN_length] at hl
  have hol := ofN_length bs
  rw [fit_eq hs hb]
  simp (maxSteps := 5000000) -dsimp only [↓gp, gq, reduceCtorEq, Nat.reduceEqDiff, Nat.reduceLT, Nat.reduceLeDiff, Nat.reduceAdd, Nat.reduceMul, Nat.reduceSub, Nat.reduceBEq, Int.reduceToNat, Int.reduceLE, Int.reduceLT, Int.reduceNeg, Nat.reduceMod, sid_ne1, sid_ne2, sid_inj, sid_mod, gT, TK.isInt, TK.agg, Array.toList, hol]
  refine ⟨fun h => ?_, fun h => ?_⟩
  · have : bs = [] := List.eq_nil_of_length_eq_zero (by have := beq_iff_eq.1 h; omega)
    subst this; rfl
  · refine askK_of (c_spec_l19New bs fc hb hs) ?_
    simp (maxSteps := 5000000) -dsimp only [↓gp, gq, reduceCtorEq, Nat.reduceEqDiff, Nat.reduceLT, Nat.reduceLeDiff, Nat.reduceAdd, Nat.reduceMul, Nat.reduceSub, Nat.reduceBEq, Int.reduceToNat, Int.reduceLE, Int.reduceLT, Int.reduceNeg, Nat.reduceMod, sid_ne1, sid_ne2, sid_inj, sid_mod, gT, TK.isInt, TK.agg, Array.toList]
    have hlt : frN bs fc 6 < 64 := fr_lt hs
    refine loop_of (fun (k : Nat) s => s.sl 0 = ints (ofN bs) ∧ s.sl 1 = int fc ∧ s.sl 5 = int (frN bs fc 6 : Nat) ∧ s.sl 6 = int k ∧ (k ≤ bs.length ∧ ∀ i, i < k → ((bs.getD i 0 &&& fc) &&& frN bs fc 6 != frN bs fc 6) = true)) (fun k => bs.length - k) (0) (by refine ⟨?_, ?_, ?_, ?_, by simp⟩ <;> (first | (simp (maxSteps := 5000000) -dsimp only [gr, Nat.reduceEqDiff, Nat.reduceLT, Nat.reduceAdd, Nat.reduceMod, Nat.reduceBEq, sid_mod, sid_ne1, sid_ne2, sid_inj]; first | done | rfl | (simp; done)) | assumption | rfl)) ?_
    intro k sa ⟨h0a, h1a, h5a, h6a, hIa⟩
    obtain ⟨hk, hall⟩ := hIa
    simp (maxSteps := 5000000) -dsimp only [↓gp, gq, reduceCtorEq, Nat.reduceEqDiff, Nat.reduceLT, Nat.reduceLeDiff, Nat.reduceAdd, Nat.reduceMul, Nat.reduceSub, Nat.reduceBEq, Int.reduceToNat, Int.reduceLE, Int.reduceLT, Int.reduceNeg, Nat.reduceMod, sid_ne1, sid_ne2, sid_inj, sid_mod, gT, TK.isInt, TK.agg, Array.toList, h0a, h1a, h5a, h6a, hol]
    refine ⟨fun h => ?_, fun h => ?_⟩
    · have hg := ok64_at hb h
      have h1 : bs.getD k 0 &&& fc ≤ fc := Nat.and_le_right
      have hx : iand .i64 (iand .i64 ((bs.getD k 0 : Nat) : Int) (fc : Int)) ((frN bs fc 6 : Nat) : Int) = (((bs.getD k 0 &&& fc) &&& frN bs fc 6 : Nat) : Int) := by rw [iand_nat (by omega) (by omega), iand_nat (by omega) (by omega)]
      rw [ofN_getD h, hx]
      refine ⟨h, h, fun he => ?_, fun he => again_of (k + 1) ⟨(by (first | (simp (maxSteps := 5000000) -dsimp only [gr, Nat.reduceEqDiff, Nat.reduceLT, Nat.reduceAdd, Nat.reduceMod, Nat.reduceBEq, sid_mod, sid_ne1, sid_ne2, sid_inj, h0a, h1a, h5a, h6a, wrap_nat h hl]; first | done | rfl | (simp; done)) | assumption | rfl)), (by (first | (simp (maxSteps := 5000000) -dsimp only [gr, Nat.reduceEqDiff, Nat.reduceLT, Nat.reduceAdd, Nat.reduceMod, Nat.reduceBEq, sid_mod, sid_ne1, sid_ne2, sid_inj, h0a, h1a, h5a, h6a, wrap_nat h hl]; first | done | rfl | (simp; done)) | assumption | rfl)), (by (first | (simp (maxSteps := 5000000) -dsimp only [gr, Nat.reduceEqDiff, Nat.reduceLT, Nat.reduceAdd, Nat.reduceMod, Nat.reduceBEq, sid_mod, sid_ne1, sid_ne2, sid_inj, h0a, h1a, h5a, h6a, wrap_nat h hl]; first | done | rfl | (simp; done)) | assumption | rfl)), (by (first | (simp (maxSteps := 5000000) -dsimp only [gr, Nat.reduceEqDiff, Nat.reduceLT, Nat.reduceAdd, Nat.reduceMod, Nat.reduceBEq, sid_mod, sid_ne1, sid_ne2, sid_inj, h0a, h1a, h5a, h6a, wrap_nat h hl]; first | done | rfl | (simp; done)) | assumption | rfl)), ⟨by omega, fun i hi => ?_⟩⟩ (by first | omega | (simp only; omega) | (dsimp only; omega) | (show _ < _; simp; omega))⟩
      · unfold fitS
        rw [List.all_eq_false]
        refine ⟨_, getD_mem 0 h, ?_⟩
        have he : (bs.getD k 0 &&& fc) &&& frN bs fc 6 = frN bs fc 6 := by have := beq_iff_eq.1 he; omega
        rw [he]; simp
      · rcases Nat.lt_succ_iff_lt_or_eq.1 hi with hi | rfl
        · exact hall i hi
        · rw [bne_iff_ne]
          have := beq_eq_false_iff_ne.1 he
          omega
    · unfold fitS
      rw [List.all_eq_true]
      intro x hx
      obtain ⟨i, hi, rfl⟩ := mem_getD 0 hx
      exact hall i (by omega)
/-- Whether a facet may stand behind others. -/
def shB (l : List Int) (x : Int) : Bool := fitI (l.map Int.toNat) x.toNat
theorem ofN_toNat {l : List Int} (h : okL l) : ofN (l.map Int.toNat) = l := by
  unfold ofN
  rw [List.map_map]
  have : ∀ x ∈ l, ((fun s : Nat => (s : Int)) ∘ Int.toNat) x = id x := fun x hx => by
    have := h x hx
    show ((x.toNat : Nat) : Int) = x
    omega
  rw [List.map_congr_left this, List.map_id]
theorem ok64_toNat {l : List Int} (h : okL l) : ok64 (l.map Int.toNat) := fun g hg => by
  obtain ⟨x, hx, rfl⟩ := List.mem_map.1 hg
  have := h x hx
  omega
theorem shB_perm (l l' : List Int) (x : Int) (h : l.Perm l') : shB l x = shB l' x := fitI_perm _ (h.map _)
theorem c_impl_shB (l : List Int) (x : Int) (hl : okL l) (hx : 0 ≤ x ∧ x < 64) : AC Try.prog 154 [ints l, int x] (.im (bool (shB l x))) := by
  have := c_impl_shellFits (l.map Int.toNat) x.toNat (ok64_toNat hl) (by omega)
  rw [ofN_toNat hl, show ((x.toNat : Nat) : Int) = x by omega] at this
  exact this
theorem c_spec_shB (l : List Int) (x : Int) (hl : okL l) (hx : 0 ≤ x ∧ x < 64) : AC Try.prog 186 [ints l, int x] (.im (bool (shB l x))) := by
  have := c_spec_l19Fits (l.map Int.toNat) x.toNat (ok64_toNat hl) (by omega)
  rw [ofN_toNat hl, show ((x.toNat : Nat) : Int) = x by omega] at this
  exact this
end Go.Proofs.Ytnfpeinbdfmlnaa

namespace Go.Proofs.Ytnfpeinbdfmlnaa
open Go.Abs
set_option linter.unusedSimpArgs false
set_option linter.unusedVariables false

theorem c_spec_l19Find (gens : List Int) (hg : okL gens) (hgl : gens.length ≤ 1000) : ∀ (n : Nat) (head : List Int), okL head → head.length + n = gens.length →
    AF Try.prog 151 (iL gens) (iL head) 3 (iL ((findF shB gens n head).getD [])) (findF shB gens n head).isSome := by
  intro n
  induction n with
  | zero =>
    intro head hh hn
    unfold AF
    refine AG.go (rs := [.tmp 4, .tmp 5]) T_ok mixed Try.func151 rfl rfl rfl (by kernel_rfl) fun hl hrl z hz hr => ?_
    have z0 : z.sl 0 = ints gens := by rw [hz]; rfl
    have z1 : z.sl 1 = .own 1000000 1 := by rw [hz]; rfl
    have y0 : z.rw 1000000 = ⟨1, .sli 3 1 false (iL head)⟩ := by rw [hr, givenR_at]
    clear hz hr
    simp (maxSteps := 5000000) -dsimp only [↓gp, gq, reduceCtorEq, Nat.reduceEqDiff, Nat.reduceLT, Nat.reduceLeDiff, Nat.reduceAdd, Nat.reduceMul, Nat.reduceSub, Nat.reduceBEq, Int.reduceToNat, Int.reduceLE, Int.reduceLT, Int.reduceNeg, Nat.reduceMod, sid_ne1, sid_ne2, sid_inj, sid_mod, gT, TK.isInt, TK.agg, Array.toList, z0, z1, y0]
    refine ⟨fun _ => ⟨1000000, 1, .inl rfl, rfl, by simp (maxSteps := 5000000) -dsimp only [gr, Nat.reduceEqDiff, Nat.reduceLT, Nat.reduceAdd, Nat.reduceMod, Nat.reduceBEq, sid_mod, sid_ne1, sid_ne2, sid_inj, y0]; rfl⟩, fun h => ?_⟩
    rw [beq_eq_false_iff_ne] at h
    exact absurd (by omega) h
  | succ n ih =>
    intro head hh hn
    unfold AF
    refine AG.go (rs := [.tmp 4, .tmp 5]) T_ok mixed Try.func151 rfl rfl rfl (by kernel_rfl) fun hl hrl z hz hr => ?_
    have z0 : z.sl 0 = ints gens := by rw [hz]; rfl
    have z1 : z.sl 1 = .own 1000000 1 := by rw [hz]; rfl
    have y0 : z.rw 1000000 = ⟨1, .sli 3 1 false (iL head)⟩ := by rw [hr, givenR_at]
    clear hz hr
    simp (maxSteps := 5000000) -dsimp only [↓gp, gq, reduceCtorEq, Nat.reduceEqDiff, Nat.reduceLT, Nat.reduceLeDiff, Nat.reduceAdd, Nat.reduceMul, Nat.reduceSub, Nat.reduceBEq, Int.reduceToNat, Int.reduceLE, Int.reduceLT, Int.reduceNeg, Nat.reduceMod, sid_ne1, sid_ne2, sid_inj, sid_mod, gT, TK.isInt, TK.agg, Array.toList, z0, z1, y0]
    have hne : ((head.length : Int) == (gens.length : Int)) = false := by rw [beq_eq_false_iff_ne]; omega
    refine ⟨fun h => absurd (hne.symm.trans h) (by decide), fun _ => ?_⟩
    have hF : ∀ g, (if decide (g ∈ head) || !shB head g then none else findF shB gens n (head ++ [g])) = (fun g => if decide (g ∈ head) || !shB head g then none else findF shB gens n (head ++ [g])) g := fun _ => rfl
    have hdef : findF shB gens (n + 1) head = gens.findSome? (fun g => if decide (g ∈ head) || !shB head g then none else findF shB gens n (head ++ [g])) := rfl
    rw [hdef]
    generalize hf : (fun g => if decide (g ∈ head) || !shB head g then none else findF shB gens n (head ++ [g])) = f at *
    refine loop_of (fun (k : Nat) s => s.sl 0 = ints gens ∧ s.sl 1 = .own 1000000 1 ∧ s.rw 1000000 = ⟨1, .sli 3 1 false (iL head)⟩ ∧ s.sl 6 = int k ∧ (k ≤ gens.length ∧ (gens.take k).findSome? f = none)) (fun k => gens.length - k) (0) (by refine ⟨?_, ?_, ?_, ?_, ⟨Nat.zero_le _, rfl⟩⟩ <;> (first | (simp (maxSteps := 5000000) -dsimp only [gr, Nat.reduceEqDiff, Nat.reduceLT, Nat.reduceAdd, Nat.reduceMod, Nat.reduceBEq, sid_mod, sid_ne1, sid_ne2, sid_inj, z0, z1, y0]; first | done | rfl | (simp; done)) | assumption | rfl)) ?_
    intro k sa ⟨h0a, h1a, r1000000a, h6a, hIa⟩
    obtain ⟨hk, hnone⟩ := hIa
    simp (maxSteps := 5000000) -dsimp only [↓gp, gq, reduceCtorEq, Nat.reduceEqDiff, Nat.reduceLT, Nat.reduceLeDiff, Nat.reduceAdd, Nat.reduceMul, Nat.reduceSub, Nat.reduceBEq, Int.reduceToNat, Int.reduceLE, Int.reduceLT, Int.reduceNeg, Nat.reduceMod, sid_ne1, sid_ne2, sid_inj, sid_mod, gT, TK.isInt, TK.agg, Array.toList, h0a, h1a, r1000000a, h6a]
    refine ⟨fun h => ?_, fun h => ?_⟩
    · have hgk := hg _ (getD_mem 0 h)
      refine ⟨h, h, askK_of (c_spec_l2Has head _) ?_⟩
      simp (maxSteps := 5000000) -dsimp only [↓gp, gq, reduceCtorEq, Nat.reduceEqDiff, Nat.reduceLT, Nat.reduceLeDiff, Nat.reduceAdd, Nat.reduceMul, Nat.reduceSub, Nat.reduceBEq, Int.reduceToNat, Int.reduceLE, Int.reduceLT, Int.reduceNeg, Nat.reduceMod, sid_ne1, sid_ne2, sid_inj, sid_mod, gT, TK.isInt, TK.agg, Array.toList, h0a, h1a, r1000000a, h6a]
      have hgo : f (gens.getD k 0) = if decide (gens.getD k 0 ∈ head) || !shB head (gens.getD k 0) then none else findF shB gens n (head ++ [gens.getD k 0]) := by rw [← hf]
      have hskip : f (gens.getD k 0) = none → (gens.take (k + 1)).findSome? f = none := fun e => by rw [findSome_take f 0 h, hnone, e]; rfl
      refine ⟨fun hm => ⟨h, h, askK_of (c_spec_shB head _ hh hgk) ?_⟩, fun hm => ?_⟩
      · simp (maxSteps := 5000000) -dsimp only [↓gp, gq, reduceCtorEq, Nat.reduceEqDiff, Nat.reduceLT, Nat.reduceLeDiff, Nat.reduceAdd, Nat.reduceMul, Nat.reduceSub, Nat.reduceBEq, Int.reduceToNat, Int.reduceLE, Int.reduceLT, Int.reduceNeg, Nat.reduceMod, sid_ne1, sid_ne2, sid_inj, sid_mod, gT, TK.isInt, TK.agg, Array.toList, h0a, h1a, r1000000a, h6a]
        refine ⟨fun hb => ?_, fun hb => ?_⟩
        · have e : f (gens.getD k 0) = none := by rw [hgo, if_pos (by rw [show shB head (gens.getD k 0) = false by simpa using hb]; simp)]
          exact again_of (k + 1) (by refine ⟨?_, ?_, ?_, ?_, ⟨by omega, hskip e⟩⟩ <;> (first | (simp (maxSteps := 5000000) -dsimp only [gr, Nat.reduceEqDiff, Nat.reduceLT, Nat.reduceAdd, Nat.reduceMod, Nat.reduceBEq, sid_mod, sid_ne1, sid_ne2, sid_inj, h0a, h1a, r1000000a, h6a, wrap_nat h (by omega)]; first | done | rfl | (simp; done)) | assumption | rfl)) (by first | omega | (simp only; omega) | (dsimp only; omega) | (show _ < _; simp; omega))
        · have hb : shB head (gens.getD k 0) = true := by simpa using hb
          have e : f (gens.getD k 0) = findF shB gens n (head ++ [gens.getD k 0]) := by
            rw [hgo, if_neg (by rw [hb]; simpa using hm)]
          have hIH := ih (head ++ [gens.getD k 0]) (fun b hb' => by
            rcases List.mem_append.1 hb' with h' | h'
            · exact hh b h'
            · rw [List.mem_singleton.1 h']; exact hgk) (by simp; omega)
          rw [← e] at hIH
          refine ⟨by kernel_rfl, by omega, h, h, by omega, askDF_of hIH (by simp (maxSteps := 5000000) -dsimp only [gr, Nat.reduceEqDiff, Nat.reduceLT, Nat.reduceAdd, Nat.reduceMod, Nat.reduceBEq, sid_mod, sid_ne1, sid_ne2, sid_inj]; rw [show iL (head ++ [gens.getD k 0]) = iL head ++ iL [gens.getD k 0] from by simp [iL]]) (plain_iL _) (by decide) (by decide) ?_⟩
          simp (maxSteps := 5000000) -dsimp only [↓gp, gq, reduceCtorEq, Nat.reduceEqDiff, Nat.reduceLT, Nat.reduceLeDiff, Nat.reduceAdd, Nat.reduceMul, Nat.reduceSub, Nat.reduceBEq, Int.reduceToNat, Int.reduceLE, Int.reduceLT, Int.reduceNeg, Nat.reduceMod, sid_ne1, sid_ne2, sid_inj, sid_mod, gT, TK.isInt, TK.agg, Array.toList, h0a, h1a, r1000000a, h6a]
          refine ⟨by kernel_rfl, fun hs => ?_, fun hs => ?_⟩
          · obtain ⟨x, hx⟩ := Option.isSome_iff_exists.1 hs
            rw [findSome_hit f 0 h hnone hx]
            rw [hx]
            exact ⟨47, _, .inr (by decide), rfl, by simp (maxSteps := 5000000) -dsimp only [gr, Nat.reduceEqDiff, Nat.reduceLT, Nat.reduceAdd, Nat.reduceMod, Nat.reduceBEq, sid_mod, sid_ne1, sid_ne2, sid_inj]⟩
          · have e0 : f (gens.getD k 0) = none := by
              cases hx : f (gens.getD k 0) with
              | none => rfl
              | some x => rw [hx] at hs; cases hs
            exact again_of (k + 1) (by refine ⟨?_, ?_, ?_, ?_, ⟨by omega, hskip e0⟩⟩ <;> (first | (simp (maxSteps := 5000000) -dsimp only [gr, Nat.reduceEqDiff, Nat.reduceLT, Nat.reduceAdd, Nat.reduceMod, Nat.reduceBEq, sid_mod, sid_ne1, sid_ne2, sid_inj, h0a, h1a, r1000000a, h6a, wrap_nat h (by omega)]; first | done | rfl | (simp; done)) | assumption | rfl)) (by first | omega | (simp only; omega) | (dsimp only; omega) | (show _ < _; simp; omega))
      · have e : f (gens.getD k 0) = none := by rw [hgo, if_pos (by simpa using Or.inl hm)]
        exact again_of (k + 1) (by refine ⟨?_, ?_, ?_, ?_, ⟨by omega, hskip e⟩⟩ <;> (first | (simp (maxSteps := 5000000) -dsimp only [gr, Nat.reduceEqDiff, Nat.reduceLT, Nat.reduceAdd, Nat.reduceMod, Nat.reduceBEq, sid_mod, sid_ne1, sid_ne2, sid_inj, h0a, h1a, r1000000a, h6a, wrap_nat h (by omega)]; first | done | rfl | (simp; done)) | assumption | rfl)) (by first | omega | (simp only; omega) | (dsimp only; omega) | (show _ < _; simp; omega))
    · have e : k = gens.length := by omega
      rw [e, List.take_length] at hnone
      rw [hnone]
      exact ⟨52, _, .inr (by decide), rfl, by simp (maxSteps := 5000000) -dsimp only [gr, Nat.reduceEqDiff, Nat.reduceLT, Nat.reduceAdd, Nat.reduceMod, Nat.reduceBEq, sid_mod, sid_ne1, sid_ne2, sid_inj]; rfl⟩
noncomputable def fshO (n : Int) (xs : List Int) : Option (List Int) := if isCx n xs = true ∧ xs.length ≤ 8 then findF shB (srtL xs) (srtL xs).length [] else none
theorem c_spec_FindShelling (n : Int) (xs : List Int) : AC Try.prog 100 [.ag [int n, ints xs]] (.tup [.fr 3 1 (iL ((fshO n xs).getD [])), .im (bool (fshO n xs).isSome)]) := by
  refine AC.go (rs := [.tmp 2, .tmp 3]) T_ok mixed Try.func100 rfl rfl rfl (by kernel_rfl) fun hl => ?_
  simp (maxSteps := 5000000) -dsimp only [↓gp, gq, reduceCtorEq, Nat.reduceEqDiff, Nat.reduceLT, Nat.reduceLeDiff, Nat.reduceAdd, Nat.reduceMul, Nat.reduceSub, Nat.reduceBEq, Int.reduceToNat, Int.reduceLE, Int.reduceLT, Int.reduceNeg, Nat.reduceMod, sid_ne1, sid_ne2, sid_inj, sid_mod, gT, TK.isInt, TK.agg, Array.toList]
  refine askK_of (c_spec_IsComplex n xs) ?_
  simp (maxSteps := 5000000) -dsimp only [↓gp, gq, reduceCtorEq, Nat.reduceEqDiff, Nat.reduceLT, Nat.reduceLeDiff, Nat.reduceAdd, Nat.reduceMul, Nat.reduceSub, Nat.reduceBEq, Int.reduceToNat, Int.reduceLE, Int.reduceLT, Int.reduceNeg, Nat.reduceMod, sid_ne1, sid_ne2, sid_inj, sid_mod, gT, TK.isInt, TK.agg, Array.toList]
  unfold fshO
  refine ⟨fun hc => ?_, fun hc => ?_⟩
  · have hc : isCx n xs = true := by simpa using hc
    refine ⟨fun h8 => ?_, fun h8 => ?_⟩
    · rw [if_neg (by omega)]; exact ⟨rfl, rfl⟩
    · rw [if_pos ⟨hc, by omega⟩]
      refine loop_of (fun (za : Nat × Nat) s => match za with | (m, v) => s.sl 1 = .ref 1 1 0 ∧ s.rw 1 = ⟨1, .box 57 [int n, ints xs]⟩ ∧ s.sl 4 = .own 18 v ∧ s.rw 18 = ⟨v, .sli 3 1 false (iL (ofN ((List.range m).filter (inF xs))))⟩ ∧ s.sl 5 = int m ∧ (m ≤ 64)) (fun (m, v) => 64 - m) ((0, 1)) (by refine ⟨?_, ?_, ?_, ?_, ?_, by simp⟩ <;> (first | (simp (maxSteps := 5000000) -dsimp only [gr, Nat.reduceEqDiff, Nat.reduceLT, Nat.reduceAdd, Nat.reduceMod, Nat.reduceBEq, sid_mod, sid_ne1, sid_ne2, sid_inj]; first | done | rfl | (simp; done)) | assumption | rfl)) ?_
      intro (m, v) sa ⟨h1a, r1a, h4a, r18a, h5a, hIa⟩
      have hfl : ((List.range m).filter (inF xs)).length ≤ 64 := by
        have := List.length_filter_le (inF xs) (List.range m)
        rw [List.length_range] at this
        omega
      simp (maxSteps := 5000000) -dsimp only [↓gp, gq, reduceCtorEq, Nat.reduceEqDiff, Nat.reduceLT, Nat.reduceLeDiff, Nat.reduceAdd, Nat.reduceMul, Nat.reduceSub, Nat.reduceBEq, Int.reduceToNat, Int.reduceLE, Int.reduceLT, Int.reduceNeg, Nat.reduceMod, sid_ne1, sid_ne2, sid_inj, sid_mod, gT, TK.isInt, TK.agg, Array.toList, h1a, r1a, h4a, r18a, h5a]
      refine ⟨fun h => askK_of (c_spec_l2Has xs _) ?_, fun h => ?_⟩
      · simp (maxSteps := 5000000) -dsimp only [↓gp, gq, reduceCtorEq, Nat.reduceEqDiff, Nat.reduceLT, Nat.reduceLeDiff, Nat.reduceAdd, Nat.reduceMul, Nat.reduceSub, Nat.reduceBEq, Int.reduceToNat, Int.reduceLE, Int.reduceLT, Int.reduceNeg, Nat.reduceMod, sid_ne1, sid_ne2, sid_inj, sid_mod, gT, TK.isInt, TK.agg, Array.toList, h1a, r1a, h4a, r18a, h5a]
        have hyes : (m : Int) ∈ xs → ofN ((List.range (m + 1)).filter (inF xs)) = ofN ((List.range m).filter (inF xs)) ++ [(m : Int)] := fun h => by
          rw [List.range_succ, List.filter_append, ofN_append]
          simp [inF, h, ofN]
        have hno : ¬ (m : Int) ∈ xs → ofN ((List.range (m + 1)).filter (inF xs)) = ofN ((List.range m).filter (inF xs)) := fun h => by
          rw [List.range_succ, List.filter_append, ofN_append]
          simp [inF, h, ofN]
        refine ⟨fun hm => ⟨by rw [ofN_length]; omega, again_of ((m + 1, v + 1)) (by refine ⟨?_, ?_, ?_, ?_, ?_, by dsimp only; omega⟩ <;> (first | (simp (maxSteps := 5000000) -dsimp only [gr, Nat.reduceEqDiff, Nat.reduceLT, Nat.reduceAdd, Nat.reduceMod, Nat.reduceBEq, sid_mod, sid_ne1, sid_ne2, sid_inj, h1a, r1a, h4a, r18a, h5a, wrap_nat (show m < 64 by omega) (by omega), hyes hm]; first | done | rfl | (simp; done)) | assumption | rfl)) (by first | omega | (simp only; omega) | (dsimp only; omega) | (show _ < _; simp; omega))⟩, fun hm => again_of ((m + 1, v)) (by refine ⟨?_, ?_, ?_, ?_, ?_, by dsimp only; omega⟩ <;> (first | (simp (maxSteps := 5000000) -dsimp only [gr, Nat.reduceEqDiff, Nat.reduceLT, Nat.reduceAdd, Nat.reduceMod, Nat.reduceBEq, sid_mod, sid_ne1, sid_ne2, sid_inj, h1a, r1a, h4a, r18a, h5a, wrap_nat (show m < 64 by omega) (by omega), hno hm]; first | done | rfl | (simp; done)) | assumption | rfl)) (by first | omega | (simp only; omega) | (dsimp only; omega) | (show _ < _; simp; omega))⟩
      · have e64 : m = 64 := by omega
        subst e64
        have hF := c_spec_l19Find (srtL xs) (srt_ok xs) (by have := srt_len xs; omega) (srtL xs).length [] (fun b hb => by cases hb) (by simp)
        generalize findF shB (srtL xs) (srtL xs).length [] = o at *
        refine askF_of hF (.inr ⟨18, v, 3, false, rfl, by decide, by simp (maxSteps := 5000000) -dsimp only [gr, Nat.reduceEqDiff, Nat.reduceLT, Nat.reduceAdd, Nat.reduceMod, Nat.reduceBEq, sid_mod, sid_ne1, sid_ne2, sid_inj, h1a, r1a, h4a, r18a, h5a]; rfl⟩) (by simp (maxSteps := 5000000) -dsimp only [gr, Nat.reduceEqDiff, Nat.reduceLT, Nat.reduceAdd, Nat.reduceMod, Nat.reduceBEq, sid_mod, sid_ne1, sid_ne2, sid_inj]; rfl) (plain_iL _) (by decide) fun S v2 r hr hSd hSr hSs hSrw => ?_
        rcases hr with rfl | rfl
        · simp (maxSteps := 5000000) -dsimp only [↓gp, gq, reduceCtorEq, Nat.reduceEqDiff, Nat.reduceLT, Nat.reduceLeDiff, Nat.reduceAdd, Nat.reduceMul, Nat.reduceSub, Nat.reduceBEq, Int.reduceToNat, Int.reduceLE, Int.reduceLT, Int.reduceNeg, Nat.reduceMod, sid_ne1, sid_ne2, sid_inj, sid_mod, gT, TK.isInt, TK.agg, Array.toList, hSd, hSr]
        · simp (maxSteps := 5000000) -dsimp only [↓gp, gq, reduceCtorEq, Nat.reduceEqDiff, Nat.reduceLT, Nat.reduceLeDiff, Nat.reduceAdd, Nat.reduceMul, Nat.reduceSub, Nat.reduceBEq, Int.reduceToNat, Int.reduceLE, Int.reduceLT, Int.reduceNeg, Nat.reduceMod, sid_ne1, sid_ne2, sid_inj, sid_mod, gT, TK.isInt, TK.agg, Array.toList, hSd, hSr]
  · rw [if_neg (fun h => by rw [h.1] at hc; cases hc)]; exact ⟨rfl, rfl⟩
theorem fshO_eq (n : Int) (xs : List Int) : fshO n xs = if isCx n xs = true then leastO shB xs else none := by
  unfold fshO leastO
  by_cases hc : isCx n xs = true
  · have hp := isCx_iff.1 hc
    have e := sort_srt (cx_nodup hp) (cx_okL hp)
    rw [if_pos hc, ← e, sortI_len]
    by_cases h8 : xs.length ≤ 8
    · rw [if_pos ⟨hc, h8⟩, if_pos h8]
    · rw [if_neg (fun h => h8 h.2), if_neg h8]
  · rw [if_neg hc, if_neg (fun h => hc h.1)]
theorem c_impl_FindShelling (n : Int) (xs : List Int) : AC Try.prog 102 [.ag [int n, ints xs]] (.tup [.fr 3 1 (iL ((fshO n xs).getD [])), .im (bool (fshO n xs).isSome)]) := by
  refine AC.go (rs := [.tmp 2, .tmp 3]) T_ok mixed Try.func102 rfl rfl rfl (by kernel_rfl) fun hl => ?_
  rw [fshO_eq]
  simp (maxSteps := 5000000) -dsimp only [↓gp, gq, reduceCtorEq, Nat.reduceEqDiff, Nat.reduceLT, Nat.reduceLeDiff, Nat.reduceAdd, Nat.reduceMul, Nat.reduceSub, Nat.reduceBEq, Int.reduceToNat, Int.reduceLE, Int.reduceLT, Int.reduceNeg, Nat.reduceMod, sid_ne1, sid_ne2, sid_inj, sid_mod, gT, TK.isInt, TK.agg, Array.toList]
  refine askK_of (c_impl_IsComplex n xs) ?_
  simp (maxSteps := 5000000) -dsimp only [↓gp, gq, reduceCtorEq, Nat.reduceEqDiff, Nat.reduceLT, Nat.reduceLeDiff, Nat.reduceAdd, Nat.reduceMul, Nat.reduceSub, Nat.reduceBEq, Int.reduceToNat, Int.reduceLE, Int.reduceLT, Int.reduceNeg, Nat.reduceMod, sid_ne1, sid_ne2, sid_inj, sid_mod, gT, TK.isInt, TK.agg, Array.toList]
  refine ⟨fun hc => ?_, fun hc => ?_⟩
  · have hc : isCx n xs = false := by simpa using hc
    rw [if_neg (by rw [hc]; decide)]; exact ⟨rfl, rfl⟩
  · have hc : isCx n xs = true := by simpa using hc
    have hp := isCx_iff.1 hc
    rw [if_pos hc]
    refine askK_of (c_leastOrder 154 shB c_impl_shB shB_perm xs (cx_nodup hp) (cx_okL hp)) ?_
    simp (maxSteps := 5000000) -dsimp only [↓gp, gq, reduceCtorEq, Nat.reduceEqDiff, Nat.reduceLT, Nat.reduceLeDiff, Nat.reduceAdd, Nat.reduceMul, Nat.reduceSub, Nat.reduceBEq, Int.reduceToNat, Int.reduceLE, Int.reduceLT, Int.reduceNeg, Nat.reduceMod, sid_ne1, sid_ne2, sid_inj, sid_mod, gT, TK.isInt, TK.agg, Array.toList]
theorem fsh_len (n : Int) (xs : List Int) : ((fshO n xs).getD []).length ≤ 64 := by
  unfold fshO
  split
  · rename_i h
    cases ho : findF shB (srtL xs) (srtL xs).length [] with
    | none => simp
    | some l =>
      have := findF_len _ _ _ ho
      have := srt_len xs
      simp only [Option.getD_some, List.length_nil] at *
      omega
  · simp
end Go.Proofs.Ytnfpeinbdfmlnaa

namespace Go.Proofs.Ytnfpeinbdfmlnaa
open Go.Abs
set_option linter.unusedSimpArgs false
set_option linter.unusedVariables false

theorem push_fold : ∀ (l : List UInt8) (a : ByteArray), ((l.map fun x => (x.toNat : Int)).foldl (fun r n => r.push (UInt8.ofNat n.toNat)) a) = ⟨(a.data.toList ++ l).toArray⟩ := by
  intro l
  induction l with
  | nil => intro a; simp
  | cons x l ih =>
    intro a
    rw [List.map_cons, List.foldl_cons, ih]
    have : UInt8.ofNat ((x.toNat : Int)).toNat = x := by simp
    rw [this]
    congr 1
    simp [ByteArray.push]
theorem cvRow_strB (ver e : Nat) (fz : Bool) (b : ByteArray) {Kp : PV → Prop} : cvRow ⟨ver, .sli e 1 fz (strB b)⟩ ver Kp = Kp (.v (.string b)) := by
  unfold cvRow
  simp only [true_and]
  have hb : strB b = (b.data.toList.map fun x => (x.toNat : Int)).map (fun n => PV.v (.int .u8 n)) := by simp [strB]
  have hf := push_fold b.data.toList ByteArray.empty
  have hf : ((b.data.toList.map fun x => (x.toNat : Int)).foldl (fun r n => r.push (UInt8.ofNat n.toNat)) ByteArray.empty) = b := by
    rw [hf]; show (⟨(([] : List UInt8) ++ b.data.toList).toArray⟩ : ByteArray) = b; simp
  refine propext ⟨fun ⟨bs, h1, h2⟩ => ?_, fun h => ⟨_, hb, by rw [hf]; exact h⟩⟩
  rw [hb] at h1
  have : b.data.toList.map (fun x => (x.toNat : Int)) = bs := (List.map_inj_right (fun x y h => by simpa using h)).1 h1
  rw [← this, hf] at h2
  exact h2
theorem strB_append (a b : ByteArray) : strB a ++ strB b = strB (a ++ b) := by
  unfold strB
  rw [← List.map_append, ByteArray.data_append, Array.toList_append]
theorem strB_nil : strB ⟨#[]⟩ = [] := rfl
/-- Texts joined, on the way. -/
def joinP (l : List ByteArray) (sep : ByteArray) : Nat → ByteArray | 0 => ⟨#[]⟩ | i + 1 => (if i = 0 then joinP l sep i else joinP l sep i ++ sep) ++ l.getD i ⟨#[]⟩
theorem c_spec_Join (l : List ByteArray) (sep : ByteArray) (hN : l.length ≤ 1000) (hb : ∀ i, i ≤ l.length → (joinP l sep i).size + sep.size ≤ 1000000) : AC Try.prog 153 [.sl false 1 (sL l), str sep] (.im (str (joinP l sep l.length))) := by
  refine AC.go (rs := [.tmp 4]) T_ok mixed Try.func153 rfl rfl rfl (by kernel_rfl) fun hl => ?_
  simp only [lens_cons, lens_nil, and_true, lens2_ag2, lens1_v, lens1_iL, lens2_iL, lens2_v, true_and] at hl
  simp (maxSteps := 5000000) -dsimp only [↓gp, gq, reduceCtorEq, Nat.reduceEqDiff, Nat.reduceLT, Nat.reduceLeDiff, Nat.reduceAdd, Nat.reduceMul, Nat.reduceSub, Nat.reduceBEq, Int.reduceToNat, Int.reduceLE, Int.reduceLT, Int.reduceNeg, Nat.reduceMod, sid_ne1, sid_ne2, sid_inj, sid_mod, gT, TK.isInt, TK.agg, Array.toList]
  refine loop_of (fun (za : Nat × Nat) s => match za with | (i, v) => s.sl 0 = .sl false 1 (sL l) ∧ s.sl 1 = str sep ∧ s.sl 5 = .own 7 v ∧ s.rw 7 = ⟨v, .sli 5 1 false (strB (joinP l sep i))⟩ ∧ s.sl 6 = int i ∧ (i ≤ l.length)) (fun (i, v) => l.length - i) ((0, 1)) (by refine ⟨?_, ?_, ?_, ?_, ?_, by omega⟩ <;> (first | (simp (maxSteps := 5000000) -dsimp only [gr, Nat.reduceEqDiff, Nat.reduceLT, Nat.reduceAdd, Nat.reduceMod, Nat.reduceBEq, sid_mod, sid_ne1, sid_ne2, sid_inj, joinP, strB_nil]; first | done | rfl | (simp; done)) | assumption | rfl)) ?_
  intro (i, v) sa ⟨h0a, h1a, h5a, r7a, h6a, hIa⟩
  have hsl : (sL l).length = l.length := by simp [sL]
  have hbi := hb i hIa
  simp (maxSteps := 5000000) -dsimp only [↓gp, gq, reduceCtorEq, Nat.reduceEqDiff, Nat.reduceLT, Nat.reduceLeDiff, Nat.reduceAdd, Nat.reduceMul, Nat.reduceSub, Nat.reduceBEq, Int.reduceToNat, Int.reduceLE, Int.reduceLT, Int.reduceNeg, Nat.reduceMod, sid_ne1, sid_ne2, sid_inj, sid_mod, gT, TK.isInt, TK.agg, Array.toList, h0a, h1a, h5a, r7a, h6a, hsl, conv_own, cvRow_strB]
  refine ⟨fun h => ?_, fun h => ?_⟩
  · have hb1 := hb (i + 1) h
    have hw := wrap_nat h (show l.length ≤ 9223372036854775807 by omega)
    have hse := strB_length sep
    have hsj := strB_length (joinP l sep i)
    refine ⟨fun h0 => ?_, fun h0 => ?_⟩
    · have e : joinP l sep (i + 1) = (joinP l sep i ++ sep) ++ l.getD i ⟨#[]⟩ := by rw [joinP, if_neg (by omega)]
      rw [e, ByteArray.size_append, ByteArray.size_append] at hb1
      have e2 : strB (joinP l sep i) ++ strB sep ++ strB (l.getD i ⟨#[]⟩) = strB (joinP l sep (i + 1)) := by rw [strB_append, strB_append, e]
      exact ⟨by omega, h, h, by rw [List.length_append]; omega, again_of ((i + 1, v + 1 + 1)) (by refine ⟨?_, ?_, ?_, ?_, ?_, by dsimp only; omega⟩ <;> (first | (simp (maxSteps := 5000000) -dsimp only [gr, Nat.reduceEqDiff, Nat.reduceLT, Nat.reduceAdd, Nat.reduceMod, Nat.reduceBEq, sid_mod, sid_ne1, sid_ne2, sid_inj, h0a, h1a, h5a, r7a, h6a, hw, e2]; first | done | rfl | (simp; done)) | assumption | rfl)) (by first | omega | (simp only; omega) | (dsimp only; omega) | (show _ < _; simp; omega))⟩
    · have e : joinP l sep (i + 1) = joinP l sep i ++ l.getD i ⟨#[]⟩ := by rw [joinP, if_pos (by omega)]
      rw [e, ByteArray.size_append] at hb1
      have e2 : strB (joinP l sep i) ++ strB (l.getD i ⟨#[]⟩) = strB (joinP l sep (i + 1)) := by rw [strB_append, e]
      exact ⟨h, h, by omega, again_of ((i + 1, v + 1)) (by refine ⟨?_, ?_, ?_, ?_, ?_, by dsimp only; omega⟩ <;> (first | (simp (maxSteps := 5000000) -dsimp only [gr, Nat.reduceEqDiff, Nat.reduceLT, Nat.reduceAdd, Nat.reduceMod, Nat.reduceBEq, sid_mod, sid_ne1, sid_ne2, sid_inj, h0a, h1a, h5a, r7a, h6a, hw, e2]; first | done | rfl | (simp; done)) | assumption | rfl)) (by first | omega | (simp only; omega) | (dsimp only; omega) | (show _ < _; simp; omega))⟩
  · have : i = l.length := by omega
    rw [this]
end Go.Proofs.Ytnfpeinbdfmlnaa

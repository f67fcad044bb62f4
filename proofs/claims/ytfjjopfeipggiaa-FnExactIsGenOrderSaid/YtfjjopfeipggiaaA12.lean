/- DERIVED by an AI agent. Append, as memory has it. No program in sight. -/
import Derived.Test.YtfjjopfeipggiaaA11
namespace Go.Abs
set_option linter.unusedSimpArgs false

/-- A slice of the call's own, as memory has it. -/
def Phys (w : World) (e sz : Nat) (m : Option Nat) (v : Value) (vs : List Value) : Prop :=
  (m = none ∧ v = .slice none 0 0 ∧ vs = []) ∨
  ∃ b n cap rest, m = some b ∧ v = .slice (some ⟨b, 0, none⟩) n cap ∧ w.heap[b]? = some (.cells (vs ++ rest).toArray e (0, 0)) ∧ vs.length = n * sz ∧ n ≤ cap ∧ cap ≤ maxLen ∧ (vs ++ rest).length = cap * sz

/-- What append leaves. -/
structure Appended (w w' : World) (e sz : Nat) (m m' : Option Nat) (v' : Value) (vs : List Value) : Prop where
  phys : Phys w' e sz m' v' vs
  block : ∀ b, b < w.heap.size → m ≠ some b → w'.heap[b]? = w.heap[b]?
  size : w.heap.size ≤ w'.heap.size
  os : w'.os = w.os
  tape : w'.tape = w.tape
  output : w'.output = w.output
  fresh : ∀ b, m' = some b → m = some b ∨ w.heap.size ≤ b

section
variable {P : Program} {T : Tab}

theorem append_phys (hT : T.Ok P) {t e : TypeId} (ty : TypeId) (ht : 0 < (T t).size) (hk : (T t).k = .sli e) (he : 0 < (T e).size) (hb : 0 < (T e).bytes) {w : World} {m : Option Nat} {v : Value} {vs news : List Value}
    (hp : Phys w e (T e).size m v vs) {ax : Option Addr} {mx cx : Nat} (hl : news.length = mx * (T e).size)
    (hnews : ∀ i u, news[i]? = some u → ∃ b o, ax = some ⟨b, o, none⟩ ∧ w.cell? ⟨b, o + i, none⟩ = some u) (h1 : ∀ u ∈ news, u.oneCell' = true)
    (hlen : (vs.length + news.length) * (T e).bytes ≤ 140737488355328) :
    ∃ v' w' m', (Builtin.append_ #[t, t] ty #[v, .slice ax mx cx]).run P w = .ok v' w' ∧ Appended w w' e (T e).size m m' v' (vs ++ news) := by
  have hf := hT t ht
  have hu : P.underlying t = some (.slice e) := by have := hf.k; rw [hk] at this; exact this
  obtain ⟨i, z, hi, hsz, hby, hz, hzl⟩ := (hT e he).info
  have hsz' : i.size = (T e).size := hsz
  have hzs : z.cells.size = (T e).size := by rw [← Array.length_toList, hzl]; exact (hT e he).zlen
  by_cases hm : mx = 0
  · subst hm
    have hn0 : news = [] := List.eq_nil_of_length_eq_zero (by simpa using hl)
    subst hn0
    refine ⟨v, w, m, ?_, ⟨by simpa using hp, fun _ _ _ => rfl, Nat.le_refl _, rfl, rfl, rfl, fun b h => .inl h⟩⟩
    rcases hp with ⟨_, rfl, _⟩ | ⟨b, n, cap, rest, _, rfl, _, _, hnc, _⟩
    · cases ax <;> simp [Builtin.append_, run_underlying hu, sizeOf, typeInfo, hi, Builtin.lenOf, Builtin.firstCells, loadCells, loadCellsFrom]
    · cases ax <;> simp [Builtin.append_, run_underlying hu, sizeOf, typeInfo, hi, Builtin.lenOf, Builtin.firstCells, loadCells, loadCellsFrom, hnc, storeCells]
  · have hpos : 0 < news.length := by rw [hl]; exact Nat.mul_pos (by omega) he
    obtain ⟨b0, o0, rfl, _⟩ := hnews 0 news[0] (by simp [hpos])
    have hnews' : ∀ j u, news[j]? = some u → w.cell? ((⟨b0, o0, none⟩ : Addr).add j) = some u := fun j u hj => by
      obtain ⟨b', o', ha, hc⟩ := hnews j u hj
      injection ha with ha
      injection ha with h1 h2
      subst h1; subst h2
      rw [add_addr]; exact hc
    have hmle : mx ≤ news.length := by rw [hl]; exact Nat.le_mul_of_pos_right _ he
    have hbig : vs.length + news.length ≤ 140737488355328 := Nat.le_trans (Nat.le_mul_of_pos_right _ hb) hlen
    rcases hp with ⟨rfl, rfl, rfl⟩ | ⟨b, n, cap, rest, rfl, rfl, hh, hvl, hnc, hcm, hcl⟩
    · have hr := run_append_nil (P := P) w t ty e i z hu hi hz ⟨b0, o0, none⟩ mx cx news (by rw [hl, hsz']) hnews' (by omega) (by omega) (by
        rw [hby]
        have : mx * (T e).bytes ≤ news.length * (T e).bytes := Nat.mul_le_mul_right _ hmle
        simp at hlen; omega)
      refine ⟨_, _, some w.heap.size, hr, ⟨.inr ⟨w.heap.size, mx, _, (Builtin.zeroCells z.cells (grownCap w mx 0 e - mx)).toList, rfl, rfl, ?_, by simpa using hl, grownCap_ge w mx 0 e, grownCap_le_maxLen w mx 0 e (by simp [maxLen]; omega), ?_⟩, fun b hb _ => ?_, by simp, rfl, rfl, rfl, fun b h => .inr (by simp at h; omega)⟩⟩
      · have := heap_alloc_new w.drew (.cells (news.toArray ++ Builtin.zeroCells z.cells (grownCap w mx 0 e - mx)) e)
        rw [show (([] : List Value) ++ news ++ (Builtin.zeroCells z.cells (grownCap w mx 0 e - mx)).toList).toArray = news.toArray ++ Builtin.zeroCells z.cells (grownCap w mx 0 e - mx) from Array.toList_inj.1 (by simp)]
        exact this
      · have hge := grownCap_ge w mx 0 e
        simp only [List.nil_append, List.length_append, Array.length_toList, size_zeroCells, hzs, hl, ← Nat.add_mul]
        congr 1; omega
      · exact (Ext.alloc w.drew _).block b hb
    · have hn1 : n ≤ vs.length := by rw [hvl]; exact Nat.le_mul_of_pos_right _ he
      by_cases hroom : n + mx ≤ cap
      · have hr := run_append_room (P := P) w t ty e i hu hi b n cap (vs ++ rest).toArray hh ⟨b0, o0, none⟩ mx cx news (by rw [hl, hsz']) hnews' h1 hroom (by
          rw [hsz', ← hvl]; simp
          have : (n + mx) * (T e).size ≤ cap * (T e).size := Nat.mul_le_mul_right _ hroom
          rw [Nat.add_mul, ← hvl, ← hl, ← hcl] at this
          simpa using this)
        refine ⟨_, _, some b, hr, ⟨.inr ⟨b, n + mx, cap, rest.drop news.length, rfl, rfl, ?_, ?_, hroom, hcm, ?_⟩, fun k hk hne => ?_, by simp, rfl, rfl, rfl, fun b' h => .inl h⟩⟩
        · rw [setRow_heap w b _ _ e _ hh]
          congr 2
          rw [hsz', ← hvl]
          simp [List.take_left', List.drop_append]
        · rw [List.length_append, hvl, hl, ← Nat.add_mul]
        · have : (n + mx) * (T e).size ≤ cap * (T e).size := Nat.mul_le_mul_right _ hroom
          rw [Nat.add_mul, ← hvl, ← hl] at this
          simp at hcl ⊢; omega
        · exact setRow_other w b k _ (fun e => hne (by rw [e]))
      · have hold : ∀ j u, vs[j]? = some u → w.cell? ((⟨b, 0, none⟩ : Addr).add j) = some u := fun j u hj => by
          obtain ⟨hlt, rfl⟩ := List.getElem?_eq_some_iff.1 hj
          rw [add_addr, Nat.zero_add, cell_of_list hh (by simp; omega)]
          simp [List.getElem_append_left hlt]
        have hr := run_append_grow (P := P) w t ty e i z hu hi hz ⟨b, 0, none⟩ n cap vs (by rw [hvl, hsz']) hold ⟨b0, o0, none⟩ mx cx news (by rw [hl, hsz']) hnews' (by omega) (by omega) (growslice_fits (by omega) (by
          rw [hby]
          have : (n + mx) * (T e).bytes ≤ (vs.length + news.length) * (T e).bytes := Nat.mul_le_mul_right _ (by omega)
          omega))
        refine ⟨_, _, some w.heap.size, hr, ⟨.inr ⟨w.heap.size, n + mx, _, (Builtin.zeroCells z.cells (grownCap w (n + mx) cap e - (n + mx))).toList, rfl, rfl, ?_, ?_, grownCap_ge w _ _ e, grownCap_le_maxLen w _ _ e (by simp [maxLen]; omega), ?_⟩, fun b hb _ => ?_, by simp, rfl, rfl, rfl, fun b h => .inr (by simp at h; omega)⟩⟩
        · have := heap_alloc_new w.drew (.cells (vs.toArray ++ news.toArray ++ Builtin.zeroCells z.cells (grownCap w (n + mx) cap e - (n + mx))) e)
          rw [show (vs ++ news ++ (Builtin.zeroCells z.cells (grownCap w (n + mx) cap e - (n + mx))).toList).toArray = vs.toArray ++ news.toArray ++ Builtin.zeroCells z.cells (grownCap w (n + mx) cap e - (n + mx)) from Array.toList_inj.1 (by simp)]
          exact this
        · rw [List.length_append, hvl, hl, ← Nat.add_mul]
        · have hge := grownCap_ge w (n + mx) cap e
          simp only [List.length_append, Array.length_toList, size_zeroCells, hzs, hvl, hl, ← Nat.add_mul]
          congr 1; omega
        · exact (Ext.alloc w.drew _).block b hb
end
end Go.Abs

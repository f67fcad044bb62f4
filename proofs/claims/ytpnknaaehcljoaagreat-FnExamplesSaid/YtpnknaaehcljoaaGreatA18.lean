/- DERIVED by an AI agent. A slice sorted by a function of two members: the library's contract as one of the layer. No program in sight. -/
import Derived.Test.YtpnknaaehcljoaaGreatA15
import Derived.Shelf.SlSortCmp.Whole1
import Derived.Shelf.SlSortCmp.NoneTotal
namespace Go.Abs
set_option linter.unusedSimpArgs false
set_option linter.unusedVariables false
open Go.Proofs Go.Shelf Go.RowKit Go.Sort
theorem ext_grow [Held] {W w1 : World} (h : Ext W w1) (hd : Held.dr) : ∃ q os', w1 = grow (W.drewN q) os' := by
  refine ⟨w1.drawn - W.drawn, w1.heap.extract W.heap.size w1.heap.size, ?_⟩
  have h1 := h.output.more hd
  have hh : w1.heap = W.heap ++ w1.heap.extract W.heap.size w1.heap.size := by
    refine Array.ext_getElem? fun i => ?_
    by_cases hi : i < W.heap.size
    · rw [h.block i hi, Array.getElem?_append_left hi]
    · rw [Array.getElem?_append_right (by omega), Array.getElem?_extract]
      by_cases h2 : i < w1.heap.size
      · rw [if_pos (by omega)]; congr 1; omega
      · rw [if_neg (by omega), Array.getElem?_eq_none (by omega)]
  have e1 := h.os; have e2 := h.tape; have e3 := h.output.same
  cases w1; cases W
  simp only [grow, World.drewN] at *
  subst e1 e2 e3
  congr 1
  omega
section
variable {α : Type} [Inhabited α] (enc : α → Value)
theorem putRow_heap {W : World} {b : Nat} {cells : Array Value} {e : TypeId} {fr : Nat × Nat} (h : W.heap[b]? = some (.cells cells e fr)) (d' : Array α) : (putRow enc W b 0 d').heap[b]? = some (.cells (putCells enc 0 d' cells) e fr) := by
  simp [putRow, mapBlock, Array.getElem?_modify, h, onCells]
theorem putRow_off {W : World} {b i : Nat} (h : i ≠ b) (d' : Array α) : (putRow enc W b 0 d').heap[i]? = W.heap[i]? := by
  simp [putRow, mapBlock, Array.getElem?_modify, Ne.symm h]
theorem putCells_list {vs rest : List Value} {d' : Array α} (h : d'.size = vs.length) : putCells enc 0 d' (vs ++ rest).toArray = (d'.toList.map enc ++ rest).toArray := by
  refine Array.ext (by simp [putCells, h]) fun i h1 h2 => ?_
  have h1' : i < vs.length + rest.length := by simpa [putCells] using h1
  simp only [putCells, Array.getElem_mapIdx]
  by_cases hi : i < d'.size
  · rw [if_pos ⟨Nat.zero_le _, by omega⟩]
    simp [List.getElem_append_left, hi]
  · rw [if_neg (by omega)]
    have a : vs.length ≤ i := by omega
    have b : (d'.toList.map enc).length ≤ i := by simp; omega
    simp [List.getElem_append_right, a, h]
end
theorem ints_vals {α : Type} {en : α → Int} {w : World} {E : Env} {lo : Nat} {d : List α} {vs : List Value} (h : RepL w E lo (iL (d.map en)) vs) : vs = d.map fun x => Value.int .i64 (en x) := by
  obtain ⟨hl, hh⟩ := h
  have hl' : d.length = vs.length := by simpa [iL] using hl
  refine List.ext_getElem (by simpa using hl'.symm) fun i h1 h2 => ?_
  have h3 := hh i (by simpa [iL] using h2) h1
  simp only [iL, List.getElem_map] at h3
  rw [List.getElem_map]
  exact h3.v_eq
theorem sort_AM [Held] {P : Program} {ρ : Ren} (L : SlLaysF.n6 P ρ) (L0 : SlLaysF0.n6 P ρ) (hE : Enters P (ρ.f 6)) (hdr : Held.dr) {α : Type} [Inhabited α] (en : α → Int) (cf : α → α → Int) (hS : SWO (ltOf cf)) (g : FuncId) (hg : ∀ args w, (callFunc g args).run P w = .ok (.enter g args) w)
    (hcmp : ∀ x y : α, AC P g [.v (.int .i64 (en x)), .v (.int .i64 (en y))] (.im (.v (.int .i64 (cf x y))))) (e : TypeId) (d : List α) (hd : d.length < 4611686018427387904) (out : List Int)
    (huniq : ∀ d' : List α, d'.Perm d → d'.Pairwise (fun x y => ltOf cf y x = false) → d'.map en = out) : AM P (ρ.f 6) [.own 1000000 1, .clo g []] [⟨e, 1, iL (d.map en)⟩] [iL out] (.tuple #[]) := by
  refine ⟨hE, fun r hr => ?_, rfl, fun c hc => ?_, fun w M E vals hw hR hv => ?_⟩
  · rw [List.mem_singleton.1 hr]; exact plain_iL _
  · rw [List.mem_singleton.1 hc]; exact plain_iL _
  obtain ⟨hl, hr⟩ := hv
  obtain ⟨x, y, rfl⟩ : ∃ x y, vals = [x, y] := by
    match vals, hl with
    | [x, y], _ => exact ⟨x, y, rfl⟩
  have h0 := hr 0 (by simp) (by simp)
  have h1 := hr 1 (by simp) (by simp)
  simp only [List.getElem_cons_zero, List.getElem_cons_succ] at h0 h1
  have hRl : E.R 1000000 = ⟨1, .sli e 1 false (iL (d.map en))⟩ := by
    rw [hR]; exact inR_at (i := 0) (r := ⟨e, 1, iL (d.map en)⟩) rfl
  have hx : x = E.rv 1000000 := by cases h0 with | own hv hx => exact hx (by rw [hRl]) (by rw [hRl]; rfl)
  have hy : y = .func (.func g) #[] #[] := by
    cases h1 with
    | @clo _ _ _ _ vs hl2 hh => have : vs = [] := List.eq_nil_of_length_eq_zero hl2.symm; subst this; rfl
  subst hx hy
  have hrow := hw.rows 1000000
  unfold RowOk at hrow
  rw [hRl] at hrow
  rcases hrow with ⟨g1, g2, g3⟩ | ⟨b, n, cap, vs, rest, g1, g2, g3, g4, g5, g6, g7, g8, g9⟩
  · have hdn : d = [] := by
      have := congrArg List.length g3
      exact List.eq_nil_of_length_eq_zero (by simpa [iL] using this)
    subst hdn
    have ho : out = [] := (huniq [] (List.Perm.refl _) List.Pairwise.nil).symm
    subst ho
    rw [g2]
    refine (AnyF.slices_SortFunc_none L0 none 0 (.func (.func g) #[] #[]) w).mono fun en' w' ⟨he, hw'⟩ => ?_
    subst hw'
    refine ⟨he, E, hw, fun i r c hi hc => ?_⟩
    match i, hi, hc with
    | 0, hi, hc => cases hi; cases hc; exact hRl
  · have hvs := ints_vals g9
    have hn : n = d.length := by
      have := congrArg List.length hvs
      rw [g5] at this; simpa using this
    subst hn
    let enc : α → Value := fun x => .int .i64 (en x)
    have hvl : vs.length = d.toArray.size := by rw [g5]; simp
    have hcell : ∀ j (hj : j < vs.length), w.cell? ⟨b, 0 + j, none⟩ = some vs[j] := fun j hj => by
      rw [Nat.zero_add, cell_of_list g4 (by simp; omega)]
      simp [List.getElem_append_left hj]
    have hH : Holds enc w b 0 d.toArray := fun j hj => by
      have hj' : j < vs.length := by omega
      refine ⟨?_, ?_⟩
      · rw [hcell j hj']
        have hj2 : j < d.length := by simpa using hj
        have : vs[j] = enc d[j] := by
          have : vs[j] = (d.map fun x => Value.int .i64 (en x))[j]'(by simpa using hj2) := by congr 1
          rw [this, List.getElem_map]
        rw [this]
        simp [hj2]
      · simp [World.frozen?, g4]
    have hbs := get_lt g4
    have hng := hw.ngl g1 (by rw [hRl]; rfl)
    have hphi : ∀ m os (dk : Array α), Held.Φ (sortWorld enc w b 0 m dk os) := fun m os dk => by
      refine Held.keep hw.held fun i hi => ?_
      have hne : i ≠ b := fun e => hng (e ▸ hi)
      have hlt := Held.low hw.held hi
      show ((putRow enc (Sort.ahead w m) b 0 dk).heap ++ os)[i]? = w.heap[i]?
      rw [Array.getElem?_append_left (by rw [Sort.size_putRow]; exact hlt), putRow_off enc hne]
      rfl
    have hlays : CmpLays1 P g #[] enc cf b 0 d.toArray.size w := fun m os dk hs x y => by
      have hc := (hcmp x y).2 (sortWorld enc w b 0 m dk os) [.int .i64 (en x), .int .i64 (en y)] (hphi m os dk) ⟨rfl, fun i a b => by
        match i, a, b with
        | 0, _, _ => exact .v _
        | 1, _, _ => exact .v _⟩
      refine hc.mono fun e' w1 ⟨v, lv, he, hx, ho, _⟩ => ⟨?_, ext_grow hx hdr⟩
      cases ho with
      | im h => cases h; exact he
    rw [g3]
    have hcon := Any.slices_SortFunc L enc (fun _ => rfl) cf hS g #[] b 0 cap d.toArray w hg hlays hH hbs (by simpa using hd)
    have hsz : d.toArray.size = d.length := by simp
    rw [hsz] at hcon
    refine hcon.mono fun en' w' ⟨he, d', m, os, hp, hs, hw'⟩ => ?_
    obtain ⟨p1, p2, p3⟩ := hp
    have hds : d'.size = d.length := by rw [p1]; simp
    have hperm : d'.toList.Perm d := by
      have a : (d'.extract 0 d.length).toList = d'.toList := by rw [← hds, Array.extract_size]
      have b : (d.toArray.extract 0 d.length).toList = d := by simp
      rw [a, b] at p3
      exact p3
    have hpw : d'.toList.Pairwise (fun x y => ltOf cf y x = false) := by
      refine List.pairwise_iff_getElem.2 fun i j hi hj hij => ?_
      have hi' : i < d'.size := by simpa using hi
      have hj' : j < d'.size := by simpa using hj
      have := hs i j (Nat.zero_le _) hij (by omega)
      rw [getElem!_pos d' i hi', getElem!_pos d' j hj'] at this
      simpa using this
    have hout := huniq d'.toList hperm hpw
    have hheap : w'.heap[b]? = some (.cells (d'.toList.map enc ++ rest).toArray e (0, 0)) := by
      rw [hw']
      show ((putRow enc (Sort.ahead w m) b 0 d').heap ++ os)[b]? = _
      rw [Array.getElem?_append_left (by rw [Sort.size_putRow]; exact hbs), putRow_heap enc (show (Sort.ahead w m).heap[b]? = _ from g4), putCells_list enc (by rw [hds, g5, Nat.mul_one])]
    have hoff : ∀ i, i < w.heap.size → i ≠ b → w'.heap[i]? = w.heap[i]? := fun i hi hne => by
      rw [hw']
      show ((putRow enc (Sort.ahead w m) b 0 d').heap ++ os)[i]? = _
      rw [Array.getElem?_append_left (by rw [Sort.size_putRow]; exact hi), putRow_off enc hne]
      rfl
    have hsize : w.heap.size ≤ w'.heap.size := by
      rw [hw']
      show w.heap.size ≤ ((putRow enc (Sort.ahead w m) b 0 d').heap ++ os).size
      rw [Array.size_append, Sort.size_putRow]; exact Nat.le_add_right _ _
    let R' : Nat → Row := updF E.R 1000000 ⟨1, .sli e 1 false (iL out)⟩
    have Rk : R' 1000000 = ⟨1, .sli e 1 false (iL out)⟩ := updF_same _ _ _
    have Ro : ∀ k, k ≠ 1000000 → R' k = E.R k := fun k hk => updF_other _ _ hk
    let E' : Env := { R := R', rm := E.rm, rv := E.rv, L := mkL E.X R' E.rm, B := E.B, X := E.X }
    have hturn : Turn ⟨w, M, 0, E.R, E.rm, E.rv, E.X⟩ E E' w w' (fun k => k = 1000000) := by
      refine ⟨rfl, rfl, rfl, fun k hk => ⟨Ro k hk, rfl, rfl⟩, fun i hi hD => ?_, fun k i hk hb hn => ?_, fun k hk => ?_, fun k hk _ _ => ?_, fun k hk _ _ => ?_, fun k hk _ => ?_, fun k k' i hk hk' _ _ _ _ => hk.trans hk'.symm, hsize, ?_, ?_, ⟨?_, fun _ => ?_⟩⟩
      · refine hoff i hi fun e => ?_
        have := hD 1000000 rfl (by rw [e]; exact g1)
        rw [hRl] at this; cases this
      · subst hk
        exact .inr ⟨hb, by rw [hRl]; rfl, fun _ => by rw [hRl]; rfl⟩
      · subst hk; show _ ≤ (R' 1000000).ver; rw [Rk, hRl]; exact Nat.le_refl _
      · subst hk; exact ⟨by rw [hRl]; rfl, rfl⟩
      · subst hk; exact ⟨by rw [hRl]; rfl, rfl⟩
      · subst hk; show 0 < (R' 1000000).ver; rw [Rk]; exact Nat.one_pos
      · rw [hw']; rfl
      · rw [hw']; rfl
      · rw [hw']; rfl
      · rw [hw']; exact Nat.le_add_right _ _
    have hwok := hturn.wok hw fun k hk => by
      subst hk
      unfold RowOk
      have hk2 : E'.R 1000000 = ⟨1, .sli e 1 false (iL out)⟩ := Rk
      rw [hk2]
      refine .inr ⟨b, d.length, cap, d'.toList.map enc, rest, g1, g2, g3, hheap, by simp [hds], g6, g7, ?_, ?_⟩
      · rw [List.length_append] at g8 ⊢
        rw [← g8, g5]; simp [hds]
      · refine ⟨?_, fun i a b' => ?_⟩
        · rw [← hout]; simp [iL]
        · have hi : i < d'.toList.length := by simpa using b'
          have e1 : (iL out)[i] = .v (.int .i64 (en d'.toList[i])) := by
            simp only [← hout, iL, List.getElem_map]
          rw [e1, List.getElem_map]
          exact .v _
    refine ⟨he, E', hwok, fun i r c hi hc => ?_⟩
    match i, hi, hc with
    | 0, hi, hc => cases hi; cases hc; exact Rk
end Go.Abs

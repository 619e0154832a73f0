/- Sorting by letting in: plain law, no program. -/
/- One round of ranking, and how many rounds there are: plain law, no program. -/
import Derived.Test.YtgppcpghpeenhaaDoorProg
import Derived.Test.YtgppcpghpeenhaaDoorWWords
import Derived.Test.YtgppcpghpeenhaaDoorWLast
import Derived.Test.YtgppcpghpeenhaaDoorN4
namespace Go.Proofs.YtgppcpghpeenhaaDoor.N5
open Go.RowKit Go.Proofs.YtgppcpghpeenhaaDoorW.PrintWords Go.Proofs.YtgppcpghpeenhaaDoor N1 N2 N3 N4
set_option linter.unusedVariables false
set_option linter.unusedSimpArgs false
theorem PO.le_trans {α : Type} {c : α → α → Int} (h : PO c) {a b d : α} (h1 : c a b ≠ 1) (h2 : c b d ≠ 1) : c a d ≠ 1 := by
  rcases h.val a b with e | e | e
  · rcases h.val b d with e2 | e2 | e2
    · rw [h.trans a b d e e2]; decide
    · have := h.eqr b d a e2
      rw [this, e]; decide
    · exact absurd e2 h2
  · have := h.eql a b d e
    rw [← this]
    exact h2
  · exact absurd e h1
/-- A row of which one, the j-th, is being let in: up to the i-th all rise but for it, and what is behind it does not come ahead of it. -/
structure Ins (c : Int → Int → Int) (xs : List Int) (i j : Nat) : Prop where
  rest : ∀ p q, p < q → q ≤ i → p ≠ j → q ≠ j → c (xs.getD p 0) (xs.getD q 0) ≠ 1
  hind : ∀ q, j < q → q ≤ i → c (xs.getD j 0) (xs.getD q 0) ≠ 1
def UpTo (c : Int → Int → Int) (xs : List Int) (i : Nat) : Prop := ∀ p q, p < q → q < i → c (xs.getD p 0) (xs.getD q 0) ≠ 1
theorem Ins.start {c : Int → Int → Int} {xs : List Int} {i : Nat} (h : UpTo c xs i) : Ins c xs i i :=
  ⟨fun p q hpq hq hp hq' => h p q hpq (by omega), fun q h1 h2 => by omega⟩
def swap (xs : List Int) (j : Nat) : List Int := (xs.set (j + 1) (xs.getD j 0)).set j (xs.getD (j + 1) 0)
theorem swap_len (xs : List Int) (j : Nat) : (swap xs j).length = xs.length := by unfold swap; simp
theorem swap_get {xs : List Int} {j : Nat} (hj : j + 1 < xs.length) (p : Nat) : (swap xs j).getD p 0 = if p = j then xs.getD (j + 1) 0 else if p = j + 1 then xs.getD j 0 else xs.getD p 0 := by
  unfold swap
  rw [List.getD_eq_getElem?_getD, List.getElem?_set]
  by_cases h1 : p = j
  · subst h1
    rw [if_pos rfl, if_pos (by simp; omega), if_pos rfl]
    rfl
  · rw [if_neg (fun e => h1 e.symm), List.getElem?_set, if_neg h1]
    by_cases h2 : p = j + 1
    · subst h2
      rw [if_pos rfl, if_pos hj, if_pos rfl]
      rfl
    · rw [if_neg (fun e => h2 e.symm), if_neg h2, List.getD_eq_getElem?_getD]
theorem swap_perm {xs : List Int} {j : Nat} (hj : j + 1 < xs.length) : (swap xs j).Perm xs := by
  have e1 : xs.getD j 0 = xs[j] := by rw [List.getD_eq_getElem?_getD, List.getElem?_eq_getElem (show j < xs.length by omega)]; rfl
  have e2 : xs.getD (j + 1) 0 = xs[j + 1] := by rw [List.getD_eq_getElem?_getD, List.getElem?_eq_getElem hj]; rfl
  have hx : xs = xs.take j ++ xs[j] :: xs[j + 1] :: xs.drop (j + 2) := by
    rw [← List.drop_eq_getElem_cons hj, ← List.drop_eq_getElem_cons (show j < xs.length by omega), List.take_append_drop]
  have hs : swap xs j = xs.take j ++ xs[j + 1] :: xs[j] :: xs.drop (j + 2) := by
    unfold swap
    rw [e1, e2]
    generalize xs[j] = a at *
    generalize xs[j + 1] = b at *
    have hl : (xs.take j).length = j := by rw [List.length_take]; omega
    generalize xs.take j = t at *
    generalize xs.drop (j + 2) = d at *
    subst hx
    rw [List.set_append_right _ _ (by omega), List.set_append_right _ _ (by omega), hl, show j + 1 - j = 1 by omega, Nat.sub_self]
    rfl
  rw [hs]
  conv => rhs; rw [hx]
  exact List.Perm.append_left _ (List.Perm.swap _ _ _)
theorem Ins.step {c : Int → Int → Int} {xs : List Int} {i j : Nat} (h : Ins c xs i (j + 1)) (hi : i < xs.length) (hj : j + 1 ≤ i) (hlt : c (xs.getD (j + 1) 0) (xs.getD j 0) = -1) : Ins c (swap xs j) i j := by
  have hjl : j + 1 < xs.length := by omega
  refine ⟨fun p q hpq hq hp hq' => ?_, fun q h1 h2 => ?_⟩
  · rw [swap_get hjl, swap_get hjl, if_neg hp, if_neg hq']
    by_cases hp1 : p = j + 1
    · rw [if_pos hp1, if_neg (by omega)]
      exact h.rest j q (by omega) hq (by omega) (by omega)
    · rw [if_neg hp1]
      by_cases hq1 : q = j + 1
      · rw [if_pos hq1]
        exact h.rest p j (by omega) (by omega) hp1 (by omega)
      · rw [if_neg hq1]
        exact h.rest p q hpq hq hp1 hq1
  · rw [swap_get hjl, swap_get hjl, if_pos rfl, if_neg (by omega)]
    by_cases hq1 : q = j + 1
    · rw [if_pos hq1, hlt]
      decide
    · rw [if_neg hq1]
      exact h.hind q (by omega) h2
theorem Ins.stop {c : Int → Int → Int} (hc : PO c) {xs : List Int} {i j : Nat} (h : Ins c xs i j) (hs : j = 0 ∨ c (xs.getD j 0) (xs.getD (j - 1) 0) ≠ -1) : UpTo c xs (i + 1) := by
  intro p q hpq hq
  by_cases hp : p = j
  · rw [hp]
    exact h.hind q (by omega) (by omega)
  · by_cases hq1 : q = j
    · have hj0 : j ≠ 0 := by omega
      rcases hs with hs | hs
      · exact absurd hs hj0
      · have h1 : c (xs.getD (j - 1) 0) (xs.getD j 0) ≠ 1 := by
          have := hc.anti (xs.getD j 0) (xs.getD (j - 1) 0)
          omega
        rw [hq1]
        by_cases hp1 : p = j - 1
        · rw [hp1]
          exact h1
        · exact PO.le_trans hc (h.rest p (j - 1) (by omega) (by omega) hp (by omega)) h1
    · exact h.rest p q hpq (by omega) hp hq1
theorem UpTo.one (c : Int → Int → Int) (xs : List Int) : UpTo c xs 1 := fun p q h1 h2 => by omega
theorem UpTo.up {c : Int → Int → Int} {xs : List Int} (h : UpTo c xs xs.length) : Up c xs := fun i j hij hj => h i j hij hj
end Go.Proofs.YtgppcpghpeenhaaDoor.N5
namespace Go.Proofs.YtgppcpghpeenhaaDoor.N6
open Go.RowKit Go.Proofs.YtgppcpghpeenhaaDoorW.PrintWords Go.Proofs.YtgppcpghpeenhaaDoor L1 L4 G1 G2 S3 S4 S5 N1 N2 N3 N4 N5
set_option linter.unusedVariables false
set_option linter.unusedSimpArgs false
theorem PO.comp {α β : Type} {c : α → α → Int} (h : PO c) (f : β → α) : PO (fun x y => c (f x) (f y)) :=
  ⟨fun a b => h.val _ _, fun a b => h.anti _ _, fun a b d => h.trans _ _ _, fun a b d => h.eql _ _ _, fun a b d => h.eqr _ _ _⟩
/-- The places that are no unions, of the first n. -/
def plainTo (g : List GN) (n : Nat) : List Int := ((List.range n).filter (fun (i : Nat) => decide ((nd g (i : Int)).f0 ≠ 8))).map (fun (i : Nat) => (i : Int))
theorem plainTo_succ (g : List GN) (n : Nat) : plainTo g (n + 1) = if (nd g (n : Int)).f0 ≠ 8 then plainTo g n ++ [(n : Int)] else plainTo g n := by
  unfold plainTo
  rw [List.range_succ, List.filter_append, List.map_append]
  split
  · rename_i h
    simp [h]
  · rename_i h
    simp [h]
theorem plainTo_len (g : List GN) (n : Nat) : (plainTo g n).length ≤ n := by
  unfold plainTo
  rw [List.length_map]
  refine Nat.le_trans (List.length_filter_le _ _) ?_
  rw [List.length_range]
  exact Nat.le_refl _
theorem plain_iff (g : List GN) (a : Int) : Pl g a ↔ a ∈ plainTo g g.length := by
  unfold plainTo
  rw [List.mem_map]
  constructor
  · rintro ⟨h0, h1, h2⟩
    refine ⟨a.toNat, List.mem_filter.2 ⟨List.mem_range.2 (by omega), ?_⟩, by omega⟩
    rw [show ((a.toNat : Nat) : Int) = a by omega]
    exact decide_eq_true h2
  · rintro ⟨i, hi, rfl⟩
    obtain ⟨h1, h2⟩ := List.mem_filter.1 hi
    have := List.mem_range.1 h1
    exact ⟨by omega, by omega, of_decide_eq_true h2⟩
theorem plain_nodup (g : List GN) (n : Nat) : (plainTo g n).Nodup := by
  unfold plainTo
  rw [List.nodup_iff_pairwise_ne, List.pairwise_map]
  refine List.Pairwise.imp ?_ (List.Pairwise.filter _ (List.nodup_iff_pairwise_ne.1 (List.nodup_range (n := n))))
  intro a b h e
  exact h (Int.ofNat_inj.1 e)
/-- Ranks that tell more are no fewer. -/
theorem ranks_le {g : List GN} {r r' : Int → Int} {m m' : Nat} (h1 : Rk g r m) (h2 : Rk g r' m') (href : ∀ a b, Pl g a → Pl g b → r' a = r' b → r a = r b) : m ≤ m' := by
  have hex : ∀ v : Nat, ∃ x, v < m → Pl g x ∧ r x = (v : Int) := fun v => by
    by_cases hv : v < m
    · obtain ⟨x, hx⟩ := h1.all v hv
      exact ⟨x, fun _ => hx⟩
    · exact ⟨0, fun h => absurd h hv⟩
  have hch : ∃ f : Nat → Int, ∀ v, v < m → Pl g (f v) ∧ r (f v) = (v : Int) := ⟨fun v => Classical.choose (hex v), fun v hv => Classical.choose_spec (hex v) hv⟩
  obtain ⟨f, hf⟩ := hch
  have hnd : ((List.range m).map fun v => r' (f v)).Nodup := by
    rw [List.nodup_iff_pairwise_ne, List.pairwise_map]
    refine List.Pairwise.imp_of_mem ?_ (List.nodup_iff_pairwise_ne.1 (List.nodup_range (n := m)))
    intro x y hx hy hxy e
    rw [List.mem_range] at hx hy
    have := href _ _ (hf x hx).1 (hf y hy).1 e
    rw [(hf x hx).2, (hf y hy).2] at this
    exact hxy (Int.ofNat_inj.1 this)
  have hle := nodup_len _ ((List.range m').map fun (v : Nat) => (v : Int)) hnd (fun x hx => by
    obtain ⟨v, hv, rfl⟩ := List.mem_map.1 hx
    rw [List.mem_range] at hv
    have := h2.rng _ (hf v hv).1
    exact List.mem_map.2 ⟨(r' (f v)).toNat, List.mem_range.2 (by omega), by omega⟩)
  simpa using hle
/-- What holds of ranks at the start of a round. -/
structure Rnk (g : List GN) (r : Int → Int) (many : Nat) : Prop where
  rk : Rk g r many ∨ (many = 0 ∧ ∀ a, Pl g a → r a = 0)
  top : ∀ B, Bis g B → ∀ a b, Pl g a → Pl g b → B a b → r a = r b
theorem Rnk.zero (g : List GN) (r : Int → Int) (h : ∀ a, Pl g a → r a = 0) : Rnk g r 0 := ⟨.inr ⟨rfl, h⟩, fun B _ a b ha hb _ => by rw [h a ha, h b hb]⟩
/-- A round that finds as many ranks as the one ahead of it: the greatest relation. -/
theorem Rnk.done {g : List GN} (hc : checkP g = 0) {r r' : Int → Int} {m : Nat} (h : Rnk g r m) (hm : 0 < m) (hn : Nxt g r r') (hr : Rk g r' m) : Fnl g r' := by
  rcases h.rk with h1 | ⟨h1, _⟩
  · exact fin_of hc h1 hr hn h.top
  · omega
theorem Rnk.next {g : List GN} (hc : checkP g = 0) {r r' : Int → Int} {m m' : Nat} (h : Rnk g r m) (hn : Nxt g r r') (hr : Rk g r' m') : Rnk g r' m' ∧ m ≤ m' := by
  refine ⟨⟨.inl hr, fun B hB => keeps hc hn hB (h.top B hB)⟩, ?_⟩
  rcases h.rk with h1 | ⟨h1, _⟩
  · exact ranks_le h1 hr fun a b ha hb e => ((hn a b ha hb).1 e).1
  · omega
/-- Without a node there is nothing to tell. -/
theorem Fnl.none {g : List GN} (h : ∀ a, ¬ Pl g a) (r : Int → Int) : Fnl g r := ⟨fun a b ha => absurd ha (h a), fun B _ a b ha => absurd ha (h a)⟩
/-- One round. -/
theorem round_of {g : List GN} (hc : checkP g = 0) {rs ns : List Int} {F : Int → Fm} (hF : ∀ a, Pl g a → FmOf g (rd rs) a (F a)) {P : List Int} (hP : P.Perm (plainTo g g.length)) (hu : UpTo (fun a b => cmpF (F a) (F b)) P P.length) (hp : 0 < P.length)
    (hn : ∀ i, i < P.length → rd ns (P.getD i 0) = (lv (fun a b => cmpF (F a) (F b)) P i : Int)) : Nxt g (rd rs) (rd ns) ∧ Rk g (rd ns) (lv (fun a b => cmpF (F a) (F b)) P (P.length - 1) + 1) :=
  next_of (PO.comp cmpF_po F) (fun a b ha hb => form_zero hc (hF a ha) (hF b hb)) hu.up (fun a => by rw [plain_iff, hP.mem_iff]) hn hp
/-- As many ranks as nodes, at most. -/
theorem lv_le (c : Int → Int → Int) (P : List Int) : ∀ i, lv c P i ≤ i
  | 0 => Nat.le_refl _
  | i + 1 => by
    have := lv_le c P i
    unfold lv
    split <;> omega
end Go.Proofs.YtgppcpghpeenhaaDoor.N6

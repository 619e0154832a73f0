/- What comparing and sorting answer: plain law of the functions that CA's texts print. -/
import Derived.Test.YtgppcpghpeenhaaDoorProg
import Derived.Test.YtgppcpghpeenhaaDoorWWords
import Derived.Test.YtgppcpghpeenhaaDoorWLast
import Derived.Test.YtgppcpghpeenhaaDoorCA
import Derived.Test.YtgppcpghpeenhaaDoorN6
namespace Go.Proofs.YtgppcpghpeenhaaDoor.CB
open Go.RowKit Go.Proofs.YtgppcpghpeenhaaDoorW.PrintWords Go.Proofs.YtgppcpghpeenhaaDoor N1 N2 N3 N4 N5 CA
set_option linter.unusedVariables false
set_option linter.unusedSimpArgs false
theorem wr1 {i n : Nat} (h : i < n) (hn : n ≤ 1000000000) : wrap64 ((i : Int) + 1) = ((i + 1 : Nat) : Int) := by unfold wrap64; omega
theorem less_f (a b : Int) : cmp_Less_int.f a b = some (decide (a < b)) := by
  simp [cmp_Less_int.f, cmp_isNaN_int.f]
theorem cmpI_f (a b : Int) : cmp_Compare_int.f a b = some (cmpI a b) := by
  unfold cmp_Compare_int.f cmp_isNaN_int.f cmpI
  simp only [bne_self_eq_false, Option.bind_some, Bool.false_eq_true, if_false]
  split
  · rfl
  · split <;> rfl
theorem cmpS_f (a b : ByteArray) : cmp_Compare_string.f a b = some (cmpS a b) := by
  rw [cmpS_eq]
  unfold cmp_Compare_string.f cmp_isNaN_string.f
  simp only [bne_self_eq_false, Option.bind_some, Bool.false_eq_true, if_false]
  split
  · rfl
  · split <;> rfl
theorem drop_rd {l : List Int} {i : Nat} (h : i < l.length) : l.drop i = rd l (i : Int) :: l.drop (i + 1) := by
  rw [List.drop_eq_getElem_cons h]
  unfold rd
  rw [Int.toNat_natCast, List.getD_eq_getElem?_getD, List.getElem?_eq_getElem h]
  rfl
theorem drop_rdOf {l : List ByteArray} {i : Nat} (h : i < l.length) : l.drop i = rdOf ByteArray.empty l (i : Int) :: l.drop (i + 1) := by
  rw [List.drop_eq_getElem_cons h]
  unfold rdOf
  rw [Int.toNat_natCast, List.getD_eq_getElem?_getD, List.getElem?_eq_getElem h]
  rfl
theorem compI_l {a b : List Int} (ha : a.length ≤ 1000000000) : ∀ (d i : Nat), i + d = a.length → i ≤ b.length → slices_Compare_int_int.l0 (d + 1) a b a (a.length : Int) (i : Int) = some (cmpL cmpI (a.drop i) (b.drop i))
  | 0, i, h, hb => by
    unfold slices_Compare_int_int.l0
    rw [if_neg (by omega), List.drop_eq_nil_of_le (show a.length ≤ i by omega)]
    by_cases h1 : i < b.length
    · rw [if_pos (by omega), drop_rd h1]
      rfl
    · rw [if_neg (by omega), List.drop_eq_nil_of_le (show b.length ≤ i by omega)]
      rfl
  | d + 1, i, h, hb => by
    unfold slices_Compare_int_int.l0
    rw [if_pos (by omega), if_pos (by omega), if_pos (by omega), drop_rd (show i < a.length by omega)]
    by_cases h1 : i < b.length
    · rw [if_neg (by omega), if_pos (by omega), cmpI_f, Option.bind_some, drop_rd h1]
      unfold cmpL
      by_cases h2 : cmpI (rd a (i : Int)) (rd b (i : Int)) = 0
      · rw [if_pos h2, if_pos h2, wr1 (show i < a.length by omega) ha]
        exact compI_l ha d (i + 1) (by omega) (by omega)
      · rw [if_neg h2, if_neg h2]
    · rw [if_pos (by omega), List.drop_eq_nil_of_le (show b.length ≤ i by omega)]
      rfl
theorem compI_f {a b : List Int} (ha : a.length ≤ 1000000000) : slices_Compare_int_int.f (a.length + 1) a b = some (cmpL cmpI a b) := compI_l ha a.length 0 (by omega) (by omega)
theorem compS_l {a b : List ByteArray} (ha : a.length ≤ 1000000000) : ∀ (d i : Nat), i + d = a.length → i ≤ b.length → slices_Compare_string_string.l0 (d + 1) a b a (a.length : Int) (i : Int) = some (cmpL cmpS (a.drop i) (b.drop i))
  | 0, i, h, hb => by
    unfold slices_Compare_string_string.l0
    rw [if_neg (by omega), List.drop_eq_nil_of_le (show a.length ≤ i by omega)]
    by_cases h1 : i < b.length
    · rw [if_pos (by omega), drop_rdOf h1]
      rfl
    · rw [if_neg (by omega), List.drop_eq_nil_of_le (show b.length ≤ i by omega)]
      rfl
  | d + 1, i, h, hb => by
    unfold slices_Compare_string_string.l0
    rw [if_pos (by omega), if_pos (by omega), if_pos (by omega), drop_rdOf (show i < a.length by omega)]
    by_cases h1 : i < b.length
    · rw [if_neg (by omega), if_pos (by omega), cmpS_f, Option.bind_some, drop_rdOf h1]
      unfold cmpL
      by_cases h2 : cmpS (rdOf ByteArray.empty a (i : Int)) (rdOf ByteArray.empty b (i : Int)) = 0
      · rw [if_pos h2, if_pos h2, wr1 (show i < a.length by omega) ha]
        exact compS_l ha d (i + 1) (by omega) (by omega)
      · rw [if_neg h2, if_neg h2]
    · rw [if_pos (by omega), List.drop_eq_nil_of_le (show b.length ≤ i by omega)]
      rfl
theorem compS_f {a b : List ByteArray} (ha : a.length ≤ 1000000000) : slices_Compare_string_string.f (a.length + 1) a b = some (cmpL cmpS a b) := compS_l ha a.length 0 (by omega) (by omega)
theorem equal_l {a b : List Int} (hl : a.length = b.length) (ha : a.length ≤ 1000000000) : ∀ (d i : Nat), i + d = a.length → slices_Equal_int_int.l0 (d + 1) a b (a.length : Int) (i : Int) = some (decide (a.drop i = b.drop i))
  | 0, i, h => by
    unfold slices_Equal_int_int.l0
    rw [if_neg (by omega), List.drop_eq_nil_of_le (show a.length ≤ i by omega), List.drop_eq_nil_of_le (show b.length ≤ i by omega)]
    simp
  | d + 1, i, h => by
    unfold slices_Equal_int_int.l0
    rw [if_pos (by omega), if_pos (by omega), if_pos (by omega), if_pos (by omega), drop_rd (show i < a.length by omega), drop_rd (show i < b.length by omega)]
    by_cases h2 : rd a (i : Int) = rd b (i : Int)
    · rw [if_pos h2, wr1 (show i < a.length by omega) ha, equal_l hl ha d (i + 1) (by omega)]
      congr 1
      simp [h2]
    · rw [if_neg h2]
      congr 1
      symm
      rw [decide_eq_false_iff_not, List.cons.injEq]
      exact fun h => h2 h.1
theorem equal_f {a b : List Int} (ha : a.length ≤ 1000000000) : slices_Equal_int_int.f (a.length + 1) a b = some (decide (a = b)) := by
  unfold slices_Equal_int_int.f
  by_cases hl : a.length = b.length
  · rw [if_pos (by omega)]
    exact equal_l hl ha a.length 0 (by omega)
  · rw [if_neg (by omega)]
    congr 1
    symm
    rw [decide_eq_false_iff_not]
    intro e
    exact hl (by rw [e])
/-- The first that is not 0. -/
def orP : List Int → Int
  | [] => 0
  | a :: l => if a = 0 then orP l else a
theorem or_l {l : List Int} (ha : l.length ≤ 1000000000) : ∀ (d i : Nat), i + d = l.length → cmp_Or_int.l0 (d + 1) 0 l (l.length : Int) (i : Int) = some (orP (l.drop i))
  | 0, i, h => by
    unfold cmp_Or_int.l0
    rw [if_neg (by omega), List.drop_eq_nil_of_le (show l.length ≤ i by omega)]
    rfl
  | d + 1, i, h => by
    unfold cmp_Or_int.l0
    rw [if_pos (by omega), if_pos (by omega), if_pos (by omega), drop_rd (show i < l.length by omega)]
    unfold orP
    by_cases h2 : rd l (i : Int) = 0
    · rw [if_pos h2, if_pos h2, wr1 (show i < l.length by omega) ha]
      exact or_l ha d (i + 1) (by omega)
    · rw [if_neg h2, if_neg h2]
theorem or_f {l : List Int} (ha : l.length ≤ 1000000000) : cmp_Or_int.f (l.length + 1) l = some (orP l) := or_l ha l.length 0 (by omega)
theorem cmpI_m1 {a b : Int} : cmpI a b = -1 ↔ a < b := by
  constructor
  · intro h
    rcases Int.lt_trichotomy a b with h1 | h1 | h1
    · exact h1
    · rw [h1, cmpI_self] at h; cases h
    · rw [cmpI_gt h1] at h; cases h
  · exact cmpI_lt
theorem cmpI_po : PO cmpI := PO.of cmpI_to id
theorem sort_l (n : Nat) (hn : n ≤ 1000000000) : ∀ m : Nat,
    (∀ (xs : List Int) (i : Nat), xs.length = n → 1 ≤ i → UpTo cmpI xs i → (n - i) * (n + 2) ≤ m → ∃ k ys, slices_insertionSortOrdered_int.l0 k xs 0 (n : Int) (i : Int) = some ys ∧ ys.Perm xs ∧ UpTo cmpI ys n) ∧
    (∀ (xs : List Int) (i j : Nat), xs.length = n → Ins cmpI xs i j → j ≤ i → 1 ≤ i → i < n → (n - i - 1) * (n + 2) + j + 1 ≤ m → ∃ k ys, slices_insertionSortOrdered_int.l1 k xs 0 (n : Int) (i : Int) (j : Int) = some ys ∧ ys.Perm xs ∧ UpTo cmpI ys n) := by
  intro m
  induction m with
  | zero =>
    refine ⟨fun xs i hl hi hu hm => ?_, fun xs i j _ _ _ _ _ hm => by omega⟩
    have h0 : ¬ i < n := fun h => by
      have : 0 < (n - i) * (n + 2) := Nat.mul_pos (by omega) (by omega)
      omega
    refine ⟨1, xs, ?_, List.Perm.refl _, fun p q hpq hq => hu p q hpq (by omega)⟩
    unfold slices_insertionSortOrdered_int.l0
    rw [if_neg (by omega)]
  | succ m ih =>
    refine ⟨fun xs i hl hi hu hm => ?_, fun xs i j hl hin hji hi hin2 hm => ?_⟩
    · by_cases h0 : i < n
      · have e : (n - i) * (n + 2) = (n - i - 1) * (n + 2) + (n + 2) := by
          rw [← Nat.succ_mul]
          congr 1
          omega
        obtain ⟨k, ys, h1, h2, h3⟩ := ih.2 xs i i hl (Ins.start hu) (Nat.le_refl _) hi h0 (by omega)
        refine ⟨k + 1, ys, ?_, h2, h3⟩
        unfold slices_insertionSortOrdered_int.l0
        rw [if_pos (by omega)]
        exact h1
      · refine ⟨1, xs, ?_, List.Perm.refl _, fun p q hpq hq => hu p q hpq (by omega)⟩
        unfold slices_insertionSortOrdered_int.l0
        rw [if_neg (by omega)]
    · have hw : wrap64 ((i : Int) + 1) = ((i + 1 : Nat) : Int) := wr1 hin2 hn
      by_cases hj : j = 0
      · subst hj
        obtain ⟨k, ys, h1, h2, h3⟩ := ih.1 xs (i + 1) hl (by omega) (Ins.stop cmpI_po hin (.inl rfl)) (by
          rw [show n - (i + 1) = n - i - 1 by omega]
          omega)
        refine ⟨k + 1, ys, ?_, h2, h3⟩
        unfold slices_insertionSortOrdered_int.l1
        rw [if_neg (by omega), hw]
        exact h1
      · obtain ⟨q, rfl⟩ : ∃ q, j = q + 1 := ⟨j - 1, by omega⟩
        have hw1 : wrap64 (((q + 1 : Nat) : Int) - 1) = (q : Int) := by unfold wrap64; omega
        have e1 : rd xs ((q + 1 : Nat) : Int) = xs.getD (q + 1) 0 := by unfold rd; rw [Int.toNat_natCast]
        have e2 : rd xs (q : Int) = xs.getD q 0 := by unfold rd; rw [Int.toNat_natCast]
        by_cases hlt : xs.getD (q + 1) 0 < xs.getD q 0
        · have hs := Ins.step hin (by omega) hji (cmpI_lt hlt)
          obtain ⟨k, ys, h1, h2, h3⟩ := ih.2 (swap xs q) i q (by rw [swap_len]; exact hl) hs (by omega) hi hin2 (by omega)
          refine ⟨k + 1, ys, ?_, h2.trans (swap_perm (by omega)), h3⟩
          unfold slices_insertionSortOrdered_int.l1
          rw [if_pos (by omega), if_pos (by omega), if_pos (by omega), hw1, if_pos (by omega), if_pos (by omega), less_f, Option.bind_some, e1, e2, if_pos (decide_eq_true hlt), Int.toNat_natCast, Int.toNat_natCast]
          exact h1
        · obtain ⟨k, ys, h1, h2, h3⟩ := ih.1 xs (i + 1) hl (by omega) (Ins.stop cmpI_po hin (.inr (by
            rw [Nat.add_sub_cancel]
            exact fun e => hlt (cmpI_m1.1 e)))) (by
            rw [show n - (i + 1) = n - i - 1 by omega]
            omega)
          refine ⟨k + 1, ys, ?_, h2, h3⟩
          unfold slices_insertionSortOrdered_int.l1
          rw [if_pos (by omega), if_pos (by omega), if_pos (by omega), hw1, if_pos (by omega), if_pos (by omega), less_f, Option.bind_some, e1, e2, if_neg (by simpa using hlt), hw]
          exact h1
theorem sort_f {xs : List Int} (hn : xs.length ≤ 1000000000) : ∃ k ys, slices_insertionSortOrdered_int.f k xs 0 (xs.length : Int) = some ys ∧ ys.Perm xs ∧ ys.Pairwise (· ≤ ·) := by
  obtain ⟨k, ys, h1, h2, h3⟩ := (sort_l xs.length hn _).1 xs 1 rfl (Nat.le_refl _) (UpTo.one _ _) (Nat.le_refl _)
  refine ⟨k, ys, ?_, h2, ?_⟩
  · unfold slices_insertionSortOrdered_int.f
    rw [show wrap64 (0 + 1) = ((1 : Nat) : Int) by unfold wrap64; omega]
    exact h1
  · rw [List.pairwise_iff_getElem]
    intro i j hi hj hij
    have h4 := h3 i j hij (by rw [← h2.length_eq]; exact hj)
    rw [List.getD_eq_getElem?_getD, List.getD_eq_getElem?_getD, List.getElem?_eq_getElem hi, List.getElem?_eq_getElem hj] at h4
    rcases Int.lt_or_le ys[j] ys[i] with h5 | h5
    · exact absurd (cmpI_gt h5) h4
    · exact h5
end Go.Proofs.YtgppcpghpeenhaaDoor.CB

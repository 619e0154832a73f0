/- Facts: what is found in keys that rise. -/
import Derived.Test.YthkoockcfnbpiaaDoorProg
import Derived.Test.YthkoockcfnbpiaaDoorWWords
import Derived.Test.YthkoockcfnbpiaaDoorWLast
import Derived.Test.YthkoockcfnbpiaaDoorW2
namespace Go.Proofs.YthkoockcfnbpiaaDoor.W3
open Go.RowKit Go.Proofs.YthkoockcfnbpiaaDoorW.PrintWords Go.Proofs.YthkoockcfnbpiaaDoorW.PrintLast Go.Proofs.YthkoockcfnbpiaaDoorW.PrintMore Go.Proofs.YthkoockcfnbpiaaDoor L1 L4 G1 G2 S0 S1 S2 S3 S4 S5 S8 F1 W1 W2
set_option linter.unusedVariables false
set_option linter.unusedSimpArgs false
theorem bl_irr : ∀ x : List UInt8, Op.bytesLess x x = false
  | [] => rfl
  | a :: x => by
    have := bl_irr x
    simp [Op.bytesLess, this]
theorem bl_tot : ∀ x y : List UInt8, Op.bytesLess x y = false → Op.bytesLess y x = false → x = y
  | [], [], _, _ => rfl
  | [], _ :: _, h, _ => by simp [Op.bytesLess] at h
  | _ :: _, [], _, h => by simp [Op.bytesLess] at h
  | a :: x, b :: y, h1, h2 => by
    simp [Op.bytesLess] at h1 h2
    have e : a = b := UInt8.le_antisymm h2.1 h1.1
    subst e
    rw [bl_tot x y (by simpa using h1.2) (by simpa using h2.2)]
theorem bl_trans : ∀ x y z : List UInt8, Op.bytesLess x y = false → Op.bytesLess y z = false → Op.bytesLess x z = false
  | x, y, [], _, _ => by cases x <;> rfl
  | x, [], _ :: _, _, h => by simp [Op.bytesLess] at h
  | [], _ :: _, _ :: _, h, _ => by simp [Op.bytesLess] at h
  | a :: x, b :: y, c :: z, h1, h2 => by
    simp [Op.bytesLess] at h1 h2 ⊢
    refine ⟨UInt8.le_trans h2.1 h1.1, fun e => ?_⟩
    subst e
    have e : a = b := UInt8.le_antisymm h2.1 h1.1
    subst e
    exact bl_trans x y z (by simpa using h1.2) (by simpa using h2.2)
theorem rise_le {l : List ByteArray} (h : RiseP l) : ∀ (d a : Nat), a + d < l.length → Op.bytesLess (l.getD (a + d) ByteArray.empty).toList (l.getD a ByteArray.empty).toList = false
  | 0, a, _ => bl_irr _
  | d + 1, a, hlt => by
    have h1 := rise_le h d a (by omega)
    have h2 := h (a + d) (by omega)
    refine bl_trans _ _ _ ?_ h1
    unfold cmp2P cmpP at h2
    rw [show a + (d + 1) = a + d + 1 by omega]
    split at h2
    · rename_i e
      rw [e]
      exact bl_irr _
    · split at h2
      · omega
      · rename_i hb
        simpa using hb
theorem idxF_at {s : ByteArray} : ∀ (l : List ByteArray) (i k : Nat), i < l.length → l.getD i ByteArray.empty = s → (∀ t, t < i → l.getD t ByteArray.empty ≠ s) → idxF s l k = some (k + i)
  | [], i, _, h, _, _ => by simp at h
  | x :: r, 0, k, _, h, _ => by
    unfold idxF
    rw [if_pos (by simpa using h.symm)]
    rfl
  | x :: r, i + 1, k, hi, h, hn => by
    unfold idxF
    rw [if_neg (fun e => hn 0 (by omega) (by simpa using e.symm)), idxF_at r i (k + 1) (by simpa using hi) (by simpa using h) (fun t ht => by simpa using hn (t + 1) (by omega))]
    congr 1
    omega
theorem idxF_no {s : ByteArray} : ∀ (l : List ByteArray) (k : Nat), (∀ t, t < l.length → l.getD t ByteArray.empty ≠ s) → idxF s l k = none
  | [], _, _ => rfl
  | x :: r, k, hn => by
    unfold idxF
    rw [if_neg (fun e => hn 0 (by simp) (by simpa using e.symm)), idxF_no r (k + 1) (fun t ht => by simpa using hn (t + 1) (by simp; omega))]
/-- What the search comes to. -/
theorem search_end {l : List ByteArray} {s : ByteArray} {i : Nat} (h : RiseP l) (hi : i ≤ l.length) (h1 : ∀ t, t < i → Op.bytesLess (l.getD t ByteArray.empty).toList s.toList = true) (h2 : ∀ t, i ≤ t → t < l.length → Op.bytesLess (l.getD t ByteArray.empty).toList s.toList = false) :
    (i < l.length ∧ l.getD i ByteArray.empty = s → idxF s l 0 = some i) ∧ (¬ (i < l.length ∧ l.getD i ByteArray.empty = s) → idxF s l 0 = none) := by
  constructor
  · rintro ⟨hlt, e⟩
    rw [idxF_at l i 0 hlt e (fun t ht e' => by have := h1 t ht; rw [e', bl_irr] at this; cases this), Nat.zero_add]
  · intro hne
    refine idxF_no l 0 fun t ht e => ?_
    by_cases hti : t < i
    · have := h1 t hti
      rw [e, bl_irr] at this
      cases this
    · refine hne ⟨by omega, toList_inj (bl_tot _ _ (h2 i (Nat.le_refl _) (by omega)) ?_)⟩
      have := rise_le h (t - i) i (by omega)
      rw [show i + (t - i) = t by omega, e] at this
      exact this
theorem strs_at {w : World} {A : Option Addr} {l : List ByteArray} (h : Kd.C Kd.string w A l.length l) {i : Nat} (hi : i < l.length) : ∃ ad, A = some ad ∧ w.cell? (ad.add i) = some (.string (l.getD i ByteArray.empty)) := by
  obtain ⟨ad, c, e, _, hK, hc0⟩ := Kd.C_get h ByteArray.empty (i : Int) (by omega) (by omega)
  cases hK
  have := hc0 0 _ rfl
  rw [Int.toNat_natCast] at this
  rw [show i * Kd.string.sz + 0 = i from (Nat.mul_one i)] at this
  exact ⟨ad, e, this⟩
set_option maxRecDepth 100000 in
theorem snan_no (a : ByteArray) (w : World) : Calls Tryd.prog 89 #[.string a] w fun e w' => e = .returned (.bool false) ∧ w = w' := by
  go_enter Tryd.func89, Tryd.ntmps89
  go_wp2_with (fail)
  go_ret
  exact ⟨rfl, rfl⟩
set_option maxRecDepth 100000 in
theorem less_yes (a b : ByteArray) (w : World) : Calls Tryd.prog 88 #[.string a, .string b] w fun e w' => e = .returned (.bool (Op.bytesLess a.toList b.toList)) ∧ w = w' := by
  go_enter Tryd.func88, Tryd.ntmps88
  go_wp2_with (fail)
  refine (nan_no a w).mono ?_
  rintro e w' ⟨rfl, rfl⟩
  go_wp2_with (fail)
  go_ret
  exact ⟨rfl, rfl⟩
set_option maxHeartbeats 4000000 in
set_option maxRecDepth 100000 in
theorem search_yes (A : Option Addr) (c : Nat) (l : List ByteArray) (s : ByteArray) (w : World) (hr : Kd.C Kd.string w A l.length l) (hc : l.length ≤ c) (hl : l.length ≤ 1000000) (hs : RiseP l) :
    Calls Tryd.prog 84 #[.slice A l.length c, .string s] w fun e w' => (∃ k, idxF s l 0 = some k ∧ e = .returned (.tuple #[.int .i64 (k : Int), .bool true]) ∧ w = w') ∨ (idxF s l 0 = none ∧ ∃ k : Int, e = .returned (.tuple #[.int .i64 k, .bool false]) ∧ w = w') := by
  have HR := Aside0.mk hr
  have HC := Aside0.mk hc
  have HL := Aside0.mk hl
  have HS := Aside0.mk hs
  clear hr hc hl hs
  go_enter Tryd.func84, Tryd.ntmps84
  go_wp2_with (fail)
  go_loopw [7, 8] (fun v7 v8 wr => ∃ i j : Nat, i ≤ j ∧ j ≤ l.length ∧ v7 = .int .i64 i ∧ v8 = .int .i64 j ∧ Aside0 (∀ t, t < i → Op.bytesLess (l.getD t ByteArray.empty).toList s.toList = true) ∧ Aside0 (∀ t, j ≤ t → t < l.length → Op.bytesLess (l.getD t ByteArray.empty).toList s.toList = false) ∧ Aside0 (w = wr)) (fun v7 v8 _ => (intOf v8).toNat - (intOf v7).toNat)
  case atStart => exact ⟨0, l.length, by omega, by omega, rfl, rfl, ⟨fun t ht => by omega⟩, ⟨fun t h1 h2 => by omega⟩, ⟨rfl⟩⟩
  case round =>
    obtain ⟨i, j, hij, hj, rfl, rfl, HLo, HHi, HW⟩ := hrel
    rename World => X
    obtain rfl := HW.out
    by_cases hlt : i < j
    · obtain ⟨h, hh⟩ : ∃ h : Nat, h = (i + j) / 2 := ⟨_, rfl⟩
      have h1 : i ≤ h := by omega
      have h2 : h < j := by omega
      have hq : ((i : Int) + (j : Int)) / 2 = (h : Int) := by omega
      obtain ⟨ad, eA, hm⟩ := strs_at HR.out (i := h) (by omega)
      subst eA
      have e1 : ((h : Int) < (l.length : Int)) = True := eq_true (by omega)
      have hw : wrap64 ((h : Int) + 1) = ((h + 1 : Nat) : Int) := by have := HL.out; unfold wrap64; omega
      have HI := Aside0.mk (show (i : Int) + (j : Int) < 9223372036854775808 by have := HL.out; omega)
      obtain ⟨y, hy⟩ : ∃ y, y = l.getD h ByteArray.empty := ⟨_, rfl⟩
      rw [← hy] at hm
      have HY := Aside0.mk hy
      have HMo := Aside0.mk (rise_le HS.out)
      clear hh hy
      have hi9 := HI.out
      go_wp2_with (fail)
      refine (less_yes y s w).mono ?_
      rintro e w' ⟨rfl, rfl⟩
      cases hb : Op.bytesLess y.toList s.toList with
      | true =>
        go_wp2_with (fail)
        go_roundw
        case rel => exact ⟨h + 1, j, by omega, hj, by first | (rw [hw]; done) | (rw [Int.natCast_add]; rfl), rfl, ⟨fun t ht => by
          by_cases htl : t < i
          · exact HLo.out t htl
          · cases hbt : Op.bytesLess (l.getD t ByteArray.empty).toList s.toList with
            | true => rfl
            | false =>
              have h3 := HMo.out (h - t) t (by omega)
              rw [show t + (h - t) = h by omega, ← HY.out] at h3
              rw [bl_trans _ _ _ h3 hbt] at hb
              cases hb⟩, HHi, ⟨trivial⟩⟩
        case measure => first | (rw [hw]; simp only [intOf]; omega) | (simp only [intOf]; omega)
      | false =>
        go_wp2_with (fail)
        go_roundw
        case rel => exact ⟨i, h, h1, by omega, rfl, rfl, HLo, ⟨fun t ht htl => by
          by_cases htj : j ≤ t
          · exact HHi.out t htj htl
          · have h3 := HMo.out (t - h) h (by omega)
            rw [show h + (t - h) = t by omega, ← HY.out] at h3
            exact bl_trans _ _ _ h3 hb⟩, ⟨trivial⟩⟩
        case measure => simp only [intOf]; omega
    · obtain rfl : i = j := by omega
      obtain ⟨e1, e2⟩ := search_end HS.out hj HLo.out HHi.out
      have E1 := Aside0.mk e1
      have E2 := Aside0.mk e2
      clear e1 e2
      by_cases hin : i < l.length
      · obtain ⟨ad, eA, hm⟩ := strs_at HR.out hin
        subst eA
        obtain ⟨y, hy⟩ : ∃ y, y = l.getD i ByteArray.empty := ⟨_, rfl⟩
        rw [← hy] at hm E1 E2
        clear hy
        have e1 : ((i : Int) < (l.length : Int)) = True := eq_true (by omega)
        by_cases hys : y = s
        · have hq : (y.toList == s.toList) = true := by simp [hys]
          have hE := Aside0.mk (E1.out ⟨hin, hys⟩)
          clear hys
          go_wp2_with (fail)
          go_ret2
          exact .inl ⟨i, hE.out, rfl, rfl⟩
        · have hq : (y.toList == s.toList) = false := by simp; exact fun e => hys (toList_inj e)
          have hE := Aside0.mk (E2.out (fun h => hys h.2))
          clear hys
          go_wp2_with (fail)
          refine (snan_no y w).mono ?_
          rintro e w' ⟨rfl, rfl⟩
          go_wp2_with (fail)
          go_ret2
          exact .inr ⟨hE.out, _, rfl, rfl⟩
      · have hE := Aside0.mk (E2.out (fun h => hin h.1))
        go_wp2_with (fail)
        go_ret2
        refine .inr ⟨hE.out, ?_⟩
        exact ⟨⟨(i : Int), rfl⟩, rfl⟩
end Go.Proofs.YthkoockcfnbpiaaDoor.W3

/- WireSums: the program's sum (by a table of a byte's eight steps) and the document's sum (bit by bit) are one number for all bytes, and the chapter's examples hold. -/
import Derived.Test.YtcpnjlagmnlecaaGx1
namespace Go.Proofs.Ytcpnjlagmnlecaa.Pure
open Go.RowKit Go.Proofs.Ytcpnjlagmnlecaa.G Go.Proofs.YtcpnjlagmnlecaaW.PrintWords Go.Proofs.YtcpnjlagmnlecaaW.PrintLast Go.Proofs.Ytcpnjlagmnlecaa Go.Proofs.Ytcpnjlagmnlecaa.A1 Go.Proofs.Ytcpnjlagmnlecaa.A2 Go.Proofs.Ytcpnjlagmnlecaa.B2

theorem step_i64 (v : Nat) (_hv : v < 4294967296) : (if bits .and .i64 (v : Int) 1 = 1 then bits .xor .i64 ((v : Int) / 2) 3988292384 else (v : Int) / 2) = ((Crc.stp v : Nat) : Int) := by
  have e1 : bits .and .i64 (v : Int) 1 = ((v % 2 : Nat) : Int) := by rw [← Nat.and_one_is_mod]; exact i64_and v 1 _hv (by decide)
  rw [e1]
  unfold Crc.stp
  by_cases h : v % 2 = 1
  · rw [if_pos (by omega), if_pos h, show (v : Int) / 2 = ((v / 2 : Nat) : Int) by omega]
    exact i64_xor (v / 2) 3988292384 (by omega) (by decide)
  · rw [if_neg (by omega), if_neg h]; omega
theorem ref_inner (xs : List Int) (i : Int) : ∀ (d k : Nat) (R : Nat) (j : Int), R < 4294967296 → 0 ≤ j → j + d = 8 →
    armillaryref01_Sum.l1 (k + d + 1) xs (R : Int) i j = armillaryref01_Sum.l0 k xs ((Crc.stpN d R : Nat) : Int) (wrap64 (i + 1)) := by
  intro d
  induction d with
  | zero =>
    intro k R j hR h0 hj
    show armillaryref01_Sum.l1 (k + 1) xs (R : Int) i j = _
    rw [armillaryref01_Sum.l1, if_neg (by omega)]
    rfl
  | succ d ih =>
    intro k R j hR h0 hj
    show armillaryref01_Sum.l1 (k + d + 1 + 1) xs (R : Int) i j = _
    rw [armillaryref01_Sum.l1, if_pos (by omega)]
    have hs := step_i64 R hR
    have hw : wrap64 (j + 1) = j + 1 := by unfold wrap64; omega
    have hgo := ih k (Crc.stp R) (j + 1) (Crc.stp_lt hR) (by omega) (by omega)
    rw [hw]
    split
    · rename_i hc
      rw [if_pos hc] at hs
      rw [hs]; exact hgo
    · rename_i hc
      rw [if_neg hc] at hs
      rw [hs]; exact hgo
theorem ref_outer (xs : List Int) (hx : okB xs = true) (hl : xs.length ≤ 1000) : ∀ (m : Nat) (i : Nat), i + m = xs.length →
    armillaryref01_Sum.l0 (10 * m + 1) xs ((Crc.reg 4294967295 ((xs.map Int.toNat).take i) : Nat) : Int) i = some ((Crc.crc (xs.map Int.toNat) : Nat) : Int) := by
  intro m
  induction m with
  | zero =>
    intro i hi
    obtain rfl : i = xs.length := by omega
    have hr : Crc.reg 4294967295 (xs.map Int.toNat) < 4294967296 := Crc.reg_lt _ (by decide) (okB_nat hx)
    rw [armillaryref01_Sum.l0, if_neg (by omega), show xs.length = (xs.map Int.toNat).length by simp, List.take_length]
    rw [show (4294967295 : Int) = ((4294967295 : Nat) : Int) by rfl, i64_xor _ _ hr (by decide)]
    rfl
  | succ m ih =>
    intro i hi
    obtain ⟨C, hC, e1, e2⟩ := okB_at hx i (by omega)
    have hr : Crc.reg 4294967295 ((xs.map Int.toNat).take i) < 4294967296 := Crc.reg_lt _ (by decide) (fun c hc => okB_nat hx c (List.mem_of_mem_take hc))
    have hrd : rd xs (i : Int) = (C : Int) := e1
    rw [show 10 * (m + 1) + 1 = (10 * m + 1) + 8 + 1 + 1 by omega, armillaryref01_Sum.l0, if_pos (by omega), if_pos (by omega), hrd]
    rw [show wrap64 (C : Int) = (C : Int) by unfold wrap64; omega, i64_xor _ _ hr (by omega)]
    have := ref_inner xs i 8 (10 * m + 1) (Crc.reg 4294967295 ((xs.map Int.toNat).take i) ^^^ C) 0 (Nat.xor_lt_two_pow (n := 32) hr (by omega)) (by omega) (by omega)
    rw [this, show wrap64 ((i : Int) + 1) = ((i + 1 : Nat) : Int) by unfold wrap64; omega]
    have h2 := ih (i + 1) (by omega)
    rw [take_snoc e2, reg_snoc] at h2
    exact h2
theorem ref_sum (xs : List Int) (hx : okB xs = true) (hl : xs.length ≤ 1000) : armillaryref01_Sum.f (10 * xs.length + 1) xs = some ((Crc.crc (xs.map Int.toNat) : Nat) : Int) :=
  ref_outer xs hx hl xs.length 0 (by omega)
theorem ok_of_wf {l : List Int} (h : ∀ x ∈ l, (Lit.int .u8 x).wf = true) : okB l = true := by
  unfold okB
  rw [List.all_eq_true]
  intro x hx
  have := h x hx
  have h0 : IntKind.u8.min = 0 := by decide
  have h1 : IntKind.u8.max = 255 := by decide
  simp only [Lit.wf, h0, h1, Bool.and_eq_true, decide_eq_true_eq] at this
  simp only [Bool.and_eq_true, decide_eq_true_eq]
  omega
theorem WireSums : armillarylaw01_WireSums.Pure := by
  intro l0 _ hl hw
  have hmn : mn (l0.length : Int) 600 = ((min l0.length 600 : Nat) : Int) := by unfold mn; omega
  obtain ⟨L, hL⟩ : ∃ L, L = l0.take (min l0.length 600) := ⟨_, rfl⟩
  have hLl : L.length ≤ 600 := by rw [hL, List.length_take]; omega
  have hLo : okB L = true := by rw [hL]; exact ok_of_wf (fun x hx => hw x (List.mem_of_mem_take hx))
  refine ⟨10 * L.length + 1, ?_⟩
  unfold armillarylaw01_WireSums.f
  rw [hmn, if_pos (by omega), if_pos (by omega), Int.toNat_natCast, ← hL]
  have hc : armillaryref00_CopyBytes.f L = some L := by
    unfold armillaryref00_CopyBytes.f
    rw [if_pos (by simp; omega), List.nil_append]
  have hs : wire_Sum.f L = some ((Crc.crc (L.map Int.toNat) : Nat) : Int) := if_pos hLo
  rw [hc, Option.bind_some, hc, Option.bind_some, hs, Option.bind_some, ref_sum L hLo (by omega), Option.bind_some, if_pos rfl]
  simp [armillaryref00_EqBytes.f, armillarylaw01_works.f]
end Go.Proofs.Ytcpnjlagmnlecaa.Pure

/- WireBurst: bytes of which some bits, within 32 in a row, are turned have another sum, for all bytes, places and bits; the sum is below 2^32; the chapter's examples hold. -/
import Derived.Test.YtcpnjlagmnlecaaGx2
import Derived.Test.YtcpnjlagmnlecaaPureWireSums
namespace Go.Proofs.Ytcpnjlagmnlecaa.Pure
open Go.RowKit Go.Proofs.Ytcpnjlagmnlecaa.G Go.Proofs.YtcpnjlagmnlecaaW.PrintWords Go.Proofs.YtcpnjlagmnlecaaW.PrintLast Go.Proofs.YtcpnjlagmnlecaaW.PrintMore Go.Proofs.Ytcpnjlagmnlecaa Go.Proofs.Ytcpnjlagmnlecaa.A1 Go.Proofs.Ytcpnjlagmnlecaa.A2 Go.Proofs.Ytcpnjlagmnlecaa.B2

theorem bring_some (a n : Int) (h0 : 0 < n) (h1 : n ≤ 9223372036854775807) : ∃ r, armillaryref00_Bring.f a n = some r ∧ 0 ≤ r ∧ r < n := by
  unfold armillaryref00_Bring.f
  rw [if_neg (by omega)]
  have hlt := Int.tmod_lt_of_pos a h0
  have hgt : -n < Int.tmod a n := by
    have := Int.lt_tmod_of_pos a h0
    omega
  split
  · refine ⟨_, rfl, ?_, ?_⟩ <;> unfold wrap64 <;> omega
  · exact ⟨_, rfl, by omega, hlt⟩
theorem map_set_nat (x : List Int) (j : Nat) (c : Nat) : (x.set j (c : Int)).map Int.toNat = (x.map Int.toNat).set j c := by
  rw [List.map_set, Int.toNat_natCast]
theorem okB_set {x : List Int} (h : okB x = true) (j c : Nat) (hc : c < 256) : okB (x.set j (c : Int)) = true := by
  unfold okB at h ⊢
  rw [List.all_eq_true] at h ⊢
  intro y hy
  rcases List.mem_or_eq_of_mem_set hy with hy | rfl
  · exact h y hy
  · simp only [Bool.and_eq_true, decide_eq_true_eq]; omega
theorem q_lt {f i n m : Nat} (h : f + i < 8 * n) (hm : m = n) : (((f + i) / 8 : Nat) : Int) < (m : Int) := by omega
theorem q_lt' {f i n m : Nat} (h : f + i < 8 * n) (hm : m = n) : (f + i) / 8 < m := by omega
theorem q_cast {x : Nat} (h : x = 1) : ((x : Nat) : Int) = 1 := by omega
theorem q_cast' {x : Nat} (h : ¬ x = 1) : ¬ ((x : Nat) : Int) = 1 := by omega
theorem shl_bit (m : Nat) (hm : m < 8) : shl .u8 1 (m : Int) = ((2 ^ m : Nat) : Int) := by
  rcases m with _ | _ | _ | _ | _ | _ | _ | _ | m
  all_goals first | decide | omega
theorem win_one (b i : Nat) (h : b / 2 ^ i % 2 = 1) : b % 2 ^ (i + 1) = (b % 2 ^ i) ^^^ 2 ^ i ∧ b % 2 ^ (i + 1) ≠ 0 := by
  have h1 := Crc.win_succ b i
  rw [if_pos h] at h1
  refine ⟨h1, fun h0 => ?_⟩
  have h2 : (b % 2 ^ (i + 1)).testBit i = true := by
    rw [Nat.testBit_mod_two_pow, Nat.testBit_eq_decide_div_mod_eq]
    simp [h]
  rw [h0] at h2
  simp at h2
theorem win_none (b i : Nat) (h : ¬ b / 2 ^ i % 2 = 1) : b % 2 ^ (i + 1) = b % 2 ^ i := by
  have h1 := Crc.win_succ b i
  rw [if_neg h, Nat.xor_zero] at h1
  exact h1
/-- The end: what the statement asks of the sums. -/
theorem burst_end (k : Nat) (L x : List Int) (b f W : Nat) (t : Bool) (i : Int) (hx : okB x = true) (hlen : x.length = L.length)
    (hv : Crc.val (x.map Int.toNat) = Crc.val (L.map Int.toNat) ^^^ (2 ^ f * W)) (hf : f ≤ 8 * L.length) (hW : W < 4294967296) (ht : t = decide (W ≠ 0)) :
    armillarylaw01_WireBurst.j1 (k + 1) x (b : Int) ((Crc.crc (L.map Int.toNat) : Nat) : Int) f t i false = some true := by
  rw [armillarylaw01_WireBurst.j1, if_neg (by simp)]
  have hs : wire_Sum.f x = some ((Crc.crc (x.map Int.toNat) : Nat) : Int) := if_pos hx
  have hb := Crc.crc_burst (l := L.map Int.toNat) (m := x.map Int.toNat) (by simpa using hlen) hv (by simpa using hf) hW
  have hlt := Crc.crc_lt (x.map Int.toNat) (okB_nat hx)
  rw [hs, Option.bind_some]
  have hq : (((Crc.crc (x.map Int.toNat) : Nat) : Int) != ((Crc.crc (L.map Int.toNat) : Nat) : Int)) = t := by
    rw [ht]
    by_cases hW0 : W = 0
    · rw [hb.2 hW0]; simp [hW0]
    · have : ¬ Crc.crc (x.map Int.toNat) = Crc.crc (L.map Int.toNat) := fun h => hW0 (hb.1 h)
      simp only [hW0, ne_eq, not_false_eq_true, decide_true]
      rw [bne_iff_ne]
      intro h
      exact this (by exact_mod_cast h)
  rw [hq, if_pos (by simp), if_pos (by omega), if_pos (by omega)]
  rfl
theorem burst_loop (L : List Int) (_hL : okB L = true) (hl : L.length ≤ 300) (b f : Nat) (hb : b < 4294967296) (hf : f < 8 * L.length) : ∀ (d : Nat) (i : Nat) (x : List Int) (t : Bool), i + d = 32 → f + i ≤ 8 * L.length → okB x = true → x.length = L.length →
    Crc.val (x.map Int.toNat) = Crc.val (L.map Int.toNat) ^^^ (2 ^ f * (b % 2 ^ i)) → t = decide (b % 2 ^ i ≠ 0) →
    armillarylaw01_WireBurst.l0 (2 * d + 2) x (b : Int) ((Crc.crc (L.map Int.toNat) : Nat) : Int) f t i = some true := by
  intro d
  induction d with
  | zero =>
    intro i x t hi hfi hx hlen hv ht
    obtain rfl : i = 32 := by omega
    rw [armillarylaw01_WireBurst.l0, if_neg (by omega)]
    exact burst_end 0 L x b f (b % 2 ^ 32) t _ hx hlen hv (by omega) (Nat.mod_lt _ (by decide)) ht
  | succ d ih =>
    intro i x t hi hfi hx hlen hv ht
    rw [show 2 * (d + 1) + 2 = (2 * d + 2) + 1 + 1 by omega, armillarylaw01_WireBurst.l0, if_pos (by omega)]
    have e1 : wrap64 ((f : Int) + i) = ((f + i : Nat) : Int) := by unfold wrap64; omega
    have e2 : wrap64 (8 * (x.length : Int)) = ((8 * L.length : Nat) : Int) := by rw [hlen]; unfold wrap64; omega
    rw [e1, e2]
    by_cases hlast : f + i < 8 * L.length
    · rw [show decide (((f + i : Nat) : Int) < ((8 * L.length : Nat) : Int)) = true by simp; omega, armillarylaw01_WireBurst.j1, if_pos rfl, if_pos (by omega)]
      have e3 : shr .u32 (b : Int) (i : Int) = ((b / 2 ^ i : Nat) : Int) := by
        unfold shr
        rw [show min (i : Int).toNat (IntKind.bits .u32) = i by rw [show IntKind.bits .u32 = 32 by decide]; omega]
        rw [show ((2 : Int) ^ i) = ((2 ^ i : Nat) : Int) by simp]
        exact (Int.natCast_ediv b (2 ^ i)).symm
      have e4 : bits .and .u32 ((b / 2 ^ i : Nat) : Int) 1 = ((b / 2 ^ i % 2 : Nat) : Int) := by
        rw [← Nat.and_one_is_mod]
        exact A2.u32_and _ 1 (Nat.lt_of_le_of_lt (Nat.div_le_self _ _) hb) (by decide)
      have e5 : wrap64 ((f : Int) + i) = ((f + i : Nat) : Int) := e1
      have e6 : wrap64 (Int.tdiv ((f + i : Nat) : Int) 8) = (((f + i) / 8 : Nat) : Int) := by
        rw [Int.tdiv_eq_ediv_of_nonneg (by omega)]; unfold wrap64; omega
      have e7 : Int.tmod ((f + i : Nat) : Int) 8 = (((f + i) % 8 : Nat) : Int) := by
        rw [Int.tmod_eq_emod_of_nonneg (by omega)]; omega
      have e8 : wrap64 ((i : Int) + 1) = ((i + 1 : Nat) : Int) := by unfold wrap64; omega
      rw [e3, e4]
      by_cases hbit : b / 2 ^ i % 2 = 1
      · rw [if_pos (q_cast hbit), e5, e6, e7, e8, if_pos (Int.natCast_nonneg _), if_pos (q_lt hlast hlen), if_pos (Int.natCast_nonneg _)]
        obtain ⟨C, hC, c1, c2⟩ := okB_at hx ((f + i) / 8) (q_lt' hlast hlen)
        have hm : (f + i) % 8 < 8 := Nat.mod_lt _ (by decide)
        have hrd : rd x (((f + i) / 8 : Nat) : Int) = (C : Int) := c1
        have hp : 2 ^ ((f + i) % 8) < 256 := Nat.pow_lt_pow_right (by decide) hm
        rw [hrd, shl_bit _ hm, A2.u8_xor C _ hC hp, Int.toNat_natCast]
        have hcd : (x.map Int.toNat).getD ((f + i) / 8) 0 = C := by rw [List.getD_eq_getElem?_getD, c2]; rfl
        obtain ⟨w1, w2⟩ := win_one b i hbit
        refine ih (i + 1) _ true (by omega) (by omega) (okB_set hx _ _ (Nat.xor_lt_two_pow (n := 8) hC hp)) (by rw [List.length_set]; exact hlen) ?_ (by simp [w2])
        have hvs := Crc.val_set (x.map Int.toNat) ((f + i) / 8) ((f + i) % 8) (by rw [List.length_map]; exact q_lt' hlast hlen)
        rw [hcd] at hvs
        rw [map_set_nat, hvs, hv, w1, Crc.two_pow_mul_xor, Nat.xor_assoc, Nat.div_add_mod, Nat.pow_add]
      · rw [if_neg (q_cast' hbit), e8]
        refine ih (i + 1) x t (by omega) (by omega) hx hlen ?_ ?_
        · rw [win_none b i hbit]; exact hv
        · rw [win_none b i hbit]; exact ht
    · rw [show decide (((f + i : Nat) : Int) < ((8 * L.length : Nat) : Int)) = false by simp; omega]
      exact burst_end (2 * d + 2) L x b f (b % 2 ^ i) t _ hx hlen hv (by omega) (Nat.lt_of_lt_of_le (Nat.mod_lt _ (Nat.two_pow_pos i)) (Nat.pow_le_pow_right (n := 2) (by decide) (show i ≤ 32 by omega))) ht
theorem WireBurst : armillarylaw01_WireBurst.Pure := by
  intro l0 a1 a2 _ hl hw _ hw2
  have hmn : mn (l0.length : Int) 300 = ((min l0.length 300 : Nat) : Int) := by unfold mn; omega
  obtain ⟨L, hL⟩ : ∃ L, L = l0.take (min l0.length 300) := ⟨_, rfl⟩
  have hLl : L.length ≤ 300 := by rw [hL, List.length_take]; omega
  have hLo : okB L = true := by rw [hL]; exact ok_of_wf (fun x hx => hw x (List.mem_of_mem_take hx))
  have hc : armillaryref00_CopyBytes.f L = some L := by
    unfold armillaryref00_CopyBytes.f
    rw [if_pos (by simp; omega), List.nil_append]
  have hs : wire_Sum.f L = some ((Crc.crc (L.map Int.toNat) : Nat) : Int) := if_pos hLo
  have h32 : 0 ≤ a2 ∧ a2 ≤ 4294967295 := by
    have h0 : IntKind.u32.min = 0 := by decide
    have h1 : IntKind.u32.max = 4294967295 := by decide
    simp only [Lit.wf, h0, h1, Bool.and_eq_true, decide_eq_true_eq] at hw2
    exact hw2
  obtain ⟨b, rfl⟩ := Int.eq_ofNat_of_zero_le h32.1
  refine ⟨66, ?_⟩
  unfold armillarylaw01_WireBurst.f
  rw [hmn, if_pos (by omega), if_pos (by omega), Int.toNat_natCast, ← hL, hc, Option.bind_some]
  by_cases h0 : L.length = 0
  · rw [if_pos (by omega)]; rfl
  · rw [if_neg (by omega), hs, Option.bind_some]
    have e : wrap64 (8 * (L.length : Int)) = ((8 * L.length : Nat) : Int) := by unfold wrap64; omega
    obtain ⟨r, hr, r0, r1⟩ := bring_some a1 ((8 * L.length : Nat) : Int) (by omega) (by omega)
    rw [e, hr, Option.bind_some]
    obtain ⟨f, rfl⟩ := Int.eq_ofNat_of_zero_le r0
    exact burst_loop L hLo hLl b f (by omega) (by omega) 32 0 L false (by omega) (by omega) hLo rfl (by simp [Nat.mod_one]) (by simp [Nat.mod_one])
end Go.Proofs.Ytcpnjlagmnlecaa.Pure

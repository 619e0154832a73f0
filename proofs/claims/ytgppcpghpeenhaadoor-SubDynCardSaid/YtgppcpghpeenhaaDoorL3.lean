/- slices.ContainsFunc at the closures that this layer gives it. -/
import Derived.Test.YtgppcpghpeenhaaDoorProg
import Derived.Test.YtgppcpghpeenhaaDoorWWords
import Derived.Test.YtgppcpghpeenhaaDoorWLast
import Derived.Test.YtgppcpghpeenhaaDoorL2
namespace Go.Proofs.YtgppcpghpeenhaaDoor.L3
open Go.RowKit Go.Proofs.YtgppcpghpeenhaaDoorW.PrintWords Go.Proofs.YtgppcpghpeenhaaDoorW.PrintLast Go.Proofs.YtgppcpghpeenhaaDoorW.PrintMore Go.Proofs.YtgppcpghpeenhaaDoor L1 L2
set_option linter.unusedVariables false
set_option linter.unusedSimpArgs false
set_option maxHeartbeats 4000000 in
set_option maxRecDepth 100000 in
theorem may1_index (gb : Nat) (A : Option Addr) (c : Nat) (l : List Int) (w : World) (R : Nat → World → Prop) (T : World → Prop) (hC : ∀ i W, R i W → Kd.C (Kd.int .i64) W A l.length l) (hc : l.length ≤ c)
    (hcl : ∀ i W, i < l.length → R i W → Calls Tryd.prog 38 #[.int .i64 (rd l (i : Int)), .pointer (some ⟨gb, 0, none⟩)] W fun e W' => (e = .returned (.bool true) ∧ T W') ∨ (e = .returned (.bool false) ∧ R (i + 1) W')) (hR : R 0 w) :
    Calls Tryd.prog 46 #[.slice A l.length c, .func (.func 38) #[] #[.pointer (some ⟨gb, 0, none⟩)]] w fun e w' => (∃ n : Int, e = .returned (.int .i64 n) ∧ 0 ≤ n ∧ T w') ∨ (e = .returned (.int .i64 (-1)) ∧ R l.length w') := by
  have HC := Aside0.mk hC
  have Hc := Aside0.mk hc
  have HL := Aside0.mk (hC 0 w hR).2.1
  have HCl := Aside0.mk hcl
  have HR := Aside0.mk hR
  clear hC hc hcl hR
  go_enter Tryd.func46, Tryd.ntmps46
  go_wp2_with (fail)
  go_loopw [8] (fun v8 wr => ∃ i : Nat, i ≤ l.length ∧ v8 = .int .i64 i ∧ Aside0 (R i wr)) (fun v8 _ => l.length + 1 - (intOf v8).toNat)
  case atStart => exact ⟨0, by omega, rfl, HR⟩
  case round =>
    obtain ⟨i, hi, rfl, HRi⟩ := hrel
    by_cases hlt : i < l.length
    · obtain ⟨ad, ea, hx⟩ := Kd.at_int (HC.out i wr HRi.out) (i : Int) (by omega) (by omega)
      cases ea
      simp only [Int.toNat_natCast] at hx
      have hL := HL.out
      have hw : wrap64 ((i : Int) + 1) = ((i + 1 : Nat) : Int) := by unfold wrap64; omega
      go_wp2_with (fail)
      refine (HCl.out i wr hlt HRi.out).mono ?_
      rintro e w' (⟨rfl, ht⟩ | ⟨rfl, hr⟩)
      · have HT := Aside0.mk ht
        clear ht
        go_wp2_with (fail)
        go_ret
        exact .inl ⟨i, rfl, by omega, HT.out⟩
      · have HR2 := Aside0.mk hr
        clear hr
        go_wp2_with (fail)
        go_roundw
        case rel => exact ⟨i + 1, by omega, by first | (rw [hw]; done) | (rw [Int.natCast_add]; rfl), HR2⟩
        case measure => first | (rw [hw]; simp only [intOf]; omega) | (simp only [intOf]; omega)
    · obtain rfl : i = l.length := by omega
      go_wp2_with (fail)
      go_ret
      exact .inr ⟨rfl, HRi.out⟩
set_option maxRecDepth 100000 in
theorem may1_contains (gb : Nat) (A : Option Addr) (c : Nat) (l : List Int) (w : World) (R : Nat → World → Prop) (T : World → Prop) (hC : ∀ i W, R i W → Kd.C (Kd.int .i64) W A l.length l) (hc : l.length ≤ c)
    (hcl : ∀ i W, i < l.length → R i W → Calls Tryd.prog 38 #[.int .i64 (rd l (i : Int)), .pointer (some ⟨gb, 0, none⟩)] W fun e W' => (e = .returned (.bool true) ∧ T W') ∨ (e = .returned (.bool false) ∧ R (i + 1) W')) (hR : R 0 w) :
    Calls Tryd.prog 25 #[.slice A l.length c, .func (.func 38) #[] #[.pointer (some ⟨gb, 0, none⟩)]] w fun e w' => (e = .returned (.bool true) ∧ T w') ∨ (e = .returned (.bool false) ∧ R l.length w') := by
  have HI := Aside0.mk (may1_index gb A c l w R T hC hc hcl hR)
  clear hC hc hcl hR
  go_enter Tryd.func25, Tryd.ntmps25
  go_wp2_with (fail)
  refine HI.out.mono ?_
  rintro e w' (⟨n, rfl, hn, ht⟩ | ⟨rfl, hr⟩)
  · have hd : decide (0 ≤ n) = true := decide_eq_true hn
    have HT := Aside0.mk ht
    have hne := eq_true hn
    clear ht
    go_wp2_with (fail)
    go_ret
    exact .inl ⟨rfl, HT.out⟩
  · have HR := Aside0.mk hr
    clear hr
    go_wp2_with (fail)
    go_ret
    exact .inr ⟨rfl, HR.out⟩
set_option maxHeartbeats 4000000 in
set_option maxRecDepth 100000 in
theorem may3_index  (A : Option Addr) (c : Nat) (l : List ByteArray) (w : World) (R : Nat → World → Prop) (T : World → Prop) (hC : ∀ i W, R i W → Kd.C Kd.string W A l.length l) (hc : l.length ≤ c)
    (hcl : ∀ i W, i < l.length → R i W → Calls Tryd.prog 45 #[.string (rdOf ByteArray.empty l (i : Int))] W fun e W' => (e = .returned (.bool true) ∧ T W') ∨ (e = .returned (.bool false) ∧ R (i + 1) W')) (hR : R 0 w) :
    Calls Tryd.prog 61 #[.slice A l.length c, .func (.func 45) #[] #[]] w fun e w' => (∃ n : Int, e = .returned (.int .i64 n) ∧ 0 ≤ n ∧ T w') ∨ (e = .returned (.int .i64 (-1)) ∧ R l.length w') := by
  have HC := Aside0.mk hC
  have Hc := Aside0.mk hc
  have HL := Aside0.mk (hC 0 w hR).2.1
  have HCl := Aside0.mk hcl
  have HR := Aside0.mk hR
  clear hC hc hcl hR
  go_enter Tryd.func61, Tryd.ntmps61
  go_wp2_with (fail)
  go_loopw [8] (fun v8 wr => ∃ i : Nat, i ≤ l.length ∧ v8 = .int .i64 i ∧ Aside0 (R i wr)) (fun v8 _ => l.length + 1 - (intOf v8).toNat)
  case atStart => exact ⟨0, by omega, rfl, HR⟩
  case round =>
    obtain ⟨i, hi, rfl, HRi⟩ := hrel
    by_cases hlt : i < l.length
    · obtain ⟨ad, ea, hx⟩ := Kd.at_string (HC.out i wr HRi.out) (i : Int) (by omega) (by omega)
      cases ea
      simp only [Int.toNat_natCast] at hx
      have hL := HL.out
      have hw : wrap64 ((i : Int) + 1) = ((i + 1 : Nat) : Int) := by unfold wrap64; omega
      go_wp2_with (fail)
      refine (HCl.out i wr hlt HRi.out).mono ?_
      rintro e w' (⟨rfl, ht⟩ | ⟨rfl, hr⟩)
      · have HT := Aside0.mk ht
        clear ht
        go_wp2_with (fail)
        go_ret
        exact .inl ⟨i, rfl, by omega, HT.out⟩
      · have HR2 := Aside0.mk hr
        clear hr
        go_wp2_with (fail)
        go_roundw
        case rel => exact ⟨i + 1, by omega, by first | (rw [hw]; done) | (rw [Int.natCast_add]; rfl), HR2⟩
        case measure => first | (rw [hw]; simp only [intOf]; omega) | (simp only [intOf]; omega)
    · obtain rfl : i = l.length := by omega
      go_wp2_with (fail)
      go_ret
      exact .inr ⟨rfl, HRi.out⟩
set_option maxRecDepth 100000 in
theorem may3_contains  (A : Option Addr) (c : Nat) (l : List ByteArray) (w : World) (R : Nat → World → Prop) (T : World → Prop) (hC : ∀ i W, R i W → Kd.C Kd.string W A l.length l) (hc : l.length ≤ c)
    (hcl : ∀ i W, i < l.length → R i W → Calls Tryd.prog 45 #[.string (rdOf ByteArray.empty l (i : Int))] W fun e W' => (e = .returned (.bool true) ∧ T W') ∨ (e = .returned (.bool false) ∧ R (i + 1) W')) (hR : R 0 w) :
    Calls Tryd.prog 44 #[.slice A l.length c, .func (.func 45) #[] #[]] w fun e w' => (e = .returned (.bool true) ∧ T w') ∨ (e = .returned (.bool false) ∧ R l.length w') := by
  have HI := Aside0.mk (may3_index  A c l w R T hC hc hcl hR)
  clear hC hc hcl hR
  go_enter Tryd.func44, Tryd.ntmps44
  go_wp2_with (fail)
  refine HI.out.mono ?_
  rintro e w' (⟨n, rfl, hn, ht⟩ | ⟨rfl, hr⟩)
  · have hd : decide (0 ≤ n) = true := decide_eq_true hn
    have HT := Aside0.mk ht
    have hne := eq_true hn
    clear ht
    go_wp2_with (fail)
    go_ret
    exact .inl ⟨rfl, HT.out⟩
  · have HR := Aside0.mk hr
    clear hr
    go_wp2_with (fail)
    go_ret
    exact .inr ⟨rfl, HR.out⟩
set_option maxHeartbeats 4000000 in
set_option maxRecDepth 100000 in
theorem of1_index (gb : Nat) (A : Option Addr) (c : Nat) (l : List Int) (w : World) (R : Nat → World → Prop) (T : World → Prop) (hC : ∀ i W, R i W → Kd.C (Kd.int .i64) W A l.length l) (hc : l.length ≤ c)
    (hcl : ∀ i W, i < l.length → R i W → Calls Tryd.prog 26 #[.int .i64 (rd l (i : Int)), .pointer (some ⟨gb, 0, none⟩)] W fun e W' => (e = .returned (.bool true) ∧ T W') ∨ (e = .returned (.bool false) ∧ R (i + 1) W')) (hR : R 0 w) :
    Calls Tryd.prog 46 #[.slice A l.length c, .func (.func 26) #[] #[.pointer (some ⟨gb, 0, none⟩)]] w fun e w' => (∃ n : Int, e = .returned (.int .i64 n) ∧ 0 ≤ n ∧ T w') ∨ (e = .returned (.int .i64 (-1)) ∧ R l.length w') := by
  have HC := Aside0.mk hC
  have Hc := Aside0.mk hc
  have HL := Aside0.mk (hC 0 w hR).2.1
  have HCl := Aside0.mk hcl
  have HR := Aside0.mk hR
  clear hC hc hcl hR
  go_enter Tryd.func46, Tryd.ntmps46
  go_wp2_with (fail)
  go_loopw [8] (fun v8 wr => ∃ i : Nat, i ≤ l.length ∧ v8 = .int .i64 i ∧ Aside0 (R i wr)) (fun v8 _ => l.length + 1 - (intOf v8).toNat)
  case atStart => exact ⟨0, by omega, rfl, HR⟩
  case round =>
    obtain ⟨i, hi, rfl, HRi⟩ := hrel
    by_cases hlt : i < l.length
    · obtain ⟨ad, ea, hx⟩ := Kd.at_int (HC.out i wr HRi.out) (i : Int) (by omega) (by omega)
      cases ea
      simp only [Int.toNat_natCast] at hx
      have hL := HL.out
      have hw : wrap64 ((i : Int) + 1) = ((i + 1 : Nat) : Int) := by unfold wrap64; omega
      go_wp2_with (fail)
      refine (HCl.out i wr hlt HRi.out).mono ?_
      rintro e w' (⟨rfl, ht⟩ | ⟨rfl, hr⟩)
      · have HT := Aside0.mk ht
        clear ht
        go_wp2_with (fail)
        go_ret
        exact .inl ⟨i, rfl, by omega, HT.out⟩
      · have HR2 := Aside0.mk hr
        clear hr
        go_wp2_with (fail)
        go_roundw
        case rel => exact ⟨i + 1, by omega, by first | (rw [hw]; done) | (rw [Int.natCast_add]; rfl), HR2⟩
        case measure => first | (rw [hw]; simp only [intOf]; omega) | (simp only [intOf]; omega)
    · obtain rfl : i = l.length := by omega
      go_wp2_with (fail)
      go_ret
      exact .inr ⟨rfl, HRi.out⟩
set_option maxRecDepth 100000 in
theorem of1_contains (gb : Nat) (A : Option Addr) (c : Nat) (l : List Int) (w : World) (R : Nat → World → Prop) (T : World → Prop) (hC : ∀ i W, R i W → Kd.C (Kd.int .i64) W A l.length l) (hc : l.length ≤ c)
    (hcl : ∀ i W, i < l.length → R i W → Calls Tryd.prog 26 #[.int .i64 (rd l (i : Int)), .pointer (some ⟨gb, 0, none⟩)] W fun e W' => (e = .returned (.bool true) ∧ T W') ∨ (e = .returned (.bool false) ∧ R (i + 1) W')) (hR : R 0 w) :
    Calls Tryd.prog 25 #[.slice A l.length c, .func (.func 26) #[] #[.pointer (some ⟨gb, 0, none⟩)]] w fun e w' => (e = .returned (.bool true) ∧ T w') ∨ (e = .returned (.bool false) ∧ R l.length w') := by
  have HI := Aside0.mk (of1_index gb A c l w R T hC hc hcl hR)
  clear hC hc hcl hR
  go_enter Tryd.func25, Tryd.ntmps25
  go_wp2_with (fail)
  refine HI.out.mono ?_
  rintro e w' (⟨n, rfl, hn, ht⟩ | ⟨rfl, hr⟩)
  · have hd : decide (0 ≤ n) = true := decide_eq_true hn
    have HT := Aside0.mk ht
    have hne := eq_true hn
    clear ht
    go_wp2_with (fail)
    go_ret
    exact .inl ⟨rfl, HT.out⟩
  · have HR := Aside0.mk hr
    clear hr
    go_wp2_with (fail)
    go_ret
    exact .inr ⟨rfl, HR.out⟩
set_option maxHeartbeats 4000000 in
set_option maxRecDepth 100000 in
theorem holds1_index (gb : Nat) (gd : Nat) (A : Option Addr) (c : Nat) (l : List Int) (w : World) (R : Nat → World → Prop) (T : World → Prop) (hC : ∀ i W, R i W → Kd.C (Kd.int .i64) W A l.length l) (hc : l.length ≤ c)
    (hcl : ∀ i W, i < l.length → R i W → Calls Tryd.prog 47 #[.int .i64 (rd l (i : Int)), .pointer (some ⟨gb, 0, none⟩), .pointer (some ⟨gd, 0, none⟩)] W fun e W' => (e = .returned (.bool true) ∧ T W') ∨ (e = .returned (.bool false) ∧ R (i + 1) W')) (hR : R 0 w) :
    Calls Tryd.prog 46 #[.slice A l.length c, .func (.func 47) #[] #[.pointer (some ⟨gb, 0, none⟩), .pointer (some ⟨gd, 0, none⟩)]] w fun e w' => (∃ n : Int, e = .returned (.int .i64 n) ∧ 0 ≤ n ∧ T w') ∨ (e = .returned (.int .i64 (-1)) ∧ R l.length w') := by
  have HC := Aside0.mk hC
  have Hc := Aside0.mk hc
  have HL := Aside0.mk (hC 0 w hR).2.1
  have HCl := Aside0.mk hcl
  have HR := Aside0.mk hR
  clear hC hc hcl hR
  go_enter Tryd.func46, Tryd.ntmps46
  go_wp2_with (fail)
  go_loopw [8] (fun v8 wr => ∃ i : Nat, i ≤ l.length ∧ v8 = .int .i64 i ∧ Aside0 (R i wr)) (fun v8 _ => l.length + 1 - (intOf v8).toNat)
  case atStart => exact ⟨0, by omega, rfl, HR⟩
  case round =>
    obtain ⟨i, hi, rfl, HRi⟩ := hrel
    by_cases hlt : i < l.length
    · obtain ⟨ad, ea, hx⟩ := Kd.at_int (HC.out i wr HRi.out) (i : Int) (by omega) (by omega)
      cases ea
      simp only [Int.toNat_natCast] at hx
      have hL := HL.out
      have hw : wrap64 ((i : Int) + 1) = ((i + 1 : Nat) : Int) := by unfold wrap64; omega
      go_wp2_with (fail)
      refine (HCl.out i wr hlt HRi.out).mono ?_
      rintro e w' (⟨rfl, ht⟩ | ⟨rfl, hr⟩)
      · have HT := Aside0.mk ht
        clear ht
        go_wp2_with (fail)
        go_ret
        exact .inl ⟨i, rfl, by omega, HT.out⟩
      · have HR2 := Aside0.mk hr
        clear hr
        go_wp2_with (fail)
        go_roundw
        case rel => exact ⟨i + 1, by omega, by first | (rw [hw]; done) | (rw [Int.natCast_add]; rfl), HR2⟩
        case measure => first | (rw [hw]; simp only [intOf]; omega) | (simp only [intOf]; omega)
    · obtain rfl : i = l.length := by omega
      go_wp2_with (fail)
      go_ret
      exact .inr ⟨rfl, HRi.out⟩
set_option maxRecDepth 100000 in
theorem holds1_contains (gb : Nat) (gd : Nat) (A : Option Addr) (c : Nat) (l : List Int) (w : World) (R : Nat → World → Prop) (T : World → Prop) (hC : ∀ i W, R i W → Kd.C (Kd.int .i64) W A l.length l) (hc : l.length ≤ c)
    (hcl : ∀ i W, i < l.length → R i W → Calls Tryd.prog 47 #[.int .i64 (rd l (i : Int)), .pointer (some ⟨gb, 0, none⟩), .pointer (some ⟨gd, 0, none⟩)] W fun e W' => (e = .returned (.bool true) ∧ T W') ∨ (e = .returned (.bool false) ∧ R (i + 1) W')) (hR : R 0 w) :
    Calls Tryd.prog 25 #[.slice A l.length c, .func (.func 47) #[] #[.pointer (some ⟨gb, 0, none⟩), .pointer (some ⟨gd, 0, none⟩)]] w fun e w' => (e = .returned (.bool true) ∧ T w') ∨ (e = .returned (.bool false) ∧ R l.length w') := by
  have HI := Aside0.mk (holds1_index gb gd A c l w R T hC hc hcl hR)
  clear hC hc hcl hR
  go_enter Tryd.func25, Tryd.ntmps25
  go_wp2_with (fail)
  refine HI.out.mono ?_
  rintro e w' (⟨n, rfl, hn, ht⟩ | ⟨rfl, hr⟩)
  · have hd : decide (0 ≤ n) = true := decide_eq_true hn
    have HT := Aside0.mk ht
    have hne := eq_true hn
    clear ht
    go_wp2_with (fail)
    go_ret
    exact .inl ⟨rfl, HT.out⟩
  · have HR := Aside0.mk hr
    clear hr
    go_wp2_with (fail)
    go_ret
    exact .inr ⟨rfl, HR.out⟩
end Go.Proofs.YtgppcpghpeenhaaDoor.L3

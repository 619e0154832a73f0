/- wire's writers of texts and lists. -/
import Derived.Test.YtcpnjlagmnlecaaProg
import Derived.Below
import Derived.Deep.Draws
import Derived.Deep.AppendLies
import Derived.Maps.AppendAt
import Derived.OwnWalk
import Derived.Laws.BytesArg
import Derived.Laws.MakeOwn
import Derived.Laws.OwnMore
import Derived.Deep.OwnRows
import Derived.Tactics
import Derived.Lib.ConvBytes
import Derived.Laws.Slices
import Derived.WalkKit
import Derived.KernelRfl
import Derived.RowKit3
import Derived.Deep.LoopGhost
import Derived.Deep.QuietTactic
import Derived.BigQuiet
import Derived.WideLaws
import Derived.Deep.DeepCutAuto
import Derived.Deep.CutBlock
import Derived.Deep.RegionHeld3
import Derived.Laws.Rows
import Derived.Lib.AppendStr
import Derived.ArgAppend
import Derived.Laws.IdiomCopy
import Derived.OrdersHeld
import Derived.Laws.BitsLemmas
import Derived.RowKit
import Derived.WalkSpells
import Derived.Laws.CopyOwn
import Derived.Test.YtcpnjlagmnlecaaWWords
import Derived.Test.YtcpnjlagmnlecaaWLast
import Derived.Test.YtcpnjlagmnlecaaWMore
import Derived.Test.YtcpnjlagmnlecaaA8
namespace Go.Proofs.Ytcpnjlagmnlecaa.A9
open Go.RowKit Go.Proofs.YtcpnjlagmnlecaaW.PrintWords Go.Proofs.YtcpnjlagmnlecaaW.PrintLast Go.Proofs.YtcpnjlagmnlecaaW.PrintMore Go.Proofs.Ytcpnjlagmnlecaa Go.Proofs.Ytcpnjlagmnlecaa.A2 Go.Proofs.Ytcpnjlagmnlecaa.A8
set_option linter.unusedVariables false
set_option linter.unusedSimpArgs false
def wire_Text.f (l0 : List Int) (s : ByteArray) : Option (List Int × Int) := if l0.length + 65600 < 140737488355328 then some (let_ l0 s) else none
set_option maxHeartbeats 4000000 in
set_option maxRecDepth 100000 in
theorem wire_Text.calls (A0 : Option Addr) (c0 : Nat) (l0 : List Int) (a1 : ByteArray) (r1 : List Int) (r2 : Int) (w : World) (hr0 : Kd.C (Kd.int .u8) w A0 l0.length l0) (hc0 : l0.length ≤ c0) (h : wire_Text.f l0 a1 = some (r1, r2)) :
    Calls Try.prog 20 #[.slice A0 l0.length c0, .string a1] w fun e w' => ∃ v0_ : Value, e = .returned (.tuple #[v0_, .int .i64 r2]) ∧ Kd.R (Kd.int .u8) 5 w' w.heap.size (fun _ => True) v0_ r1 ∧ Below w.heap.size w w' := by
  have HR := Aside0.mk hr0
  have HC := Aside0.mk hc0
  clear hr0 hc0
  unfold wire_Text.f at h
  by_cases hl : l0.length + 65600 < 140737488355328
  · rw [if_pos hl] at h
    have HQ := Aside0.mk (Option.some.inj h)
    have HX := Aside0.mk hl
    have HCl := Aside0.mk (show A1.slices_Clone_byte_byte.f l0 = some l0 from if_pos (by omega))
    clear h hl
    go_enter Try.func20, Try.ntmps20
    go_wp2_with (first | (go_at_call 44; refine (A1.slices_Clone_byte_byte.calls A0 c0 l0 l0 _ HR.out HC.out HCl.out).mono ?_; rintro e w1 ⟨v0, rfl, hr, hk⟩; have HR1 := Aside0.mk hr; have HK1 := Aside0.mk hk; clear hr hk) | (go_at_call 48; refine (letters_own _ l0 _ w _ HK1.out HR1.out HX.out).mono ?_; rw [HQ.out]; rintro e w2 ⟨v1, rfl, hr, hb⟩; have HO2 := Aside0.mk hr; have HB2 := Aside0.mk hb; clear hr hb))
    go_ret2
    exact ⟨_, rfl, HO2.out, HB2.out⟩
  · rw [if_neg hl] at h
    cases h
def listW {α : Type} (one : List Int → α → List Int × Int) : List Int → List α → List Int × Int
  | acc, [] => (acc, 0)
  | acc, x :: l => if (one acc x).2 ≠ 0 then ([], (one acc x).2) else listW one (one acc x).1 l
theorem dig_len (xs : List Int) (n : Int) : (dig xs n).1.length ≤ xs.length + 65545 := by
  unfold dig
  split
  · rename_i h
    have := enc_len8 n.toNat (by omega)
    simp only [List.length_append]; omega
  · simp
theorem let_len (xs : List Int) (s : ByteArray) : (let_ xs s).1.length ≤ xs.length + 65545 := by
  unfold let_
  split
  · rename_i h
    have := enc_len8 s.size (by omega)
    simp only [List.length_append, bytesOf_length]; omega
  · simp
theorem dig_5 (xs : List Int) (n : Nat) (h : n ≤ 9007199254740991) : dig xs (n : Int) = (xs ++ WireP.enc n, 0) := by
  unfold dig; rw [if_pos ⟨by omega, by omega⟩, Int.toNat_natCast]
theorem drop_getD {α : Type} {l : List α} {k : Nat} (h : k < l.length) (d : α) : l.drop k = l.getD k d :: l.drop (k + 1) := by
  rw [List.getD_eq_getElem?_getD, List.getElem?_eq_getElem h, Option.getD_some, List.drop_eq_getElem_cons h]
def wire_Nums.f (l0 : List Int) (l1 : List Int) : Option (List Int × Int) := if l0.length + 1000000000 < 140737488355328 then (if l1.length ≤ 8000 then some (listW dig (l0 ++ WireP.enc l1.length) l1) else some ([], 5)) else none
set_option maxHeartbeats 4000000 in
set_option maxRecDepth 100000 in
theorem wire_Nums.inner (A0 : Option Addr) (c0 : Nat) (l0 : List Int) (A1_ : Option Addr) (c1 : Nat) (l1 : List Int) (r1 : List Int) (r2 : Int) (w : World) (hr0 : Kd.C (Kd.int .u8) w A0 l0.length l0) (hc0 : l0.length ≤ c0) (hr1 : Kd.C (Kd.int .i64) w A1_ l1.length l1) (hc1 : l1.length ≤ c1) (h : wire_Nums.f l0 l1 = some (r1, r2)) :
    Calls Try.prog 49 #[.slice A0 l0.length c0, .slice A1_ l1.length c1, .func (.func 43) #[] #[]] w fun e w' => ∃ v0_ : Value, e = .returned (.tuple #[v0_, .int .i64 r2]) ∧ Kd.R (Kd.int .u8) 5 w' w.heap.size (fun _ => True) v0_ r1 ∧ Below w.heap.size w w' := by
  have HR := Aside0.mk hr0
  have HC := Aside0.mk hc0
  have HR1 := Aside0.mk hr1
  have HC1 := Aside0.mk hc1
  clear hr0 hc0 hr1 hc1
  unfold wire_Nums.f at h
  by_cases hl : l0.length + 1000000000 < 140737488355328
  · rw [if_pos hl] at h
    have HX := Aside0.mk hl
    by_cases h8 : l1.length ≤ 8000
    · rw [if_pos h8] at h
      have HQ := Aside0.mk (Option.some.inj h)
      have HCl := Aside0.mk (show A1.slices_Clone_byte_byte.f l0 = some l0 from if_pos (by omega))
      have HD := Aside0.mk (dig_5 l0 l1.length (by omega))
      have HL8 := Aside0.mk (enc_len8 l1.length (by omega))
      have h81 : decide (8000 < (l1.length : Int)) = false := decide_eq_false (by omega)
      have h82 : decide (8000 < l1.length) = false := decide_eq_false (by omega)
      have h83 : l1.length ≤ 9223372036854775807 := by omega
      have hX9 : Aside0 (l0.length + 9 < 140737488355328 - 9) := ⟨by omega⟩
      clear h hl
      go_enter Try.func49, Try.ntmps49
      go_wp2_with (first | (go_at_call 44; refine (A1.slices_Clone_byte_byte.calls A0 c0 l0 l0 _ HR.out HC.out HCl.out).mono ?_; rintro e w1 ⟨v0, rfl, hr, hk⟩; have HO1 := Aside0.mk hr; have HB1 := Aside0.mk hk; clear hr hk) | (go_at_call 43; refine (digits_own _ l0 _ w _ HB1.out HO1.out hX9.out).mono ?_; rw [HD.out]; rintro e w2 ⟨v1, rfl, hr, hb⟩; have HO2 := Aside0.mk hr; have HB2 := Aside0.mk hb; clear hr hb))
      go_loopw [0, 8, 24] (fun v0 v8 v24 wr => ∃ (k : Nat) (acc : List Int), k ≤ l1.length ∧ v24 = .int .i64 k ∧ v8 = .int .i64 0 ∧ Aside0 (acc.length ≤ l0.length + 8 + k * 65545) ∧ Aside0 (listW dig acc (l1.drop k) = (r1, r2)) ∧ Aside0 (Kd.R (Kd.int .u8) 5 wr w.heap.size (fun _ => True) v0 acc) ∧ Aside0 (Below w.heap.size w wr)) (fun _ _ v24 _ => l1.length - (intOf v24).toNat)
      case atStart => exact ⟨0, l0 ++ WireP.enc l1.length, by omega, rfl, rfl, ⟨by have := HL8.out; simp only [List.length_append]; omega⟩, ⟨by rw [List.drop_zero]; exact HQ.out⟩, HO2, HB2⟩
      case round =>
        obtain ⟨k, acc, hk, rfl, rfl, HA, HE, HO, HB⟩ := hrel
        by_cases hlt : k < l1.length
        · obtain ⟨ad, ea, hx⟩ := Kd.at_int HR1.out k (by omega) (by omega)
          cases ea
          have hx2 : wr.cell? (ad.add k) = some (.int .i64 (rd l1 k)) := (HB.out.cell (World.block_lt_of_cell? w _ hx)).trans hx
          have hst := HE.out
          rw [drop_getD hlt 0] at hst
          generalize hxe : l1.getD k 0 = x at hst
          have hrd : rd l1 (k : Int) = x := hxe
          rw [hrd] at hx2
          have HX1 : Aside0 (acc.length + 65600 < 140737488355328) := ⟨by
            have h1 := HA.out; have h2 := HX.out
            have h3 : k * 65545 ≤ 8000 * 65545 := Nat.mul_le_mul_right _ (by omega)
            omega⟩
          have HX2 : Aside0 (acc.length + 9 < 140737488355328 - 9) := ⟨by have := HX1.out; omega⟩
          have HLn := Aside0.mk (dig_len acc x)
          clear hx hrd hxe
          by_cases he : (dig acc x).2 = 0
          · have hst2 : listW dig (dig acc x).1 (l1.drop (k + 1)) = (r1, r2) := by rw [listW, if_neg (by simpa using he)] at hst; exact hst
            have HST := Aside0.mk hst2
            clear hst hst2
            obtain ⟨⟨acc2, e2⟩, hq⟩ : ∃ R, dig acc x = R := ⟨_, rfl⟩
            rw [hq] at he HST HLn
            have he2 : e2 = 0 := he
            subst he2
            have HQ2 := Aside0.mk hq
            clear hq he
            go_wp2_with (go_at_call 43; refine (digits_own _ acc _ w _ HB.out HO.out HX2.out).mono ?_; rw [HQ2.out]; rintro e w2 ⟨v1, rfl, hr, hb⟩; have HO2 := Aside0.mk hr; have HB2 := Aside0.mk hb; clear hr hb)
            go_roundw
            case rel => exact ⟨k + 1, acc2, by omega, by go_num, rfl, ⟨by have h1 := HLn.out; have h2 := HA.out; omega⟩, HST, HO2, HB2⟩
            case measure => simp [intOf]; omega
          · rw [listW, if_pos he] at hst
            have HST := Aside0.mk hst
            obtain ⟨⟨acc2, e2⟩, hq⟩ : ∃ R, dig acc x = R := ⟨_, rfl⟩
            rw [hq] at he HST
            have he2 : (e2 != 0) = true := by simpa using he
            have HQ2 := Aside0.mk hq
            clear hq he hst
            go_wp2_with (go_at_call 43; refine (digits_own _ acc _ w _ HB.out HO.out HX2.out).mono ?_; rw [HQ2.out]; rintro e w2 ⟨v1, rfl, hr, hb⟩; have HO2 := Aside0.mk hr; have HB2 := Aside0.mk hb; clear hr hb)
            go_ret2
            have h1 := HST.out
            simp only [Prod.mk.injEq] at h1
            obtain ⟨rfl, rfl⟩ := h1
            exact ⟨_, rfl, Kd.R_nil _ _ _ _ _, HB2.out⟩
        · obtain rfl : k = l1.length := by omega
          have h1 := HE.out
          rw [List.drop_length, listW] at h1
          simp only [Prod.mk.injEq] at h1
          obtain ⟨h2, h3⟩ := h1
          have H2 := Aside0.mk h2
          have H3 := Aside0.mk h3
          clear h2 h3
          go_wp2
          go_ret2
          rw [← H2.out, ← H3.out]
          exact ⟨_, rfl, HO.out, HB.out⟩
    · rw [if_neg h8] at h
      have h1 := Option.some.inj h
      simp only [Prod.mk.injEq] at h1
      obtain ⟨rfl, rfl⟩ := h1
      have h81 : decide (8000 < (l1.length : Int)) = true := decide_eq_true (by omega)
      have h82 : decide (8000 < l1.length) = true := decide_eq_true (by omega)
      clear h h8 hl
      go_enter Try.func49, Try.ntmps49
      go_wp2
      go_ret2
      exact ⟨_, rfl, Kd.R_nil _ _ _ _ _, Below.refl _ _⟩
  · rw [if_neg hl] at h
    cases h
set_option maxHeartbeats 4000000 in
set_option maxRecDepth 100000 in
theorem wire_Nums.calls (A0 : Option Addr) (c0 : Nat) (l0 : List Int) (A1_ : Option Addr) (c1 : Nat) (l1 : List Int) (r1 : List Int) (r2 : Int) (w : World) (hr0 : Kd.C (Kd.int .u8) w A0 l0.length l0) (hc0 : l0.length ≤ c0) (hr1 : Kd.C (Kd.int .i64) w A1_ l1.length l1) (hc1 : l1.length ≤ c1) (h : wire_Nums.f l0 l1 = some (r1, r2)) :
    Calls Try.prog 22 #[.slice A0 l0.length c0, .slice A1_ l1.length c1] w fun e w' => ∃ v0_ : Value, e = .returned (.tuple #[v0_, .int .i64 r2]) ∧ Kd.R (Kd.int .u8) 5 w' w.heap.size (fun _ => True) v0_ r1 ∧ Below w.heap.size w w' := by
  have HR := Aside0.mk hr0
  have HC := Aside0.mk hc0
  have HR1 := Aside0.mk hr1
  have HC1 := Aside0.mk hc1
  have HH := Aside0.mk h
  clear hr0 hc0 hr1 hc1 h
  go_enter Try.func22, Try.ntmps22
  go_wp2_with (go_at_call 49; refine (wire_Nums.inner _ _ l0 _ _ l1 r1 r2 _ HR.out HC.out HR1.out HC1.out HH.out).mono ?_; rintro e w2 ⟨v1, rfl, hr, hb⟩; have HO2 := Aside0.mk hr; have HB2 := Aside0.mk hb; clear hr hb)
  go_ret2
  exact ⟨_, rfl, HO2.out, HB2.out⟩
def wire_Texts.f (l0 : List Int) (l1 : List ByteArray) : Option (List Int × Int) := if l0.length + 1000000000 < 140737488355328 then (if l1.length ≤ 8000 then some (listW let_ (l0 ++ WireP.enc l1.length) l1) else some ([], 5)) else none
set_option maxHeartbeats 4000000 in
set_option maxRecDepth 100000 in
theorem wire_Texts.inner (A0 : Option Addr) (c0 : Nat) (l0 : List Int) (A1_ : Option Addr) (c1 : Nat) (l1 : List ByteArray) (r1 : List Int) (r2 : Int) (w : World) (hr0 : Kd.C (Kd.int .u8) w A0 l0.length l0) (hc0 : l0.length ≤ c0) (hr1 : Kd.C Kd.string w A1_ l1.length l1) (hc1 : l1.length ≤ c1) (h : wire_Texts.f l0 l1 = some (r1, r2)) :
    Calls Try.prog 50 #[.slice A0 l0.length c0, .slice A1_ l1.length c1, .func (.func 48) #[] #[]] w fun e w' => ∃ v0_ : Value, e = .returned (.tuple #[v0_, .int .i64 r2]) ∧ Kd.R (Kd.int .u8) 5 w' w.heap.size (fun _ => True) v0_ r1 ∧ Below w.heap.size w w' := by
  have HR := Aside0.mk hr0
  have HC := Aside0.mk hc0
  have HR1 := Aside0.mk hr1
  have HC1 := Aside0.mk hc1
  clear hr0 hc0 hr1 hc1
  unfold wire_Texts.f at h
  by_cases hl : l0.length + 1000000000 < 140737488355328
  · rw [if_pos hl] at h
    have HX := Aside0.mk hl
    by_cases h8 : l1.length ≤ 8000
    · rw [if_pos h8] at h
      have HQ := Aside0.mk (Option.some.inj h)
      have HCl := Aside0.mk (show A1.slices_Clone_byte_byte.f l0 = some l0 from if_pos (by omega))
      have HD := Aside0.mk (dig_5 l0 l1.length (by omega))
      have HL8 := Aside0.mk (enc_len8 l1.length (by omega))
      have h81 : decide (8000 < (l1.length : Int)) = false := decide_eq_false (by omega)
      have h82 : decide (8000 < l1.length) = false := decide_eq_false (by omega)
      have h83 : l1.length ≤ 9223372036854775807 := by omega
      have hX9 : Aside0 (l0.length + 9 < 140737488355328 - 9) := ⟨by omega⟩
      clear h hl
      go_enter Try.func50, Try.ntmps50
      go_wp2_with (first | (go_at_call 44; refine (A1.slices_Clone_byte_byte.calls A0 c0 l0 l0 _ HR.out HC.out HCl.out).mono ?_; rintro e w1 ⟨v0, rfl, hr, hk⟩; have HO1 := Aside0.mk hr; have HB1 := Aside0.mk hk; clear hr hk) | (go_at_call 43; refine (digits_own _ l0 _ w _ HB1.out HO1.out hX9.out).mono ?_; rw [HD.out]; rintro e w2 ⟨v1, rfl, hr, hb⟩; have HO2 := Aside0.mk hr; have HB2 := Aside0.mk hb; clear hr hb))
      go_loopw [0, 8, 24] (fun v0 v8 v24 wr => ∃ (k : Nat) (acc : List Int), k ≤ l1.length ∧ v24 = .int .i64 k ∧ v8 = .int .i64 0 ∧ Aside0 (acc.length ≤ l0.length + 8 + k * 65545) ∧ Aside0 (listW let_ acc (l1.drop k) = (r1, r2)) ∧ Aside0 (Kd.R (Kd.int .u8) 5 wr w.heap.size (fun _ => True) v0 acc) ∧ Aside0 (Below w.heap.size w wr)) (fun _ _ v24 _ => l1.length - (intOf v24).toNat)
      case atStart => exact ⟨0, l0 ++ WireP.enc l1.length, by omega, rfl, rfl, ⟨by have := HL8.out; simp only [List.length_append]; omega⟩, ⟨by rw [List.drop_zero]; exact HQ.out⟩, HO2, HB2⟩
      case round =>
        obtain ⟨k, acc, hk, rfl, rfl, HA, HE, HO, HB⟩ := hrel
        by_cases hlt : k < l1.length
        · obtain ⟨ad, ea, hx⟩ := Kd.at_string HR1.out k (by omega) (by omega)
          cases ea
          have hx2 : wr.cell? (ad.add k) = some (.string (rdOf ByteArray.empty l1 k)) := (HB.out.cell (World.block_lt_of_cell? w _ hx)).trans hx
          have hst := HE.out
          rw [drop_getD hlt ByteArray.empty] at hst
          generalize hxe : l1.getD k ByteArray.empty = x at hst
          have hrd : rdOf ByteArray.empty l1 (k : Int) = x := hxe
          rw [hrd] at hx2
          have HX1 : Aside0 (acc.length + 65600 < 140737488355328) := ⟨by
            have h1 := HA.out; have h2 := HX.out
            have h3 : k * 65545 ≤ 8000 * 65545 := Nat.mul_le_mul_right _ (by omega)
            omega⟩
          have HX2 : Aside0 (acc.length + 9 < 140737488355328 - 9) := ⟨by have := HX1.out; omega⟩
          have HLn := Aside0.mk (let_len acc x)
          clear hx hrd hxe
          by_cases he : (let_ acc x).2 = 0
          · have hst2 : listW let_ (let_ acc x).1 (l1.drop (k + 1)) = (r1, r2) := by rw [listW, if_neg (by simpa using he)] at hst; exact hst
            have HST := Aside0.mk hst2
            clear hst hst2
            obtain ⟨⟨acc2, e2⟩, hq⟩ : ∃ R, let_ acc x = R := ⟨_, rfl⟩
            rw [hq] at he HST HLn
            have he2 : e2 = 0 := he
            subst he2
            have HQ2 := Aside0.mk hq
            clear hq he
            go_wp2_with (go_at_call 48; refine (letters_own _ acc _ w _ HB.out HO.out HX1.out).mono ?_; rw [HQ2.out]; rintro e w2 ⟨v1, rfl, hr, hb⟩; have HO2 := Aside0.mk hr; have HB2 := Aside0.mk hb; clear hr hb)
            go_roundw
            case rel => exact ⟨k + 1, acc2, by omega, by go_num, rfl, ⟨by have h1 := HLn.out; have h2 := HA.out; omega⟩, HST, HO2, HB2⟩
            case measure => simp [intOf]; omega
          · rw [listW, if_pos he] at hst
            have HST := Aside0.mk hst
            obtain ⟨⟨acc2, e2⟩, hq⟩ : ∃ R, let_ acc x = R := ⟨_, rfl⟩
            rw [hq] at he HST
            have he2 : (e2 != 0) = true := by simpa using he
            have HQ2 := Aside0.mk hq
            clear hq he hst
            go_wp2_with (go_at_call 48; refine (letters_own _ acc _ w _ HB.out HO.out HX1.out).mono ?_; rw [HQ2.out]; rintro e w2 ⟨v1, rfl, hr, hb⟩; have HO2 := Aside0.mk hr; have HB2 := Aside0.mk hb; clear hr hb)
            go_ret2
            have h1 := HST.out
            simp only [Prod.mk.injEq] at h1
            obtain ⟨rfl, rfl⟩ := h1
            exact ⟨_, rfl, Kd.R_nil _ _ _ _ _, HB2.out⟩
        · obtain rfl : k = l1.length := by omega
          have h1 := HE.out
          rw [List.drop_length, listW] at h1
          simp only [Prod.mk.injEq] at h1
          obtain ⟨h2, h3⟩ := h1
          have H2 := Aside0.mk h2
          have H3 := Aside0.mk h3
          clear h2 h3
          go_wp2
          go_ret2
          rw [← H2.out, ← H3.out]
          exact ⟨_, rfl, HO.out, HB.out⟩
    · rw [if_neg h8] at h
      have h1 := Option.some.inj h
      simp only [Prod.mk.injEq] at h1
      obtain ⟨rfl, rfl⟩ := h1
      have h81 : decide (8000 < (l1.length : Int)) = true := decide_eq_true (by omega)
      have h82 : decide (8000 < l1.length) = true := decide_eq_true (by omega)
      clear h h8 hl
      go_enter Try.func50, Try.ntmps50
      go_wp2
      go_ret2
      exact ⟨_, rfl, Kd.R_nil _ _ _ _ _, Below.refl _ _⟩
  · rw [if_neg hl] at h
    cases h
set_option maxHeartbeats 4000000 in
set_option maxRecDepth 100000 in
theorem wire_Texts.calls (A0 : Option Addr) (c0 : Nat) (l0 : List Int) (A1_ : Option Addr) (c1 : Nat) (l1 : List ByteArray) (r1 : List Int) (r2 : Int) (w : World) (hr0 : Kd.C (Kd.int .u8) w A0 l0.length l0) (hc0 : l0.length ≤ c0) (hr1 : Kd.C Kd.string w A1_ l1.length l1) (hc1 : l1.length ≤ c1) (h : wire_Texts.f l0 l1 = some (r1, r2)) :
    Calls Try.prog 24 #[.slice A0 l0.length c0, .slice A1_ l1.length c1] w fun e w' => ∃ v0_ : Value, e = .returned (.tuple #[v0_, .int .i64 r2]) ∧ Kd.R (Kd.int .u8) 5 w' w.heap.size (fun _ => True) v0_ r1 ∧ Below w.heap.size w w' := by
  have HR := Aside0.mk hr0
  have HC := Aside0.mk hc0
  have HR1 := Aside0.mk hr1
  have HC1 := Aside0.mk hc1
  have HH := Aside0.mk h
  clear hr0 hc0 hr1 hc1 h
  go_enter Try.func24, Try.ntmps24
  go_wp2_with (go_at_call 50; refine (wire_Texts.inner _ _ l0 _ _ l1 r1 r2 _ HR.out HC.out HR1.out HC1.out HH.out).mono ?_; rintro e w2 ⟨v1, rfl, hr, hb⟩; have HO2 := Aside0.mk hr; have HB2 := Aside0.mk hb; clear hr hb)
  go_ret2
  exact ⟨_, rfl, HO2.out, HB2.out⟩
end Go.Proofs.Ytcpnjlagmnlecaa.A9

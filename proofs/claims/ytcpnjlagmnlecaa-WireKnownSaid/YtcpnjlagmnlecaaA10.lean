/- The document's answer of layer 1: Text and Texts. -/
import Derived.Test.YtcpnjlagmnlecaaProg
import Derived.Below
import Derived.Deep.Draws
import Derived.Deep.AppendLies
import Derived.Maps.AppendAt
import Derived.OwnWalk
import Derived.Laws.BytesArg
import Derived.Laws.MakeOwn
import Derived.Laws.OwnMore
import Derived.Deep.OwnRows
import Derived.Tactics
import Derived.Lib.ConvBytes
import Derived.Laws.Slices
import Derived.WalkKit
import Derived.KernelRfl
import Derived.RowKit3
import Derived.Deep.LoopGhost
import Derived.Deep.QuietTactic
import Derived.BigQuiet
import Derived.WideLaws
import Derived.Deep.DeepCutAuto
import Derived.Deep.CutBlock
import Derived.Deep.RegionHeld3
import Derived.Laws.Rows
import Derived.Lib.AppendStr
import Derived.ArgAppend
import Derived.Laws.IdiomCopy
import Derived.OrdersHeld
import Derived.Laws.BitsLemmas
import Derived.RowKit
import Derived.WalkSpells
import Derived.Laws.CopyOwn
import Derived.Test.YtcpnjlagmnlecaaWWords
import Derived.Test.YtcpnjlagmnlecaaWLast
import Derived.Test.YtcpnjlagmnlecaaWMore
import Derived.Test.YtcpnjlagmnlecaaHx2
import Derived.Test.YtcpnjlagmnlecaaA9
namespace Go.Proofs.Ytcpnjlagmnlecaa.A10
open Go.RowKit Go.Proofs.YtcpnjlagmnlecaaW.PrintWords Go.Proofs.YtcpnjlagmnlecaaW.PrintLast Go.Proofs.YtcpnjlagmnlecaaW.PrintMore Go.Proofs.Ytcpnjlagmnlecaa Go.Proofs.Ytcpnjlagmnlecaa.A2 Go.Proofs.Ytcpnjlagmnlecaa.A8 Go.Proofs.Ytcpnjlagmnlecaa.A9 Go.Proofs.Ytcpnjlagmnlecaa.H
set_option linter.unusedVariables false
set_option linter.unusedSimpArgs false
theorem rdigits_l0 : ∀ (n : Nat) (k : Nat) (xs : List Int), n ≤ 9007199254740991 → n < k → xs.length + (WireP.enc n).length < 140737488355328 →
    armillaryref01_digits.l0 k n xs = some (xs ++ WireP.enc n) := by
  intro n
  induction n using Nat.strongRecOn with
  | _ n ih =>
    intro k xs hn hk hx
    obtain ⟨k, rfl⟩ : ∃ m, k = m + 1 := ⟨k - 1, by omega⟩
    unfold armillaryref01_digits.l0
    unfold WireP.enc at hx ⊢
    by_cases h : n < 128
    · rw [if_pos h] at hx
      simp only [List.length_singleton] at hx
      rw [if_neg (by omega), if_pos (by omega), if_pos h]
      rw [show ((n : Int) % 256) = n by omega]
    · rw [if_neg h] at hx
      simp only [List.length_cons] at hx
      rw [if_pos (by omega), if_pos (by omega), if_neg h]
      have e1 : wrap64 (Int.tdiv (n : Int) 128) = ((n / 128 : Nat) : Int) := by
        rw [Int.tdiv_eq_ediv_of_nonneg (by omega)]; unfold wrap64; omega
      have e2 : wrap64 (Int.tmod (n : Int) 128 + 128) % 256 = ((n % 128 + 128 : Nat) : Int) := by
        rw [Int.tmod_eq_emod_of_nonneg (by omega)]; unfold wrap64; omega
      rw [e1, e2, ih (n / 128) (by omega) k _ (by omega) (by omega) (by simp only [List.length_append, List.length_singleton]; omega), List.append_assoc]
      rfl
theorem rdigits_f (n : Nat) (hn : n ≤ 9007199254740991) : armillaryref01_digits.f (n + 1) n = some (WireP.enc n) := by
  have := enc_len8 n (by omega)
  have h := rdigits_l0 n (n + 1) [] hn (by omega) (by simp only [List.length_nil]; omega)
  rw [List.nil_append] at h
  exact h
theorem rdigits_own (n : Nat) (w : World) (hn : n ≤ 9007199254740991) :
    Calls Try.prog 47 #[.int .i64 n] w fun e w' => ∃ v0_ : Value, e = .returned v0_ ∧ Kd.R (Kd.int .u8) 5 w' w.heap.size (fun _ => True) v0_ (WireP.enc n) ∧ Below w.heap.size w w' :=
  armillaryref01_digits.calls _ n _ w (rdigits_f n hn)
theorem joined_f (l0 l1 : List Int) (h : l0.length + l1.length < 140737488355328) : armillaryref01_joined.f l0 l1 = some (l0 ++ l1) := by
  unfold armillaryref01_joined.f armillaryref00_CopyBytes.f
  rw [if_pos (by simp only [List.length_nil]; omega), Option.bind_some, if_pos (by simpa using h)]
  rfl
theorem joined_own (A0 : Option Addr) (c0 : Nat) (l0 : List Int) (A1_ : Option Addr) (c1 : Nat) (l1 : List Int) (w : World) (hr0 : Kd.C (Kd.int .u8) w A0 l0.length l0) (hc0 : l0.length ≤ c0) (hr1 : Kd.C (Kd.int .u8) w A1_ l1.length l1) (hc1 : l1.length ≤ c1) (h : l0.length + l1.length < 140737488355328) :
    Calls Try.prog 46 #[.slice A0 l0.length c0, .slice A1_ l1.length c1] w fun e w' => ∃ v0_ : Value, e = .returned v0_ ∧ Kd.R (Kd.int .u8) 5 w' w.heap.size (fun _ => True) v0_ (l0 ++ l1) ∧ Below w.heap.size w w' :=
  armillaryref01_joined.calls A0 c0 l0 A1_ c1 l1 _ w hr0 hc0 hr1 hc1 (joined_f l0 l1 h)
theorem joined_str (W : World) (A : Option Addr) (c n : Nat) (l : List Int) (s : ByteArray) (hn : n = l.length) (hC : Kd.C (Kd.int .u8) W A l.length l) (hc : l.length ≤ c) (h : l.length + s.size < 140737488355328) :
    Calls Try.prog 46 #[.slice A n c, .slice (some ⟨W.heap.size, 0, none⟩) s.size (grownCap W s.size 0 5)] (Lib.bytesWorld W 5 s) fun e w' => ∃ v0_ : Value, e = .returned v0_ ∧ Kd.R (Kd.int .u8) 5 w' W.heap.size (fun _ => True) v0_ (l ++ bytesOf s) ∧ Below W.heap.size W w' := by
  subst hn
  have hB := bytes_below (Below.refl W.heap.size W) (Nat.le_refl _) 5 s
  have hr := Kd.C_of_reads (d := (0 : Int)) (h1 := fun _ => rfl) (bytes_reads W 5 s (by omega))
  have hl : s.size = (bytesOf s).length := (bytesOf_length s).symm
  rw [hl] at hr ⊢
  have hcap : (bytesOf s).length ≤ grownCap W (bytesOf s).length 0 5 := grownCap_ge _ _ _ _
  refine (joined_own A c l _ _ (bytesOf s) _ (Kd.C_below hC hB) hc hr hcap (by omega)).mono ?_
  rintro e w' ⟨v, rfl, h1, h2⟩
  exact ⟨v, rfl, Kd.R_lower h1 hB.size, below_then hB hB.size h2⟩
/-- A result that is the call's own, opened for reading. -/
theorem reads_own {k : IntKind} {w : World} {e base : Nat} {ok : Nat → Prop} {v : Value} {l : List Int} (h : Kd.R (Kd.int k) e w base ok v l) : ∃ A c, v = .slice A l.length c ∧ l.length ≤ c ∧ Kd.C (Kd.int k) w A l.length l := Kd.R_reads h
def armillaryref01_Text.f (l0 : List Int) (s : ByteArray) : Option (List Int × Int) := if l0.length + 65600 < 140737488355328 then some (let_ l0 s) else none
set_option maxHeartbeats 4000000 in
set_option maxRecDepth 100000 in
theorem armillaryref01_Text.calls (A0 : Option Addr) (c0 : Nat) (l0 : List Int) (a1 : ByteArray) (r1 : List Int) (r2 : Int) (w : World) (hr0 : Kd.C (Kd.int .u8) w A0 l0.length l0) (hc0 : l0.length ≤ c0) (h : armillaryref01_Text.f l0 a1 = some (r1, r2)) :
    Calls Try.prog 21 #[.slice A0 l0.length c0, .string a1] w fun e w' => ∃ v0_ : Value, e = .returned (.tuple #[v0_, .int .i64 r2]) ∧ Kd.R (Kd.int .u8) 5 w' w.heap.size (fun _ => True) v0_ r1 ∧ Below w.heap.size w w' := by
  have HR := Aside0.mk hr0
  have HC := Aside0.mk hc0
  clear hr0 hc0
  unfold armillaryref01_Text.f at h
  by_cases hl : l0.length + 65600 < 140737488355328
  · rw [if_pos hl] at h
    have HX := Aside0.mk hl
    have hq := Option.some.inj h
    clear h hl
    by_cases hs : a1.size ≤ 65536
    · have HN : Aside0 (let_ l0 a1 = (l0 ++ WireP.enc a1.size ++ bytesOf a1, 0)) := ⟨if_pos hs⟩
      rw [HN.out] at hq
      simp only [Prod.mk.injEq] at hq
      obtain ⟨rfl, rfl⟩ := hq
      have HL : Aside0 ((WireP.enc a1.size).length ≤ 8) := ⟨enc_len8 _ (by omega)⟩
      have hs1 : decide (65536 < (a1.size : Int)) = false := decide_eq_false (by omega)
      have hs2 : decide (65536 < a1.size) = false := decide_eq_false (by omega)
      have HS := Aside0.mk hs
      have kb := fun W => print_bytes (P := Try.prog) 9 22 5 Try.underlying9 Try.underlying22 Try.underlying5 a1 W
      clear hs
      go_enter Try.func21, Try.ntmps21
      go_wp2_with (first | (go_at_call 47; refine (rdigits_own a1.size _ (by have := HS.out; omega)).mono ?_; rintro e w1 ⟨v0, rfl, hr, hb⟩; obtain ⟨A1_, c1, hv, hc1, hC1⟩ := reads_own hr; rw [hv]; have HC1 := Aside0.mk hC1; have Hc1 := Aside0.mk hc1; have HB1 := Aside0.mk hb; clear hr hb hv hC1 hc1) | (go_at_call 46; refine (joined_own _ _ l0 _ _ (WireP.enc a1.size) _ (Kd.C_below HR.out HB1.out) HC.out HC1.out Hc1.out (by have h1 := HX.out; have h2 := HL.out; omega)).mono ?_; rintro e w2 ⟨v1, rfl, hr, hb⟩; obtain ⟨A2, c2, hv, hc2, hC2⟩ := reads_own hr; rw [hv]; have HC2 := Aside0.mk hC2; have Hc2 := Aside0.mk hc2; have HB2 := Aside0.mk (below_then HB1.out (below_size HB1.out) hb); clear hr hb hv hC2 hc2) | (go_at_call 46; refine (joined_str _ _ _ _ (l0 ++ WireP.enc a1.size) a1 (by rw [List.length_append]) HC2.out Hc2.out (by have h1 := HX.out; have h2 := HL.out; have h3 := HS.out; simp only [List.length_append]; omega)).mono ?_; rintro e w3 ⟨v2, rfl, hr, hb⟩; have HO3 := Aside0.mk hr; have HB3 := Aside0.mk (below_then HB2.out (below_size HB2.out) hb); clear hr hb))
      go_ret2
      exact ⟨_, rfl, Kd.R_lower HO3.out (below_size HB2.out), HB3.out⟩
    · have HN : Aside0 (let_ l0 a1 = ([], 5)) := ⟨if_neg hs⟩
      rw [HN.out] at hq
      simp only [Prod.mk.injEq] at hq
      obtain ⟨rfl, rfl⟩ := hq
      have hs1 : decide (65536 < (a1.size : Int)) = true := decide_eq_true (by omega)
      have hs2 : decide (65536 < a1.size) = true := decide_eq_true (by omega)
      clear hs
      go_enter Try.func21, Try.ntmps21
      go_wp2
      go_ret2
      exact ⟨_, rfl, Kd.R_nil _ _ _ _ _, Below.refl _ _⟩
  · rw [if_neg hl] at h
    cases h
def armillaryref01_Texts.f (l0 : List Int) (l1 : List ByteArray) : Option (List Int × Int) := wire_Texts.f l0 l1
theorem let_bad (acc : List Int) (x : ByteArray) (h : ¬ x.size ≤ 65536) : let_ acc x = ([], 5) := if_neg h
theorem let_good (acc : List Int) (x : ByteArray) (h : x.size ≤ 65536) : let_ acc x = (acc ++ WireP.enc x.size ++ bytesOf x, 0) := if_pos h
set_option maxHeartbeats 8000000 in
set_option maxRecDepth 100000 in
theorem armillaryref01_Texts.calls (A0 : Option Addr) (c0 : Nat) (l0 : List Int) (A1_ : Option Addr) (c1 : Nat) (l1 : List ByteArray) (r1 : List Int) (r2 : Int) (w : World) (hr0 : Kd.C (Kd.int .u8) w A0 l0.length l0) (hc0 : l0.length ≤ c0) (hr1 : Kd.C Kd.string w A1_ l1.length l1) (hc1 : l1.length ≤ c1) (h : armillaryref01_Texts.f l0 l1 = some (r1, r2)) :
    Calls Try.prog 25 #[.slice A0 l0.length c0, .slice A1_ l1.length c1] w fun e w' => ∃ v0_ : Value, e = .returned (.tuple #[v0_, .int .i64 r2]) ∧ Kd.R (Kd.int .u8) 5 w' w.heap.size (fun _ => True) v0_ r1 ∧ Below w.heap.size w w' := by
  have HR := Aside0.mk hr0
  have HC := Aside0.mk hc0
  have HR1 := Aside0.mk hr1
  have HC1 := Aside0.mk hc1
  clear hr0 hc0 hr1 hc1
  unfold armillaryref01_Texts.f wire_Texts.f at h
  by_cases hl : l0.length + 1000000000 < 140737488355328
  · rw [if_pos hl] at h
    have HX := Aside0.mk hl
    by_cases h8 : l1.length ≤ 8000
    · rw [if_pos h8] at h
      have HQ := Aside0.mk (Option.some.inj h)
      have HL8 := Aside0.mk (enc_len8 l1.length (by omega))
      have h81 : decide (8000 < (l1.length : Int)) = false := decide_eq_false (by omega)
      have h82 : decide (8000 < l1.length) = false := decide_eq_false (by omega)
      have h83 : l1.length ≤ 9223372036854775807 := by omega
      have h84 : l1.length ≤ 9007199254740991 := by omega
      clear h hl
      go_enter Try.func25, Try.ntmps25
      go_wp2_with (first | (go_at_call 47; refine (rdigits_own l1.length _ h84).mono ?_; rintro e w1 ⟨v0, rfl, hr, hb⟩; obtain ⟨A2, c2, hv, hc2, hC2⟩ := reads_own hr; rw [hv]; have HC2 := Aside0.mk hC2; have Hc2 := Aside0.mk hc2; have HB1 := Aside0.mk hb; clear hr hb hv hC2 hc2) | (go_at_call 46; refine (joined_own _ _ l0 _ _ (WireP.enc l1.length) _ (Kd.C_below HR.out HB1.out) HC.out HC2.out Hc2.out (by have h1 := HX.out; have h2 := HL8.out; omega)).mono ?_; rintro e w2 ⟨v1, rfl, hr, hb⟩; have HO2 := Aside0.mk (Kd.R_lower hr (below_size HB1.out)); have HB2 := Aside0.mk (below_then HB1.out (below_size HB1.out) hb); clear hr hb))
      go_loopw [6, 7] (fun v6 v7 wr => ∃ (k : Nat) (acc : List Int), k ≤ l1.length ∧ v7 = .int .i64 k ∧ Aside0 (acc.length ≤ l0.length + 8 + k * 65545) ∧ Aside0 (listW let_ acc (l1.drop k) = (r1, r2)) ∧ Aside0 (Kd.R (Kd.int .u8) 5 wr w.heap.size (fun _ => True) v6 acc) ∧ Aside0 (Below w.heap.size w wr)) (fun _ v7 _ => l1.length - (intOf v7).toNat)
      case atStart => exact ⟨0, l0 ++ WireP.enc l1.length, by omega, rfl, ⟨by have := HL8.out; simp only [List.length_append]; omega⟩, ⟨by rw [List.drop_zero]; exact HQ.out⟩, HO2, HB2⟩
      case round =>
        obtain ⟨k, acc, hk, rfl, HA, HE, HO, HB⟩ := hrel
        by_cases hlt : k < l1.length
        · obtain ⟨ad, ea, hx⟩ := Kd.at_string HR1.out k (by omega) (by omega)
          cases ea
          have hx2 : wr.cell? (ad.add k) = some (.string (rdOf ByteArray.empty l1 k)) := (HB.out.cell (World.block_lt_of_cell? w _ hx)).trans hx
          have HXC : Aside0 (w.cell? (ad.add k) = some (.string (rdOf ByteArray.empty l1 k))) := ⟨hx⟩
          have hst := HE.out
          rw [drop_getD hlt ByteArray.empty] at hst
          generalize hxe : l1.getD k ByteArray.empty = x at hst
          have hrd : rdOf ByteArray.empty l1 (k : Int) = x := hxe
          rw [hrd] at hx2 HXC
          have HX1 : Aside0 (acc.length + 65600 < 140737488355328) := ⟨by
            have h1 := HA.out; have h2 := HX.out
            have h3 : k * 65545 ≤ 8000 * 65545 := Nat.mul_le_mul_right _ (by omega)
            omega⟩
          have HLn := Aside0.mk (let_len acc x)
          clear hx hrd hxe
          by_cases hs : x.size ≤ 65536
          · rw [listW, let_good acc x hs, if_neg (by simp)] at hst
            have HST := Aside0.mk hst
            have HSZ := Aside0.mk hs
            have HLG := Aside0.mk (let_good acc x hs)
            have HL := Aside0.mk (enc_len8 x.size (by omega))
            have hs1 : decide (65536 < (x.size : Int)) = false := decide_eq_false (by omega)
            have hs2 : decide (65536 < x.size) = false := decide_eq_false (by omega)
            have hs3 : x.size ≤ 9007199254740991 := by omega
            clear hst hs
            go_wp2_with (first | (go_at_call 47; refine (rdigits_own x.size _ hs3).mono ?_; rintro e w2 ⟨v0, rfl, hr, hb⟩; obtain ⟨A2, c2, hv, hc2, hC2⟩ := reads_own hr; rw [hv]; have HC2 := Aside0.mk hC2; have Hc2 := Aside0.mk hc2; have HB2 := Aside0.mk (below_then HB.out (below_size HB.out) hb); have HO2 := Aside0.mk (Kd.R_below HO.out hb); have hx3 := (HB2.out.cell (World.block_lt_of_cell? w _ HXC.out)).trans HXC.out; clear hr hb hv hC2 hc2) | ((with_reducible refine gate_builtin (b := .append) (xs := #[.tmp 28, .tmp 34]) rfl ?_); at_builtin; refine Kd.R_append_rows (Kd.int .u8) (w0 := w) w.heap.size rfl (.tmp 28) (.tmp 34) 22 5 (.int .u8 0) 1 rfl Try.underlying22 A8.info5 rfl (by decide) (by omega) u6 acc (WireP.enc x.size) _ _ _ (fun _ => True) (fun _ => False) rfl rfl ?aO ?aR (fun _ _ h => h) (fun _ h => h.elim) ?aF ?aB ?aS ?aL ?_; (case aR => exact HC2.out); (case aB => exact HB2.out); (case aF => exact (fun _ _ => trivial)); (case aO => exact HO2.out); (case aS => exact below_size HB2.out); (case aL => have h1 := HX1.out; have h2 := HL.out; omega); intro v3 w3 ho hb hg hat; have HB3 := Aside0.mk hb; have HO3 := Aside0.mk ho; have hx4 := (HB3.out.cell (World.block_lt_of_cell? w _ HXC.out)).trans HXC.out; clear ho hb hg hat) | (at_builtin; refine print_append_str (w0 := w) w.heap.size rfl (.tmp 36) (.tmp 40) 22 9 5 rfl Try.underlying22 Try.underlying9 A8.info5 v3 (acc ++ WireP.enc x.size) x rfl rfl ?aO ?aB ?aS ?aL ?_; (case aO => exact Kd.own_of_R HO3.out); (case aB => exact HB3.out); (case aS => exact below_size HB3.out); (case aL => have h1 := HX1.out; have h2 := HL.out; have h3 := HSZ.out; simp only [List.length_append]; omega); intro v4 w4 ho hb hg; have HO4 := Aside0.mk (Kd.R_of_own (h1 := fun _ => rfl) (ok := fun _ => True) ho (fun _ _ => trivial)); have HB4 := Aside0.mk hb; clear ho hb hg))
            go_roundw
            case rel => exact ⟨k + 1, acc ++ WireP.enc x.size ++ bytesOf x, by omega, by go_num, ⟨by have h1 := HLn.out; have h2 := HA.out; rw [HLG.out] at h1; simp only at h1; omega⟩, HST, HO4, HB4⟩
            case measure => simp [intOf]; omega
          · rw [listW, let_bad acc x hs, if_pos (by simp)] at hst
            simp only [Prod.mk.injEq] at hst
            obtain ⟨rfl, rfl⟩ := hst
            have hs1 : decide (65536 < (x.size : Int)) = true := decide_eq_true (by omega)
            have hs2 : decide (65536 < x.size) = true := decide_eq_true (by omega)
            clear hs
            go_wp2
            go_ret2
            exact ⟨_, rfl, Kd.R_nil _ _ _ _ _, HB.out⟩
        · obtain rfl : k = l1.length := by omega
          have h1 := HE.out
          rw [List.drop_length, listW] at h1
          simp only [Prod.mk.injEq] at h1
          obtain ⟨h2, h3⟩ := h1
          have H2 := Aside0.mk h2
          have H3 := Aside0.mk h3
          clear h2 h3
          go_wp2
          go_ret2
          rw [← H2.out, ← H3.out]
          exact ⟨_, rfl, HO.out, HB.out⟩
    · rw [if_neg h8] at h
      have h1 := Option.some.inj h
      simp only [Prod.mk.injEq] at h1
      obtain ⟨rfl, rfl⟩ := h1
      have h81 : decide (8000 < (l1.length : Int)) = true := decide_eq_true (by omega)
      have h82 : decide (8000 < l1.length) = true := decide_eq_true (by omega)
      clear h h8 hl
      go_enter Try.func25, Try.ntmps25
      go_wp2
      go_ret2
      exact ⟨_, rfl, Kd.R_nil _ _ _ _ _, Below.refl _ _⟩
  · rw [if_neg hl] at h
    cases h
end Go.Proofs.Ytcpnjlagmnlecaa.A10

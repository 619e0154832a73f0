/- wire's writers: digits, letters, Text. -/
import Derived.Test.YtcpnjlagmnlecaaProg
import Derived.Below
import Derived.Deep.Draws
import Derived.Deep.AppendLies
import Derived.Maps.AppendAt
import Derived.OwnWalk
import Derived.Laws.BytesArg
import Derived.Laws.MakeOwn
import Derived.Laws.OwnMore
import Derived.Deep.OwnRows
import Derived.Tactics
import Derived.Lib.ConvBytes
import Derived.Laws.Slices
import Derived.WalkKit
import Derived.KernelRfl
import Derived.RowKit3
import Derived.Deep.LoopGhost
import Derived.Deep.QuietTactic
import Derived.BigQuiet
import Derived.WideLaws
import Derived.Deep.DeepCutAuto
import Derived.Deep.CutBlock
import Derived.Deep.RegionHeld3
import Derived.Laws.Rows
import Derived.Lib.AppendStr
import Derived.ArgAppend
import Derived.Laws.IdiomCopy
import Derived.OrdersHeld
import Derived.Laws.BitsLemmas
import Derived.RowKit
import Derived.WalkSpells
import Derived.Laws.CopyOwn
import Derived.Test.YtcpnjlagmnlecaaWWords
import Derived.Test.YtcpnjlagmnlecaaWLast
import Derived.Test.YtcpnjlagmnlecaaWMore
import Derived.Test.YtcpnjlagmnlecaaHx1
import Derived.Test.YtcpnjlagmnlecaaA5
namespace Go.Proofs.Ytcpnjlagmnlecaa.A8
open Go.RowKit Go.Proofs.YtcpnjlagmnlecaaW.PrintWords Go.Proofs.YtcpnjlagmnlecaaW.PrintLast Go.Proofs.YtcpnjlagmnlecaaW.PrintMore Go.Proofs.Ytcpnjlagmnlecaa Go.Proofs.Ytcpnjlagmnlecaa.A2 Go.Proofs.Ytcpnjlagmnlecaa.H
set_option linter.unusedVariables false
set_option linter.unusedSimpArgs false
theorem info5 : (Try.prog.info? 5).map (fun i => (i.zero, i.size, i.bytes)) = some (some (.int .u8 0), 1, 1) := by kernel_rfl
/-- What writing a number behind bytes gives. -/
def dig (xs : List Int) (n : Int) : List Int × Int := if 0 ≤ n ∧ n ≤ 9007199254740991 then (xs ++ WireP.enc n.toNat, 0) else ([], 9)
theorem enc_len : ∀ (n j : Nat), n < 128 ^ (j + 1) → (WireP.enc n).length ≤ j + 1 := by
  intro n
  induction n using Nat.strongRecOn with
  | _ n ih =>
    intro j hj
    unfold WireP.enc
    split
    · simp
    · rename_i h
      cases j with
      | zero => simp at hj; omega
      | succ j =>
        have := ih (n / 128) (by omega) j (by rw [Nat.pow_succ] at hj; omega)
        simp only [List.length_cons]; omega
theorem enc_len8 (n : Nat) (h : n < 9007199254740992) : (WireP.enc n).length ≤ 8 := enc_len n 7 (by omega)
theorem digits_l0 : ∀ (n : Nat) (k : Nat) (xs : List Int), n ≤ 9007199254740991 → n < k → xs.length + (WireP.enc n).length < 140737488355328 →
    wire_digits.l0 k xs n = some (xs ++ WireP.enc n, 0) := by
  intro n
  induction n using Nat.strongRecOn with
  | _ n ih =>
    intro k xs hn hk hx
    obtain ⟨k, rfl⟩ : ∃ m, k = m + 1 := ⟨k - 1, by omega⟩
    unfold wire_digits.l0
    unfold WireP.enc at hx ⊢
    by_cases h : n < 128
    · rw [if_pos h] at hx
      simp only [List.length_singleton] at hx
      rw [if_neg (by omega), if_pos (by omega), if_pos h]
      rw [show ((n : Int) % 256) = n by omega]
    · rw [if_neg h] at hx
      simp only [List.length_cons] at hx
      rw [if_pos (by omega), if_pos (by omega), if_neg h]
      have e1 : wrap64 (Int.tdiv (n : Int) 128) = ((n / 128 : Nat) : Int) := by
        rw [Int.tdiv_eq_ediv_of_nonneg (by omega)]; unfold wrap64; omega
      have e2 : wrap64 (Int.tmod (n : Int) 128 + 128) % 256 = ((n % 128 + 128 : Nat) : Int) := by
        rw [Int.tmod_eq_emod_of_nonneg (by omega)]; unfold wrap64; omega
      rw [e1, e2, ih (n / 128) (by omega) k _ (by omega) (by omega) (by simp only [List.length_append, List.length_singleton]; omega), List.append_assoc]
      rfl
theorem digits_f (xs : List Int) (n : Int) (hx : xs.length + 9 < 140737488355328 - 9) : wire_digits.f (n.toNat + 2) xs n = some (dig xs n) := by
  unfold wire_digits.f dig
  by_cases h0 : n < 0
  · rw [if_pos h0, if_neg (by omega)]; simp [wire_digits.j0]
  · rw [if_neg h0]
    by_cases h1 : n > 9007199254740991
    · rw [if_neg (by omega), wire_digits.j0, if_pos (by simpa using h1)]
    · rw [if_pos ⟨by omega, by omega⟩, wire_digits.j0, if_neg (by simpa using h1)]
      obtain ⟨m, rfl⟩ := Int.eq_ofNat_of_zero_le (show 0 ≤ n by omega)
      have := enc_len8 m (by omega)
      exact digits_l0 m (m + 1) xs (by omega) (by omega) (by omega)
theorem digits_own (v : Value) (xs : List Int) (n : Int) (w0 w : World) (hB : Below w0.heap.size w0 w) (ho : Kd.R (Kd.int .u8) 5 w w0.heap.size (fun _ => True) v xs) (hx : xs.length + 9 < 140737488355328 - 9) :
    Calls Try.prog 43 #[v, .int .i64 n] w fun e w' => ∃ v1, e = .returned (.tuple #[v1, .int .i64 (dig xs n).2]) ∧ Kd.R (Kd.int .u8) 5 w' w0.heap.size (fun _ => True) v1 (dig xs n).1 ∧ Below w0.heap.size w0 w' := by
  refine (wire_digits.calls (n.toNat + 2) (fun _ => True) v xs n (dig xs n).1 (dig xs n).2 w0 w hB ho (digits_f xs n hx)).mono ?_
  rintro e w' ⟨v1, rfl, h1, h2, _⟩
  exact ⟨v1, rfl, Kd.R_mono h1 (fun _ _ => trivial), h2⟩
/-- What writing a text behind bytes gives. -/
def let_ (xs : List Int) (s : ByteArray) : List Int × Int := if s.size ≤ 65536 then (xs ++ WireP.enc s.size ++ bytesOf s, 0) else ([], 5)
set_option maxHeartbeats 4000000 in
set_option maxRecDepth 100000 in
theorem letters_own (v : Value) (xs : List Int) (s : ByteArray) (w0 w : World) (hB : Below w0.heap.size w0 w) (ho : Kd.R (Kd.int .u8) 5 w w0.heap.size (fun _ => True) v xs) (hx : xs.length + 65600 < 140737488355328) :
    Calls Try.prog 48 #[v, .string s] w fun e w' => ∃ v1, e = .returned (.tuple #[v1, .int .i64 (let_ xs s).2]) ∧ Kd.R (Kd.int .u8) 5 w' w0.heap.size (fun _ => True) v1 (let_ xs s).1 ∧ Below w0.heap.size w0 w' := by
  have HB := Aside0.mk hB
  have HO := Aside0.mk ho
  have HX := Aside0.mk hx
  clear hB ho hx
  by_cases hs : s.size ≤ 65536
  · have HN : Aside0 (let_ xs s = (xs ++ WireP.enc s.size ++ bytesOf s, 0)) := ⟨if_pos hs⟩
    have HD : Aside0 (dig xs (s.size : Int) = (xs ++ WireP.enc s.size, 0)) := ⟨by unfold dig; rw [if_pos ⟨by omega, by omega⟩, Int.toNat_natCast]⟩
    have HL : Aside0 ((WireP.enc s.size).length ≤ 8) := ⟨enc_len8 _ (by omega)⟩
    have HX2 : Aside0 (xs.length + 9 < 140737488355328 - 9) := ⟨by have := HX.out; omega⟩
    have hs1 : decide (65536 < (s.size : Int)) = false := decide_eq_false (by omega)
    have hs2 : decide (65536 < s.size) = false := decide_eq_false (by omega)
    have HS := Aside0.mk hs
    clear hs
    go_enter Try.func48, Try.ntmps48
    go_wp2_with (first | (go_at_call 43; refine (digits_own _ xs _ w0 _ HB.out HO.out HX2.out).mono ?_; rw [HD.out]; rintro e w1 ⟨v1, rfl, hr, hb⟩; have HO1 := Aside0.mk hr; have HB1 := Aside0.mk hb; clear hr hb) | (at_builtin; refine print_append_str (w0 := w0) w0.heap.size rfl (.tmp 17) (.tmp 18) 22 9 5 rfl Try.underlying22 Try.underlying9 info5 v1 (xs ++ WireP.enc s.size) s rfl rfl ?aO ?aB ?aS ?aL ?_; (case aO => exact Kd.own_of_R HO1.out); (case aB => exact HB1.out); (case aS => exact below_size HB1.out); (case aL => have h1 := HX.out; have h2 := HL.out; have h3 := HS.out; simp only [List.length_append]; omega); intro v2 w2 ho hb hg; have HO2 := Aside0.mk (Kd.R_of_own (h1 := fun _ => rfl) (ok := fun _ => True) ho (fun _ _ => trivial)); have HB2 := Aside0.mk hb; clear ho hb hg))
    go_ret2
    rw [HN.out]
    exact ⟨_, rfl, HO2.out, HB2.out⟩
  · have HN : Aside0 (let_ xs s = ([], 5)) := ⟨if_neg hs⟩
    have hs1 : decide (65536 < (s.size : Int)) = true := decide_eq_true (by omega)
    have hs2 : decide (65536 < s.size) = true := decide_eq_true (by omega)
    clear hs
    go_enter Try.func48, Try.ntmps48
    go_wp2
    go_ret2
    rw [HN.out]
    exact ⟨_, rfl, Kd.R_nil _ _ _ _ _, HB.out⟩
end Go.Proofs.Ytcpnjlagmnlecaa.A8

/- What WireWrites calls: the document's writers as the program's, and 'wrote'. -/
import Derived.Test.YtcpnjlagmnlecaaProg
import Derived.Below
import Derived.Deep.Draws
import Derived.Deep.AppendLies
import Derived.Maps.AppendAt
import Derived.OwnWalk
import Derived.Laws.BytesArg
import Derived.Laws.MakeOwn
import Derived.Laws.OwnMore
import Derived.Deep.OwnRows
import Derived.Tactics
import Derived.Lib.ConvBytes
import Derived.Laws.Slices
import Derived.WalkKit
import Derived.KernelRfl
import Derived.RowKit3
import Derived.Deep.LoopGhost
import Derived.Deep.QuietTactic
import Derived.BigQuiet
import Derived.WideLaws
import Derived.Deep.DeepCutAuto
import Derived.Deep.CutBlock
import Derived.Deep.RegionHeld3
import Derived.Laws.Rows
import Derived.Lib.AppendStr
import Derived.ArgAppend
import Derived.Laws.IdiomCopy
import Derived.OrdersHeld
import Derived.Laws.BitsLemmas
import Derived.RowKit
import Derived.WalkSpells
import Derived.Laws.CopyOwn
import Derived.Test.YtcpnjlagmnlecaaWWords
import Derived.Test.YtcpnjlagmnlecaaWLast
import Derived.Test.YtcpnjlagmnlecaaWMore
import Derived.Test.YtcpnjlagmnlecaaHx3
import Derived.Test.YtcpnjlagmnlecaaA9
import Derived.Test.YtcpnjlagmnlecaaA10
import Derived.Test.YtcpnjlagmnlecaaB1
import Derived.Test.YtcpnjlagmnlecaaWKept
namespace Go.Proofs.Ytcpnjlagmnlecaa.B5
open Go.RowKit Go.Proofs.YtcpnjlagmnlecaaW.PrintWords Go.Proofs.YtcpnjlagmnlecaaW.PrintLast Go.Proofs.YtcpnjlagmnlecaaW.PrintMore Go.Proofs.Ytcpnjlagmnlecaa Go.Proofs.Ytcpnjlagmnlecaa.A2 Go.Proofs.Ytcpnjlagmnlecaa.A3 Go.Proofs.Ytcpnjlagmnlecaa.A8 Go.Proofs.Ytcpnjlagmnlecaa.A9 Go.Proofs.Ytcpnjlagmnlecaa.A10 Go.Proofs.Ytcpnjlagmnlecaa.H
set_option linter.unusedVariables false
set_option linter.unusedSimpArgs false
theorem is_f (a : Int) : armillaryref01_is.f a = some (decide (0 ≤ a ∧ a ≤ 9007199254740991)) := by
  unfold armillaryref01_is.f
  by_cases h : a ≥ 0
  · rw [if_pos h]; congr 1; by_cases h2 : a ≤ 9007199254740991 <;> simp [h2, h]
  · rw [if_neg h]; congr 1; symm; simp; omega
theorem digits_any (k : Nat) (a : Int) (h0 : 0 ≤ a) (h1 : a ≤ 9007199254740991) (hk : 9007199254740991 < k) : armillaryref01_digits.f k a = some (WireP.enc a.toNat) := by
  obtain ⟨n, rfl⟩ := Int.eq_ofNat_of_zero_le h0
  have := enc_len8 n (by omega)
  have h := rdigits_l0 n k [] (by omega) (by omega) (by simp only [List.length_nil]; omega)
  rw [List.nil_append] at h
  exact h
theorem rnum_f (l0 : List Int) (a : Int) (h : l0.length + 9 < 140737488355328 - 9) : armillaryref01_Num.f 9007199254740992 l0 a = some (dig l0 a) := by
  unfold armillaryref01_Num.f dig
  rw [is_f, Option.bind_some]
  by_cases hd : 0 ≤ a ∧ a ≤ 9007199254740991
  · rw [if_pos (decide_eq_true hd), digits_any _ a hd.1 hd.2 (by omega), Option.bind_some, joined_f _ _ (by have := enc_len8 a.toNat (by omega); omega), Option.bind_some, if_pos hd]
  · rw [if_neg (by simpa using hd), if_neg hd]
theorem rnum_own (A0 : Option Addr) (c0 : Nat) (l0 : List Int) (a1 : Int) (w : World) (hr0 : Kd.C (Kd.int .u8) w A0 l0.length l0) (hc0 : l0.length ≤ c0) (h : l0.length + 9 < 140737488355328 - 9) :
    Calls Try.prog 18 #[.slice A0 l0.length c0, .int .i64 a1] w fun e w' => ∃ v0_ : Value, e = .returned (.tuple #[v0_, .int .i64 (dig l0 a1).2]) ∧ Kd.R (Kd.int .u8) 5 w' w.heap.size (fun _ => True) v0_ (dig l0 a1).1 ∧ Below w.heap.size w w' :=
  armillaryref01_Num.calls 9007199254740992 A0 c0 l0 a1 _ _ w hr0 hc0 (rnum_f l0 a1 h)
theorem nums_l0 (l1 : List Int) (hl : l1.length ≤ 8000) : ∀ (d i k : Nat) (acc : List Int), i + d = l1.length → 9007199254740991 + 1 + d < k → acc.length + d * 9 + 9 < 140737488355328 - 9 →
    armillaryref01_Nums.l0 k l1 acc i = some (listW dig acc (l1.drop i)) := by
  intro d
  induction d with
  | zero =>
    intro i k acc hi hk ha
    obtain ⟨k, rfl⟩ : ∃ j, k = j + 1 := ⟨k - 1, by omega⟩
    rw [armillaryref01_Nums.l0, if_neg (by omega), List.drop_eq_nil_of_le (by omega)]
    rfl
  | succ d ih =>
    intro i k acc hi hk ha
    obtain ⟨k, rfl⟩ : ∃ j, k = j + 1 := ⟨k - 1, by omega⟩
    have hx : rd l1 (i : Int) = l1.getD i 0 := rfl
    rw [armillaryref01_Nums.l0, if_pos (by omega), if_pos (by omega), is_f, Option.bind_some, hx, drop_getD (show i < l1.length by omega) 0, listW]
    generalize l1.getD i 0 = x
    by_cases hd : 0 ≤ x ∧ x ≤ 9007199254740991
    · have he := enc_len8 x.toNat (by omega)
      rw [if_pos (decide_eq_true hd), digits_any _ x hd.1 hd.2 (by omega), Option.bind_some, if_pos (by omega), show wrap64 ((i : Int) + 1) = ((i + 1 : Nat) : Int) by unfold wrap64; omega]
      have e : dig acc x = (acc ++ WireP.enc x.toNat, 0) := if_pos hd
      rw [e, if_neg (by simp)]
      exact ih (i + 1) k _ (by omega) (by omega) (by rw [List.length_append]; omega)
    · have e : dig acc x = ([], 9) := if_neg hd
      rw [if_neg (by simpa using hd), e, if_pos (by decide)]
theorem rnums_f (l0 l1 : List Int) (r : List Int × Int) (h : wire_Nums.f l0 l1 = some r) : armillaryref01_Nums.f 9007199254749999 l0 l1 = some r := by
  unfold wire_Nums.f at h
  unfold armillaryref01_Nums.f
  by_cases hx : l0.length + 1000000000 < 140737488355328
  · rw [if_pos hx] at h
    by_cases hl : l1.length ≤ 8000
    · rw [if_pos hl] at h
      have he := enc_len8 l1.length (by omega)
      rw [if_neg (by omega), digits_any _ _ (by omega) (by omega) (by omega), Option.bind_some, Int.toNat_natCast, joined_f _ _ (by omega), Option.bind_some]
      rw [← h]
      have := nums_l0 l1 hl l1.length 0 9007199254749999 (l0 ++ WireP.enc l1.length) (by omega) (by omega) (by rw [List.length_append]; omega)
      rw [List.drop_zero] at this
      exact this
    · rw [if_neg hl] at h
      rw [if_pos (by omega), ← h]
  · rw [if_neg hx] at h; exact absurd h (by simp)
theorem rnums_own (A0 : Option Addr) (c0 : Nat) (l0 : List Int) (A1 : Option Addr) (c1 : Nat) (l1 : List Int) (r1 : List Int) (r2 : Int) (w : World) (hr0 : Kd.C (Kd.int .u8) w A0 l0.length l0) (hc0 : l0.length ≤ c0) (hr1 : Kd.C (Kd.int .i64) w A1 l1.length l1) (hc1 : l1.length ≤ c1) (h : wire_Nums.f l0 l1 = some (r1, r2)) :
    Calls Try.prog 23 #[.slice A0 l0.length c0, .slice A1 l1.length c1] w fun e w' => ∃ v0_ : Value, e = .returned (.tuple #[v0_, .int .i64 r2]) ∧ Kd.R (Kd.int .u8) 5 w' w.heap.size (fun _ => True) v0_ r1 ∧ Below w.heap.size w w' :=
  armillaryref01_Nums.calls 9007199254749999 A0 c0 l0 A1 c1 l1 r1 r2 w hr0 hc0 hr1 hc1 (rnums_f l0 l1 _ h)
/-- An error leaves nothing written. -/
def Sane (r : List Int × Int) : Prop := r.2 = 0 ∨ r.1 = []
theorem dig_sane (xs : List Int) (n : Int) : Sane (dig xs n) := by
  unfold dig; split
  · exact .inl rfl
  · exact .inr rfl
theorem let_sane (xs : List Int) (s : ByteArray) : Sane (let_ xs s) := by
  unfold let_; split
  · exact .inl rfl
  · exact .inr rfl
theorem listW_sane {α : Type} (one : List Int → α → List Int × Int) : ∀ (l : List α) (acc : List Int), Sane (listW one acc l)
  | [], acc => .inl rfl
  | x :: l, acc => by
    rw [listW]
    split
    · exact .inr rfl
    · exact listW_sane one l _
theorem nums_sane {l0 l1 : List Int} {r : List Int × Int} (h : wire_Nums.f l0 l1 = some r) : Sane r := by
  unfold wire_Nums.f at h
  split at h
  · split at h
    · rw [← Option.some.inj h]; exact listW_sane _ _ _
    · rw [← Option.some.inj h]; exact .inr rfl
  · exact absurd h (by simp)
theorem texts_sane {l0 : List Int} {l1 : List ByteArray} {r : List Int × Int} (h : wire_Texts.f l0 l1 = some r) : Sane r := by
  unfold wire_Texts.f at h
  split at h
  · split at h
    · rw [← Option.some.inj h]; exact listW_sane _ _ _
    · rw [← Option.some.inj h]; exact .inr rfl
  · exact absurd h (by simp)
theorem wrote_l0 (b : Bool) : ∀ (d i : Nat) (x : List Int), i + d = x.length → x.length ≤ 9223372036854775807 → ∃ y, armillarylaw01_wrote.l0 (d + 1) x b i = some (b, y) := by
  intro d
  induction d with
  | zero => intro i x hi _; exact ⟨x, by rw [armillarylaw01_wrote.l0, if_neg (by omega)]⟩
  | succ d ih =>
    intro i x hi hx
    rw [armillarylaw01_wrote.l0, if_pos (by omega), if_pos (by omega), show wrap64 ((i : Int) + 1) = ((i + 1 : Nat) : Int) by unfold wrap64; omega]
    exact ih (i + 1) _ (by rw [List.length_set]; omega) (by rw [List.length_set]; omega)
theorem wrote_f (l : List Int) (e : Int) (hl : l.length ≤ 9223372036854775807) (hs : Sane (l, e)) : ∃ y, armillarylaw01_wrote.f (l.length + 2) l e l e = some (true, y) := by
  unfold armillarylaw01_wrote.f armillaryref00_EqBytes.f
  rw [Option.bind_some, if_pos (by simp), if_pos rfl]
  obtain ⟨y, hy⟩ := wrote_l0 true l.length 0 l (by omega) hl
  by_cases he : e = 0
  · rw [if_pos he]
    exact ⟨y, hy⟩
  · rw [if_neg he]
    rcases hs with h | h
    · exact absurd h he
    · have h : l = [] := h
      subst h
      exact ⟨y, hy⟩
theorem R_at3 {α : Type} {d : Kd α} {w : World} {base : Nat} {l : List α} {A : Option Addr} {n c : Nat} {e : Nat} {ok : Nat → Prop} (h : Kd.R d e w base ok (.slice A n c) l) : ∀ ad, A = some ad → base ≤ ad.block ∧ ad.block < w.heap.size := by
  obtain ⟨inner, hi⟩ := Kd.R_own h
  rintro ad rfl
  exact ⟨own_base hi ad.block (by simp [Value.ownBlock]), own_lt hi ad.block (by simp [Value.ownBlock])⟩
set_option maxHeartbeats 4000000 in
/-- Both writers wrote the same: 'wrote' says so, and turns the first one's row alone. -/
theorem wrote_yes (w0 w1 w : World) (p q : Value) (l : List Int) (e : Int) (hs : Sane (l, e)) (hp : Kd.R (Kd.int .u8) 5 w1 w0.heap.size (fun _ => True) p l) (hb0 : Below w0.heap.size w0 w1) (hq : Kd.R (Kd.int .u8) 5 w w1.heap.size (fun _ => True) q l) (hb1 : Below w1.heap.size w1 w) :
    Calls Try.prog 19 #[p, .int .i64 e, q, .int .i64 e] w fun en w' => en = .returned (.bool true) ∧ Below w0.heap.size w0 w' := by
  obtain ⟨Aq, cq, rfl⟩ := Kd.R_slice hq
  have hC := (Kd.R_reads' hq).2.2
  have hc := (Kd.R_reads' hq).2.1
  obtain ⟨y, hy⟩ := wrote_f l e hC.2.1 hs
  have hp' := Kd.R_keptB hp (Kept.of_below hb1 (fun _ => False)) (fun _ _ h => h)
  refine (armillarylaw01_wrote.calls _ _ p l e Aq cq l e true y w0 w (hb0.trans (hb1.mono hb0.size)) hp' (fun W_ hk => C_block hC (fun ad ea => hk.2 _ (R_at3 hq ad ea).2 (by rintro ⟨_, _, h⟩; have := (R_at3 hq ad ea).1; omega))) hc hy).mono ?_
  rintro en w' ⟨rfl, _, hb, _⟩
  exact ⟨rfl, hb⟩
end Go.Proofs.Ytcpnjlagmnlecaa.B5

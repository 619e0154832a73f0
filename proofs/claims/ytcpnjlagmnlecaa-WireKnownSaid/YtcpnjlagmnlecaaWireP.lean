/- Numbers, texts and lists as bytes: how they are written and read. -/
namespace Go.Proofs.Ytcpnjlagmnlecaa.WireP

/-- A number's bytes. -/
def enc (n : Nat) : List Int := if n < 128 then [(n : Int)] else ((n % 128 + 128 : Nat) : Int) :: enc (n / 128)
termination_by n
decreasing_by omega
/-- What a reader reads: from the i-th byte of a number on; what was read, the bytes that are left, the error. -/
def rdn (i : Nat) (u n : Int) : List Int → Int × List Int × Int
  | [] => (0, [], 3)
  | c :: b => if (i = 7 ∧ 16 ≤ c) ∨ (0 < i ∧ c = 0) then (0, b, 4) else if c < 128 then (n + c % 128 * u, b, 0) else rdn (i + 1) (u * 128) (n + c % 128 * u) b
/-- A number, of a state (bytes, error). -/
def num (s : List Int × Int) : Int × List Int × Int := if s.2 = 0 then rdn 0 1 0 s.1 else (0, s)
def many (most : Int) (s : List Int × Int) : Int × List Int × Int :=
  let r := num s
  if most < r.1 then (0, r.2.1, 5) else r
def text (s : List Int × Int) : List Int × List Int × Int :=
  let r := many 65536 s
  if r.2.2 ≠ 0 then ([], r.2) else if (r.2.1.length : Int) < r.1 then ([], r.2.1, 3) else (r.2.1.take r.1.toNat, r.2.1.drop r.1.toNat, 0)
/-- Elements, one behind the other, up to the first error. -/
def elems {α : Type} (one : List Int × Int → α × List Int × Int) : Nat → List Int × Int → List α → List α × List Int × Int
  | 0, s, out => (out, s)
  | k + 1, s, out => let r := one s; if r.2.2 ≠ 0 then ([], r.2) else elems one k r.2 (out ++ [r.1])
def list {α : Type} (one : List Int × Int → α × List Int × Int) (s : List Int × Int) : List α × List Int × Int :=
  let r := many 8000 s
  elems one r.1.toNat r.2 []

theorem rdn_snd (i : Nat) (u n : Int) (b : List Int) : (rdn i u n b).2.2 ≠ 0 → (rdn i u n b).1 = 0 := by
  induction b generalizing i u n with
  | nil => intro _; rfl
  | cons c b ih =>
    unfold rdn
    split
    · intro _; rfl
    · split
      · intro h; exact absurd rfl h
      · exact ih _ _ _
theorem num_fail (s : List Int × Int) (h : (num s).2.2 ≠ 0) : (num s).1 = 0 := by
  unfold num at *
  split
  · rename_i h0; rw [if_pos h0] at h; exact rdn_snd _ _ _ _ h
  · rfl
theorem num_stuck {s : List Int × Int} (h : s.2 ≠ 0) : num s = (0, s) := by unfold num; rw [if_neg h]
theorem enc_ne (n : Nat) : enc n ≠ [] := by
  unfold enc; split <;> simp
/-- What is written is read. -/
theorem rdn_enc : ∀ (n i : Nat) (u a : Int) (rest : List Int), n * 128 ^ i < 9007199254740992 → (0 < i → 0 < n) → i ≤ 7 → rdn i u a (enc n ++ rest) = (a + n * u, rest, 0) := by
  intro n
  induction n using Nat.strongRecOn with
  | _ n ih =>
    intro i u a rest hn h0 hi
    unfold enc
    by_cases h : n < 128
    · rw [if_pos h]
      show rdn i u a ((n : Int) :: rest) = _
      unfold rdn
      have hc : ¬ ((i = 7 ∧ (16 : Int) ≤ n) ∨ (0 < i ∧ (n : Int) = 0)) := by
        rintro (⟨rfl, h1⟩ | ⟨h1, h2⟩)
        · have : n * 128 ^ 7 < 16 * 128 ^ 7 := by omega
          omega
        · have := h0 h1; omega
      rw [if_neg hc, if_pos (by omega), Int.emod_eq_of_lt (by omega) (by omega)]
    · rw [if_neg h]
      show rdn i u a (((n % 128 + 128 : Nat) : Int) :: (enc (n / 128) ++ rest)) = _
      unfold rdn
      have hi7 : i ≠ 7 := by
        rintro rfl
        omega
      rw [if_neg (by omega), if_neg (by omega)]
      rw [ih (n / 128) (by omega) (i + 1) (u * 128) _ rest ?_ (by intro _; omega) (by omega)]
      · have e : (n : Int) = 128 * ((n / 128 : Nat) : Int) + ((n % 128 : Nat) : Int) := by omega
        have e2 : ((n % 128 + 128 : Nat) : Int) % 128 = ((n % 128 : Nat) : Int) := by omega
        rw [e2]
        congr 1
        conv => rhs; rw [e]
        rw [Int.add_mul, Int.mul_comm u 128, Int.mul_comm 128 ((n / 128 : Nat) : Int), Int.mul_assoc]
        omega
      · rw [Nat.pow_succ, Nat.mul_comm (128 ^ i) 128, ← Nat.mul_assoc]
        have : n / 128 * 128 ≤ n := Nat.div_mul_le_self n 128
        exact Nat.lt_of_le_of_lt (Nat.mul_le_mul_right _ this) hn
theorem num_enc (n : Nat) (hn : n < 9007199254740992) (rest : List Int) : num (enc n ++ rest, 0) = ((n : Int), rest, 0) := by
  unfold num
  rw [if_pos rfl, rdn_enc n 0 1 0 rest (by simpa using hn) (by omega) (by omega)]
  simp
/-- Cut within, it can't be read. -/
theorem rdn_cut : ∀ (n i : Nat) (u a : Int) (k : Nat), n * 128 ^ i < 9007199254740992 → (0 < i → 0 < n) → i ≤ 7 → k < (enc n).length → rdn i u a ((enc n).take k) = (0, [], 3) := by
  intro n
  induction n using Nat.strongRecOn with
  | _ n ih =>
    intro i u a k hn h0 hi hk
    cases k with
    | zero => simp [rdn]
    | succ k =>
      by_cases h : n < 128
      · unfold enc at hk; rw [if_pos h] at hk; simp at hk
      · unfold enc
        rw [if_neg h]
        unfold enc at hk
        rw [if_neg h] at hk
        have hi7 : i ≠ 7 := by
          rintro rfl
          omega
        show rdn i u a (((n % 128 + 128 : Nat) : Int) :: (enc (n / 128)).take k) = _
        unfold rdn
        rw [if_neg (by omega), if_neg (by omega)]
        refine ih (n / 128) (by omega) (i + 1) _ _ k ?_ (by intro _; omega) (by omega) (by simpa using hk)
        rw [Nat.pow_succ, Nat.mul_comm (128 ^ i) 128, ← Nat.mul_assoc]
        have : n / 128 * 128 ≤ n := Nat.div_mul_le_self n 128
        exact Nat.lt_of_le_of_lt (Nat.mul_le_mul_right _ this) hn
end Go.Proofs.Ytcpnjlagmnlecaa.WireP

/- The checksum's plain law: linear steps, a table of a byte's eight steps, bursts. -/
namespace Go.Proofs.Ytcpnjlagmnlecaa.Crc

def stp (r : Nat) : Nat := if r % 2 = 1 then (r / 2) ^^^ 3988292384 else r / 2
def stpN : Nat → Nat → Nat
  | 0, r => r
  | n + 1, r => stpN n (stp r)
def feed (r c : Nat) : Nat := stpN 8 (r ^^^ c)
def reg (r : Nat) (l : List Nat) : Nat := l.foldl feed r
def crc (l : List Nat) : Nat := reg 4294967295 l ^^^ 4294967295

theorem xor_div2 (a b : Nat) : (a ^^^ b) / 2 = a / 2 ^^^ b / 2 := by
  apply Nat.eq_of_testBit_eq; intro i
  rw [Nat.testBit_xor, Nat.testBit_div_two, Nat.testBit_div_two, Nat.testBit_div_two, Nat.testBit_xor]
theorem xor_swap (a b c d : Nat) : (a ^^^ b) ^^^ (c ^^^ d) = (a ^^^ c) ^^^ (b ^^^ d) := by
  apply Nat.eq_of_testBit_eq; intro i
  simp only [Nat.testBit_xor]
  cases a.testBit i <;> cases b.testBit i <;> cases c.testBit i <;> cases d.testBit i <;> rfl
theorem stp_xor (a b : Nat) : stp (a ^^^ b) = stp a ^^^ stp b := by
  unfold stp
  have hm : (a ^^^ b) % 2 = (a + b) % 2 := by
    rw [show (2 : Nat) = 2 ^ 1 by rfl, Nat.xor_mod_two_pow, Nat.add_mod]
    rcases Nat.mod_two_eq_zero_or_one a with ha | ha <;> rcases Nat.mod_two_eq_zero_or_one b with hb | hb <;> (simp only [Nat.pow_one, ha, hb]; rfl)
  rw [hm, xor_div2]
  rcases Nat.mod_two_eq_zero_or_one a with ha | ha <;> rcases Nat.mod_two_eq_zero_or_one b with hb | hb
  · rw [if_neg (by omega), if_neg (by omega), if_neg (by omega)]
  · rw [if_pos (by omega), if_neg (by omega), if_pos (by omega), Nat.xor_assoc]
  · rw [if_pos (by omega), if_pos (by omega), if_neg (by omega)]
    apply Nat.eq_of_testBit_eq; intro i; simp only [Nat.testBit_xor]
    cases (a / 2).testBit i <;> cases (b / 2).testBit i <;> cases Nat.testBit 3988292384 i <;> rfl
  · rw [if_neg (by omega), if_pos (by omega), if_pos (by omega), xor_swap, Nat.xor_self, Nat.xor_zero]
theorem stp_zero : stp 0 = 0 := by decide
theorem stp_lt {r : Nat} (h : r < 4294967296) : stp r < 4294967296 := by
  unfold stp
  split
  · exact Nat.xor_lt_two_pow (n := 32) (by omega) (by decide)
  · omega
theorem stp_eq_zero {r : Nat} (h : r < 4294967296) (h0 : stp r = 0) : r = 0 := by
  unfold stp at h0
  split at h0
  · have : r / 2 = 3988292384 := by
      have h1 : (r / 2 ^^^ 3988292384) ^^^ 3988292384 = 0 ^^^ 3988292384 := by rw [h0]
      rw [Nat.xor_assoc, Nat.xor_self, Nat.xor_zero, Nat.zero_xor] at h1
      exact h1
    omega
  · omega
theorem stpN_xor : ∀ (n a b : Nat), stpN n (a ^^^ b) = stpN n a ^^^ stpN n b
  | 0, _, _ => rfl
  | n + 1, a, b => by unfold stpN; rw [stp_xor, stpN_xor n]
theorem stpN_zero : ∀ n, stpN n 0 = 0
  | 0 => rfl
  | n + 1 => by unfold stpN; rw [stp_zero, stpN_zero n]
theorem stpN_lt : ∀ (n : Nat) {r : Nat}, r < 4294967296 → stpN n r < 4294967296
  | 0, _, h => h
  | n + 1, _, h => stpN_lt n (stp_lt h)
theorem stpN_eq_zero : ∀ (n : Nat) {r : Nat}, r < 4294967296 → stpN n r = 0 → r = 0
  | 0, _, _, h0 => h0
  | n + 1, _, h, h0 => stp_eq_zero h (stpN_eq_zero n (stp_lt h) h0)
theorem stpN_add : ∀ (n m r : Nat), stpN (n + m) r = stpN m (stpN n r)
  | 0, m, r => by rw [Nat.zero_add]; rfl
  | n + 1, m, r => by rw [Nat.succ_add]; exact stpN_add n m (stp r)
theorem stp_even (x : Nat) : stp (2 * x) = x := by
  unfold stp
  rw [if_neg (by omega)]; omega
theorem stpN_pow : ∀ (n x : Nat), stpN n (2 ^ n * x) = x
  | 0, x => by show 2 ^ 0 * x = x; omega
  | n + 1, x => by
    unfold stpN
    rw [show 2 ^ (n + 1) * x = 2 * (2 ^ n * x) by rw [Nat.pow_succ, Nat.mul_comm (2 ^ n) 2, Nat.mul_assoc], stp_even, stpN_pow n]
theorem stpN_high (x : Nat) : stpN 8 (256 * x) = x := stpN_pow 8 x
theorem split256 (x : Nat) : x = (256 * (x / 256)) ^^^ (x % 256) := by
  have h := Nat.two_pow_add_eq_or_of_lt (i := 8) (b := x % 256) (Nat.mod_lt _ (by decide)) (x / 256)
  have e : x = 2 ^ 8 * (x / 256) + x % 256 := by omega
  apply Nat.eq_of_testBit_eq; intro i
  rw [Nat.testBit_xor]
  have h1 : (256 * (x / 256)).testBit i = (decide (8 ≤ i) && x.testBit i) := by
    rw [show 256 * (x / 256) = 2 ^ 8 * (x / 2 ^ 8) by omega, Nat.testBit_two_pow_mul, Nat.testBit_div_two_pow]
    by_cases hi : 8 ≤ i
    · rw [Nat.sub_add_cancel hi]
    · simp [hi]
  have h2 : (x % 256).testBit i = (decide (i < 8) && x.testBit i) := Nat.testBit_mod_two_pow x 8 i
  rw [h1, h2]
  by_cases hi : i < 8
  · simp [hi, show ¬ 8 ≤ i by omega]
  · simp [hi, show 8 ≤ i by omega]
theorem xor_div256 (a b : Nat) : (a ^^^ b) / 256 = a / 256 ^^^ b / 256 := by
  apply Nat.eq_of_testBit_eq; intro i
  rw [show (256 : Nat) = 2 ^ 8 by rfl, Nat.testBit_xor, Nat.testBit_div_two_pow, Nat.testBit_div_two_pow, Nat.testBit_div_two_pow, Nat.testBit_xor]
/-- What the table does for eight steps. -/
theorem feed_table {r c : Nat} (hc : c < 256) : feed r c = (r / 256) ^^^ stpN 8 ((r ^^^ c) % 256) := by
  unfold feed
  have h := congrArg (stpN 8) (split256 (r ^^^ c))
  refine h.trans ?_
  rw [stpN_xor 8 (256 * _), stpN_high, xor_div256, show c / 256 = 0 by omega, Nat.xor_zero]
theorem feed_lt {r c : Nat} (hr : r < 4294967296) (hc : c < 256) : feed r c < 4294967296 :=
  stpN_lt 8 (Nat.xor_lt_two_pow (n := 32) hr (by omega))
theorem feed_xor (r s c d : Nat) : feed (r ^^^ s) (c ^^^ d) = feed r c ^^^ feed s d := by
  unfold feed; rw [xor_swap, stpN_xor]
theorem reg_lt : ∀ (l : List Nat) {r : Nat}, r < 4294967296 → (∀ c ∈ l, c < 256) → reg r l < 4294967296
  | [], _, h, _ => h
  | c :: l, _, h, hl => reg_lt l (feed_lt h (hl c List.mem_cons_self)) (fun d hd => hl d (List.mem_cons_of_mem _ hd))
theorem crc_lt (l : List Nat) (hl : ∀ c ∈ l, c < 256) : crc l < 4294967296 :=
  Nat.xor_lt_two_pow (n := 32) (reg_lt l (by decide) hl) (by decide)

/-! Bursts: bytes as one number, the lowest byte first. -/
def val : List Nat → Nat
  | [] => 0
  | c :: l => c ^^^ (256 * val l)
theorem reg_val : ∀ (l : List Nat) (r : Nat), reg r l = stpN (8 * l.length) (r ^^^ val l)
  | [], r => by show r = stpN 0 (r ^^^ 0); rw [Nat.xor_zero]; rfl
  | c :: l, r => by
    show reg (feed r c) l = _
    rw [reg_val l, List.length_cons, show 8 * (l.length + 1) = 8 + 8 * l.length by omega, stpN_add, val, ← Nat.xor_assoc, stpN_xor 8 (r ^^^ c), stpN_high]
    rfl
theorem xor_left_cancel {a b c : Nat} (h : a ^^^ b = a ^^^ c) : b = c := by
  have h1 := congrArg (a ^^^ ·) h
  simp only [← Nat.xor_assoc, Nat.xor_self, Nat.zero_xor] at h1
  exact h1
theorem xor_right_cancel {a b c : Nat} (h : b ^^^ a = c ^^^ a) : b = c := by
  rw [Nat.xor_comm b, Nat.xor_comm c] at h; exact xor_left_cancel h
/-- Bits within 32 in a row, from bit f on, are told by the sum. -/
theorem crc_burst {l m : List Nat} {f W : Nat} (hlen : m.length = l.length) (hv : val m = val l ^^^ (2 ^ f * W)) (hf : f ≤ 8 * l.length) (hW : W < 4294967296) :
    crc m = crc l ↔ W = 0 := by
  unfold crc
  rw [reg_val, reg_val, hlen, hv, ← Nat.xor_assoc, stpN_xor _ (4294967295 ^^^ val l)]
  have hs : stpN (8 * l.length) (2 ^ f * W) = stpN (8 * l.length - f) W := by
    have := stpN_add f (8 * l.length - f) (2 ^ f * W)
    rw [Nat.add_sub_cancel' hf, stpN_pow] at this
    exact this
  rw [hs]
  constructor
  · intro h
    have h1 := xor_right_cancel h
    have h2 : stpN (8 * l.length) (4294967295 ^^^ val l) ^^^ stpN (8 * l.length - f) W = stpN (8 * l.length) (4294967295 ^^^ val l) ^^^ 0 := by rw [h1, Nat.xor_zero]
    exact stpN_eq_zero _ hW (xor_left_cancel h2)
  · intro h
    rw [h, stpN_zero, Nat.xor_zero]
theorem mul256_xor (a b : Nat) : 256 * (a ^^^ b) = (256 * a) ^^^ (256 * b) := by
  apply Nat.eq_of_testBit_eq; intro i
  rw [show (256 : Nat) = 2 ^ 8 by rfl, Nat.testBit_xor, Nat.testBit_two_pow_mul, Nat.testBit_two_pow_mul, Nat.testBit_two_pow_mul, Nat.testBit_xor]
  cases decide (i ≥ 8) <;> simp
/-- One bit turned in one byte. -/
theorem val_set : ∀ (l : List Nat) (j m : Nat), j < l.length → val (l.set j ((l.getD j 0) ^^^ 2 ^ m)) = val l ^^^ 2 ^ (8 * j + m)
  | [], j, m, h => by simp at h
  | c :: l, 0, m, _ => by
    show (c ^^^ 2 ^ m) ^^^ (256 * val l) = (c ^^^ 256 * val l) ^^^ 2 ^ (8 * 0 + m)
    rw [Nat.mul_zero, Nat.zero_add, Nat.xor_assoc, Nat.xor_assoc, Nat.xor_comm (2 ^ m)]
  | c :: l, j + 1, m, h => by
    show c ^^^ (256 * val (l.set j ((l.getD j 0) ^^^ 2 ^ m))) = (c ^^^ 256 * val l) ^^^ 2 ^ (8 * (j + 1) + m)
    rw [val_set l j m (by simpa using h), mul256_xor, ← Nat.xor_assoc]
    congr 1
    rw [show 8 * (j + 1) + m = 8 + (8 * j + m) by omega, Nat.pow_add 2 8]
/-- The next bit of a window. -/
theorem win_succ (b i : Nat) : b % 2 ^ (i + 1) = (b % 2 ^ i) ^^^ (if b / 2 ^ i % 2 = 1 then 2 ^ i else 0) := by
  apply Nat.eq_of_testBit_eq; intro k
  rw [Nat.testBit_mod_two_pow, Nat.testBit_xor, Nat.testBit_mod_two_pow]
  have hb : b.testBit i = decide (b / 2 ^ i % 2 = 1) := by
    rw [Nat.testBit_eq_decide_div_mod_eq]
  by_cases hk : k = i
  · subst hk
    by_cases h1 : b / 2 ^ k % 2 = 1
    · simp [h1, hb]
    · simp [h1, hb]
  · have e : (if b / 2 ^ i % 2 = 1 then 2 ^ i else 0).testBit k = false := by
      split
      · rw [Nat.testBit_two_pow]; simp; omega
      · simp
    rw [e]
    by_cases h2 : k < i
    · simp [h2, show k < i + 1 by omega]
    · simp [h2, show ¬ k < i + 1 by omega]
theorem two_pow_mul_xor (f a b : Nat) : 2 ^ f * (a ^^^ b) = (2 ^ f * a) ^^^ (2 ^ f * b) := by
  apply Nat.eq_of_testBit_eq; intro i
  rw [Nat.testBit_xor, Nat.testBit_two_pow_mul, Nat.testBit_two_pow_mul, Nat.testBit_two_pow_mul, Nat.testBit_xor]
  cases decide (i ≥ f) <;> simp
end Go.Proofs.Ytcpnjlagmnlecaa.Crc

/- Bring, some, once: that they answer, and with what. -/
import Derived.Test.YtgppcpghpeenhaaDoorProg
import Derived.Test.YtgppcpghpeenhaaDoorWWords
import Derived.Test.YtgppcpghpeenhaaDoorWLast
import Derived.Test.YtgppcpghpeenhaaDoorR3
import Derived.Test.YtgppcpghpeenhaaDoorB
namespace Go.Proofs.YtgppcpghpeenhaaDoor.R4
open Go.RowKit Go.Proofs.YtgppcpghpeenhaaDoorW.PrintWords Go.Proofs.YtgppcpghpeenhaaDoorW.PrintLast Go.Proofs.YtgppcpghpeenhaaDoorW.PrintMore Go.Proofs.YtgppcpghpeenhaaDoor
set_option linter.unusedVariables false
set_option linter.unusedSimpArgs false
theorem bring_ok (y n : Int) (h0 : 0 < n) (h1 : n ≤ 100) : ∃ t, P.armillaryref00_Bring.f y n = some t ∧ 0 ≤ t ∧ t < n := by
  unfold P.armillaryref00_Bring.f
  rw [if_neg (by omega)]
  have h2 := Int.tmod_lt_of_pos y h0
  have h3 := Int.lt_tmod_of_pos y h0
  split
  · refine ⟨_, rfl, ?_⟩
    unfold wrap64
    omega
  · exact ⟨_, rfl, by omega, h2⟩
def In (n : Int) (r : List Int) : Prop := ∀ y ∈ r, 0 ≤ y ∧ y < n
theorem In.snoc {n : Int} {r : List Int} (h : In n r) {t : Int} (h0 : 0 ≤ t) (h1 : t < n) : In n (r ++ [t]) := fun y hy => by
  rcases List.mem_append.1 hy with h' | h'
  · exact h y h'
  · simp at h'; subst h'; exact ⟨h0, h1⟩
theorem some_l1 (n : Int) (hn : 0 < n) (x5 : List Int) (hx : In n x5) (hl : x5.length ≤ 4) : ∃ k r, P.armillarylaw08_some.l1 k x5 = some r ∧ 2 ≤ r.length ∧ r.length ≤ 4 ∧ In n r := by
  by_cases h2 : (x5.length : Int) < 2
  · by_cases h1 : x5.length = 1
    · refine ⟨2, x5 ++ [0], ?_, by simp; omega, by simp; omega, hx.snoc (by omega) hn⟩
      unfold P.armillarylaw08_some.l1
      rw [if_pos h2, if_pos (by omega)]
      unfold P.armillarylaw08_some.l1
      rw [if_neg (by simp; omega)]
    · refine ⟨3, x5 ++ [0] ++ [0], ?_, by simp, by simp; omega, (hx.snoc (by omega) hn).snoc (by omega) hn⟩
      unfold P.armillarylaw08_some.l1
      rw [if_pos h2, if_pos (by omega)]
      unfold P.armillarylaw08_some.l1
      rw [if_pos (by simp; omega), if_pos (by simp; omega)]
      unfold P.armillarylaw08_some.l1
      rw [if_neg (by simp; omega)]
  · exact ⟨1, x5, by unfold P.armillarylaw08_some.l1; rw [if_neg h2], by omega, hl, hx⟩
theorem some_l0 (l : List Int) (n : Int) (hn : 0 < n) (hn2 : n ≤ 100) : ∀ (m i : Nat) (x5 : List Int), i + m = 4 → x5.length = i → In n x5 → ∃ k r, P.armillarylaw08_some.l0 k l n x5 i = some r ∧ 2 ≤ r.length ∧ r.length ≤ 4 ∧ In n r := by
  intro m
  induction m with
  | zero =>
    intro i x5 hi hl hx
    obtain ⟨k, r, h1, h2⟩ := some_l1 n hn x5 hx (by omega)
    refine ⟨k + 2, r, ?_, h2⟩
    unfold P.armillarylaw08_some.l0 P.armillarylaw08_some.j1
    rw [if_neg (by omega : ¬ ((i : Int) < 4))]
    split <;> exact h1
  | succ m ih =>
    intro i x5 hi hl hx
    by_cases hlt : (i : Int) < l.length
    · obtain ⟨t, ht, t0, t1⟩ := bring_ok (rd l i) n hn hn2
      obtain ⟨k, r, h1, h2⟩ := ih (i + 1) (x5 ++ [t]) (by omega) (by simp; omega) (hx.snoc t0 t1)
      refine ⟨k + 1, r, ?_, h2⟩
      unfold P.armillarylaw08_some.l0
      rw [if_pos hlt, if_pos (by omega), if_pos (by omega), ht, Option.bind_some, if_pos (by omega)]
      have : wrap64 ((i : Int) + 1) = ((i + 1 : Nat) : Int) := by unfold wrap64; omega
      rw [this]
      exact h1
    · obtain ⟨k, r, h1, h2⟩ := some_l1 n hn x5 hx (by omega)
      refine ⟨k + 2, r, ?_, h2⟩
      unfold P.armillarylaw08_some.l0 P.armillarylaw08_some.j1
      rw [if_neg hlt]
      exact h1
theorem some_ok (l : List Int) (n : Int) (hn : 0 < n) (hn2 : n ≤ 100) : ∃ k r, P.armillarylaw08_some.f k l n = some r ∧ 2 ≤ r.length ∧ r.length ≤ 4 ∧ In n r :=
  some_l0 l n hn hn2 4 0 [] rfl rfl (fun y hy => by simp at hy)
/-- A list, each once, of another. -/
def Once (l r : List Int) : Prop := r.Nodup ∧ (∀ y ∈ r, y ∈ l) ∧ r.length ≤ l.length ∧ ∀ y ∈ l, y ∈ r
theorem take_mem {l x : List Int} {i : Nat} (hi : i < l.length) (h : ∀ y ∈ l.take i, y ∈ x) (hx : l[i] ∈ x) : ∀ y ∈ l.take (i + 1), y ∈ x := fun y hy => by
  rw [List.take_add_one, List.getElem?_eq_getElem hi] at hy
  rcases List.mem_append.1 hy with hm | hm
  · exact h y hm
  · simp at hm
    subst hm
    exact hx
theorem once_l0 (l : List Int) (hl : l.length ≤ 1000) : ∀ (m i : Nat) (x3 : List Int), i + m = l.length → x3.Nodup → (∀ y ∈ x3, y ∈ l) → x3.length ≤ i → (∀ y ∈ l.take i, y ∈ x3) → ∃ k r, P.armillarylaw08_once.l0 k l x3 i = some r ∧ Once l r := by
  intro m
  induction m with
  | zero =>
    intro i x3 hi hn hs hx hall
    exact ⟨1, x3, by unfold P.armillarylaw08_once.l0; rw [if_neg (by omega)], hn, hs, by omega, by rw [show i = l.length by omega, List.take_length] at hall; exact hall⟩
  | succ m ih =>
    intro i x3 hi hn hs hx hall
    have hil : i < l.length := by omega
    have hrd : rd l (i : Int) = l[i] := by
      show l.getD i 0 = _
      rw [List.getD_eq_getElem?_getD, List.getElem?_eq_getElem hil]; rfl
    have hw : wrap64 ((i : Int) + 1) = ((i + 1 : Nat) : Int) := by unfold wrap64; omega
    -- the inner loop
    have inner : ∀ (q j : Nat) (b : Bool), j + q = x3.length → (b = true ↔ l[i] ∈ x3.take j) → ∃ k r, P.armillarylaw08_once.l1 k l x3 i b j = some r ∧ Once l r := by
      intro q
      induction q with
      | zero =>
        intro j b hj hb
        rw [show j = x3.length by omega, List.take_length] at hb
        cases b with
        | true =>
          obtain ⟨k, r, h1, h2⟩ := ih (i + 1) x3 (by omega) hn hs (by omega) (take_mem hil hall (hb.1 rfl))
          refine ⟨k + 1, r, ?_, h2⟩
          unfold P.armillarylaw08_once.l1
          rw [if_neg (by omega), if_pos rfl, hw]
          exact h1
        | false =>
          have hnm : l[i] ∉ x3 := fun h => by have := hb.2 h; cases this
          obtain ⟨k, r, h1, h2⟩ := ih (i + 1) (x3 ++ [l[i]]) (by omega) (by
            rw [List.nodup_append]
            exact ⟨hn, by simp, fun a ha b hb hab => by simp at hb; rw [hab, hb] at ha; exact hnm ha⟩) (fun y hy => by
            rcases List.mem_append.1 hy with h | h
            · exact hs y h
            · simp at h; subst h; exact List.getElem_mem hil) (by simp; omega) (take_mem hil (fun y hy => List.mem_append_left _ (hall y hy)) (by simp))
          refine ⟨k + 1, r, ?_, h2⟩
          unfold P.armillarylaw08_once.l1
          rw [if_neg (by omega), if_neg (by simp), if_pos (by omega), if_pos (by omega), if_pos (by omega), hw, hrd]
          exact h1
      | succ q ihq =>
        intro j b hj hb
        have hjl : j < x3.length := by omega
        have hwj : wrap64 ((j : Int) + 1) = ((j + 1 : Nat) : Int) := by unfold wrap64; omega
        have hrj : rd x3 (j : Int) = x3[j] := by
          show x3.getD j 0 = _
          rw [List.getD_eq_getElem?_getD, List.getElem?_eq_getElem hjl]; rfl
        have htk : x3.take (j + 1) = x3.take j ++ [x3[j]] := by rw [List.take_add_one, List.getElem?_eq_getElem hjl]; rfl
        cases b with
        | true =>
          obtain ⟨k, r, h1, h2⟩ := ihq (j + 1) true (by omega) ⟨fun _ => by rw [htk]; exact List.mem_append_left _ (hb.1 rfl), fun _ => rfl⟩
          refine ⟨k + 1, r, ?_, h2⟩
          unfold P.armillarylaw08_once.l1
          rw [if_pos (by omega), if_pos rfl, hwj]
          exact h1
        | false =>
          have hnm : l[i] ∉ x3.take j := fun h => by have := hb.2 h; cases this
          obtain ⟨k, r, h1, h2⟩ := ihq (j + 1) (x3[j] == l[i]) (by omega) (by
            rw [htk, beq_iff_eq]
            constructor
            · intro h; simp [h]
            · intro h
              rcases List.mem_append.1 h with h' | h'
              · exact absurd h' hnm
              · simp at h'; exact h'.symm)
          refine ⟨k + 1, r, ?_, h2⟩
          unfold P.armillarylaw08_once.l1
          rw [if_pos (by omega), if_neg (by simp), if_pos (by omega), if_pos (by omega), if_pos (by omega), hwj, hrj, hrd]
          exact h1
    obtain ⟨k, r, h1, h2⟩ := inner x3.length 0 false (by omega) (by simp)
    refine ⟨k + 1, r, ?_, h2⟩
    unfold P.armillarylaw08_once.l0
    rw [if_pos (by omega)]
    exact h1
theorem once_ok (l : List Int) (hl : l.length ≤ 1000) : ∃ k r, P.armillarylaw08_once.f k l = some r ∧ Once l r := once_l0 l hl l.length 0 [] (by omega) List.nodup_nil (fun y hy => by simp at hy) (by simp) (fun y hy => by simp at hy)
theorem some_yes (A : Option Addr) (c : Nat) (l : List Int) (n : Int) (w : World) (hr : Kd.C (Kd.int .i64) w A l.length l) (hc : l.length ≤ c) (hn : 0 < n) (hn2 : n ≤ 100) :
    Calls Tryd.prog 8 #[.slice A l.length c, .int .i64 n] w fun e w' => ∃ v r, e = .returned v ∧ Kd.R (Kd.int .i64) 3 w' w.heap.size (fun _ => True) v r ∧ Below w.heap.size w w' ∧ 2 ≤ r.length ∧ r.length ≤ 4 ∧ In n r := by
  obtain ⟨k, r, h, h2⟩ := some_ok l n hn hn2
  refine (P.armillarylaw08_some.calls k A c l n r w hr hc h).mono ?_
  rintro e w' ⟨v, h3, h4, h5⟩
  exact ⟨v, r, h3, h4, h5, h2⟩
theorem once_yes (A : Option Addr) (c : Nat) (l : List Int) (w : World) (hr : Kd.C (Kd.int .i64) w A l.length l) (hc : l.length ≤ c) (hl : l.length ≤ 1000) :
    Calls Tryd.prog 9 #[.slice A l.length c] w fun e w' => ∃ v r, e = .returned v ∧ Kd.R (Kd.int .i64) 3 w' w.heap.size (fun _ => True) v r ∧ Below w.heap.size w w' ∧ Once l r := by
  obtain ⟨k, r, h, h2⟩ := once_ok l hl
  refine (P.armillarylaw08_once.calls k A c l r w hr hc h).mono ?_
  rintro e w' ⟨v, h3, h4, h5⟩
  exact ⟨v, r, h3, h4, h5, h2⟩
theorem bring_yes (y n : Int) (w : World) (hn : 0 < n) (hn2 : n ≤ 100) :
    Calls Tryd.prog 10 #[.int .i64 y, .int .i64 n] w fun e w' => ∃ t, e = .returned (.int .i64 t) ∧ Drawn0 w w' ∧ 0 ≤ t ∧ t < n := by
  obtain ⟨t, h, h2⟩ := bring_ok y n hn hn2
  refine (P.armillaryref00_Bring.calls y n t w h).mono ?_
  rintro e w' ⟨h3, h4⟩
  exact ⟨t, h3, h4, h2⟩
end Go.Proofs.YtgppcpghpeenhaaDoor.R4

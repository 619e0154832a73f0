/- All that is found is come to: plain law, no program. -/
import Derived.Test.YthkoockcfnbpiaaDoorProg
import Derived.Test.YthkoockcfnbpiaaDoorWWords
import Derived.Test.YthkoockcfnbpiaaDoorWLast
import Derived.Test.YthkoockcfnbpiaaDoorF4
import Derived.Test.YthkoockcfnbpiaaDoorW15
namespace Go.Proofs.YthkoockcfnbpiaaDoorW.PrintWords
open Go.RowKit
section
variable {P : Program}
theorem cut_to (t e : TypeId) (kh : IntKind) {i : TypeInfo} (ht : P.underlying t = some (.slice e)) (hi : P.info? e = some i) (A : Option Addr) (n c : Nat) (j : Int) (h0 : 0 ≤ j) (hm : j ≤ n) (hc : n ≤ c) :
    ∀ W : World, (Instr.slice t (.slice A n c) none (some (.int kh j)) none).run P W = .ok (.slice A j.toNat c) W := by
  intro W
  have hel : P.elem t = e := by simp [Program.elem, ht]
  have hu : P.underlying t = some (.slice (P.elem t)) := by rw [hel]; exact ht
  have ha : (A.map fun x => x.add 0) = A := by cases A <;> simp [Addr.add]
  rw [run_slice_h W t A n c hu kh j h0 (by omega), hel]
  simp [sizeOf, typeInfo, hi, sliced, Result.andThen, ha]
end
namespace Kd
section
variable {α : Type} {d k : Kd α} {e base m : Nat} {w w1 : World} {ok ok' : Nat → Prop} {v : Value} {A : Option Addr} {xs : List α}
theorem Q_far (h : d.Q e w base ok v xs) {p : Addr} (hok : ∀ k, ok k → k ≠ p.block) (u : Value) : d.Q e (w.setCell p u) base ok v xs := Q_step h (fun k ho _ => Below.heap_setCell w p u k (hok k ho))
theorem C_take (h : k.C w A xs.length xs) (hm : m ≤ xs.length) : k.C w A (xs.take m).length (xs.take m) := by
  have hl : (xs.take m).length = m := by rw [List.length_take]; omega
  refine ⟨rfl, by rw [hl]; have := h.2.1; omega, fun hp => ?_⟩
  obtain ⟨ad, e, hc⟩ := h.2.2 (by omega)
  refine ⟨ad, e, fun j p hj => hc j p ?_⟩
  rw [List.getElem?_take] at hj
  split at hj
  · exact hj
  · cases hj
end
end Kd
end Go.Proofs.YthkoockcfnbpiaaDoorW.PrintWords
namespace Go.Proofs.YthkoockcfnbpiaaDoor.F5
open Go.RowKit Go.Proofs.YthkoockcfnbpiaaDoorW.PrintWords Go.Proofs.YthkoockcfnbpiaaDoor L1 L4 G1 G2 S0 S1 S2 S3 S4 S5 S6 S7 S8 S9 S10 S11 F1 F2 F3 W6 W10 F4 W15
set_option linter.unusedVariables false
set_option linter.unusedSimpArgs false
theorem finds_take {g : List GN} (hc : checkP g = 0) {ps : List (Int × Int)} (hp : ∀ p ∈ ps, Pr g p) (k : Nat) :
    (findsP (pickN g) g (ps.take k)).2 = (findsP (pickN g) g ps).2.take (findsP (pickN g) g (ps.take k)).2.length ∧ (findsP (pickN g) g (ps.take k)).2.length ≤ (findsP (pickN g) g ps).2.length ∧ (findsP (pickN g) g (ps.take k)).1 = (findsP (pickN g) g ps).1.take (ps.take k).length := by
  have h1 := finds_ok hc (ps := ps.take k) (fun p hp' => hp p (List.mem_of_mem_take hp'))
  have e : ps = ps.take k ++ ps.drop k := (List.take_append_drop k ps).symm
  have hF := findL_app (findP (pickN g) g (g.length * g.length + 1)) (ps.take k) (ps.drop k) []
  rw [List.take_append_drop] at hF
  have h2 := findL_ok (b := 0) (fun p l hp hg hb => findP_ok hc (g.length * g.length + 1) p l hp hg (by omega)) (ps.drop k) _ (fun p hp' => hp p (List.mem_of_mem_drop hp')) h1.good (Nat.zero_le _)
  have hx : findsP (pickN g) g ps = ((findsP (pickN g) g (ps.take k)).1 ++ (findL (findP (pickN g) g (g.length * g.length + 1)) (ps.drop k) (findsP (pickN g) g (ps.take k)).2).1, (findL (findP (pickN g) g (g.length * g.length + 1)) (ps.drop k) (findsP (pickN g) g (ps.take k)).2).2) := hF
  obtain ⟨more, hm⟩ := h2.ext
  have hlen : (findsP (pickN g) g (ps.take k)).1.length = (ps.take k).length := by
    have := congrArg List.length h1.tgt
    rwa [List.length_map] at this
  rw [hx]
  dsimp only
  rw [hm]
  refine ⟨?_, ?_, ?_⟩
  · rw [List.take_left']
    rfl
  · rw [List.length_append]
    omega
  · rw [List.take_left' hlen]
/-- Has a number's mark been set? -/
def seenB (sn : List Int) (i : Nat) : Bool := decide (sn.getD i 0 = 1)
theorem seenB_set {sn : List Int} {i : Nat} (hi : i < sn.length) (j : Nat) : seenB (sn.set i 1) j = (decide (j = i) || seenB sn j) := by
  unfold seenB
  rw [List.getD_eq_getElem?_getD, List.getD_eq_getElem?_getD, List.getElem?_set]
  by_cases h : i = j
  · subst h
    rw [if_pos rfl, if_pos hi]
    simp
  · rw [if_neg h]
    simp [show ¬ j = i from fun e => h e.symm]
/-- Does a fact's n-th number count? -/
def Cnt (g : List GN) (f : FC) (n : Nat) : Prop := 0 < n ∨ (nd g f.f0).f0 = 8
/-- Where the search stands. -/
structure Nd (g : List GN) (l : List FC) (ks : List Int) (td : List Nat) (sn : List Int) (i0 : Option Nat) : Prop where
  len : sn.length = l.length
  todo : ∀ i ∈ td, i < l.length
  start : ∀ k ∈ ks, ∃ i : Nat, k = (i : Int) ∧ (seenB sn i = true ∨ i ∈ td)
  on : ∀ i, i < l.length → seenB sn i = true → some i ≠ i0 → ∀ n, n < (l.getD i zF).f2.length → Cnt g (l.getD i zF) n → ∃ j : Nat, rd (l.getD i zF).f2 (n : Int) = (j : Int) ∧ (seenB sn j = true ∨ j ∈ td)
theorem Nd.skip {g : List GN} {l : List FC} {ks : List Int} {i : Nat} {td : List Nat} {sn : List Int} (h : Nd g l ks (i :: td) sn none) (hs : seenB sn i = true) : Nd g l ks td sn none :=
  ⟨h.len, fun j hj => h.todo j (List.mem_cons_of_mem _ hj), fun k hk => by
    obtain ⟨j, e, hj⟩ := h.start k hk
    refine ⟨j, e, ?_⟩
    rcases hj with hj | hj
    · exact .inl hj
    · rcases List.mem_cons.1 hj with rfl | hj
      · exact .inl hs
      · exact .inr hj, fun i' hi' hs' h0 n hn hc => by
    obtain ⟨j, e, hj⟩ := h.on i' hi' hs' h0 n hn hc
    refine ⟨j, e, ?_⟩
    rcases hj with hj | hj
    · exact .inl hj
    · rcases List.mem_cons.1 hj with rfl | hj
      · exact .inl hs
      · exact .inr hj⟩
theorem Nd.mark {g : List GN} {l : List FC} {ks : List Int} {i : Nat} {td : List Nat} {sn : List Int} (h : Nd g l ks (i :: td) sn none) : Nd g l ks td (sn.set i 1) (some i) := by
  have hi : i < sn.length := by rw [h.len]; exact h.todo i (by simp)
  have up : ∀ j : Nat, (seenB sn j = true ∨ j ∈ i :: td) → (seenB (sn.set i 1) j = true ∨ j ∈ td) := fun j hj => by
    rw [seenB_set hi]
    rcases hj with hj | hj
    · exact .inl (by rw [hj]; simp)
    · rcases List.mem_cons.1 hj with rfl | hj
      · exact .inl (by simp)
      · exact .inr hj
  refine ⟨by rw [List.length_set]; exact h.len, fun j hj => h.todo j (List.mem_cons_of_mem _ hj), fun k hk => ?_, fun i' hi' hs' h0 n hn hc => ?_⟩
  · obtain ⟨j, e, hj⟩ := h.start k hk
    exact ⟨j, e, up j hj⟩
  · rw [seenB_set hi] at hs'
    have hs2 : seenB sn i' = true := by
      by_cases he : i' = i
      · exact absurd (by rw [he]) h0
      · simpa [he] using hs'
    obtain ⟨j, e, hj⟩ := h.on i' hi' hs2 (by simp) n hn hc
    exact ⟨j, e, up j hj⟩
theorem Nd.push {g : List GN} {l : List FC} {ks : List Int} {td : List Nat} {sn : List Int} {i0 : Option Nat} (h : Nd g l ks td sn i0) {j : Nat} (hj : j < l.length) : Nd g l ks (td ++ [j]) sn i0 := by
  have up : ∀ x : Nat, (seenB sn x = true ∨ x ∈ td) → (seenB sn x = true ∨ x ∈ td ++ [j]) := fun x hx => hx.imp id (fun h => by simp [h])
  refine ⟨h.len, fun x hx => ?_, fun k hk => ?_, fun i' hi' hs' h0 n hn hc => ?_⟩
  · rcases List.mem_append.1 hx with hx | hx
    · exact h.todo x hx
    · simp at hx
      subst hx
      exact hj
  · obtain ⟨x, e, hx⟩ := h.start k hk
    exact ⟨x, e, up x hx⟩
  · obtain ⟨x, e, hx⟩ := h.on i' hi' hs' h0 n hn hc
    exact ⟨x, e, up x hx⟩
theorem Nd.close {g : List GN} {l : List FC} {ks : List Int} {td : List Nat} {sn : List Int} {i0 : Nat} (h : Nd g l ks td sn (some i0)) (ho : ∀ n, n < (l.getD i0 zF).f2.length → Cnt g (l.getD i0 zF) n → ∃ j : Nat, rd (l.getD i0 zF).f2 (n : Int) = (j : Int) ∧ (seenB sn j = true ∨ j ∈ td)) : Nd g l ks td sn none :=
  ⟨h.len, h.todo, h.start, fun i hi hs _ n hn hc => by
    by_cases he : i = i0
    · subst he
      exact ho n hn hc
    · exact h.on i hi hs (fun e => he (Option.some.inj e)) n hn hc⟩
/-- At the end all is seen. -/
theorem Nd.all {g : List GN} {l : List FC} {ks : List Int} {ps : List (Int × Int)} {sn : List Int} (h : Nd g l ks [] sn none) (hf : Fnd g [] l ks ps) : ∀ i, i < l.length → seenB sn i = true := by
  have key : ∀ (k i : Int), Rch g l k i → (∃ j : Nat, k = (j : Int) ∧ seenB sn j = true) → ∃ j : Nat, i = (j : Int) ∧ seenB sn j = true := by
    intro k i hr hk
    induction hr with
    | refl => exact hk
    | step a b _ he ih =>
      obtain ⟨j, rfl, hs⟩ := ih
      obtain ⟨f, hfj, hb⟩ := he
      rw [Int.toNat_natCast] at hfj
      have hjl := (List.getElem?_eq_some_iff.1 hfj).1
      have hfe : l.getD j zF = f := by rw [List.getD_eq_getElem?_getD, hfj]; rfl
      have hex : ∃ n, n < f.f2.length ∧ Cnt g f n ∧ rd f.f2 (n : Int) = b := by
        unfold onP at hb
        split at hb
        · rename_i h8
          obtain ⟨n, hn, e⟩ := List.getElem_of_mem hb
          refine ⟨n, hn, .inr h8, ?_⟩
          unfold rd
          rw [Int.toNat_natCast, List.getD_eq_getElem?_getD, List.getElem?_eq_getElem hn, e]
          rfl
        · obtain ⟨n, hn, e⟩ := List.getElem_of_mem hb
          rw [List.length_drop] at hn
          refine ⟨n + 1, by omega, .inl (Nat.succ_pos n), ?_⟩
          rw [List.getElem_drop] at e
          unfold rd
          rw [Int.toNat_natCast, List.getD_eq_getElem?_getD, List.getElem?_eq_getElem (by omega)]
          show f.f2[n + 1] = b
          rw [← e]
          congr 1
          omega
      obtain ⟨n, hn, hc, e⟩ := hex
      obtain ⟨x, ex, hx⟩ := h.on j hjl hs (by simp) n (by rw [hfe]; exact hn) (by rw [hfe]; exact hc)
      rw [hfe, e] at ex
      rcases hx with hx | hx
      · exact ⟨x, ex, hx⟩
      · cases hx
  intro i hi
  obtain ⟨k, hk, hr⟩ := hf.rch i (Nat.zero_le _) hi
  obtain ⟨j, ej, hj⟩ := h.start k hk
  obtain ⟨x, ex, hx⟩ := key k i hr ⟨j, ej, by rcases hj with hj | hj; exact hj; cases hj⟩
  rw [Int.ofNat_inj.1 ex]
  exact hx
/-- What is left to do, as a number: of each fact that is not seen, its numbers and one. -/
def smu (l : List FC) (sn : List Int) : Nat := ((List.range l.length).map fun i => if seenB sn i then 0 else (l.getD i zF).f2.length + 1).sum
theorem smu_set {l : List FC} {sn : List Int} (hl : sn.length = l.length) {i : Nat} (hi : i < l.length) (hs : seenB sn i = false) : smu l (sn.set i 1) + ((l.getD i zF).f2.length + 1) = smu l sn := by
  unfold smu
  have key : ∀ n, n ≤ l.length → (((List.range n).map fun j => if seenB (sn.set i 1) j then 0 else (l.getD j zF).f2.length + 1).sum + (if i < n then (l.getD i zF).f2.length + 1 else 0)) = ((List.range n).map fun j => if seenB sn j then 0 else (l.getD j zF).f2.length + 1).sum := by
    intro n
    induction n with
    | zero => intro _; simp
    | succ n ih =>
      intro hn
      have h := ih (by omega)
      rw [List.range_succ, List.map_append, List.map_append, List.sum_append, List.sum_append]
      simp only [List.map_cons, List.map_nil, List.sum_cons, List.sum_nil, Nat.add_zero]
      rw [← h, seenB_set (by omega)]
      by_cases he : n = i
      · subst he
        rw [hs]
        simp
      · have e1 : (i < n + 1) = (i < n) := by apply propext; omega
        rw [show decide (n = i) = false by simp [he], Bool.false_or]
        simp only [e1]
        omega
  have := key l.length (Nat.le_refl _)
  rw [if_pos hi] at this
  exact this
end Go.Proofs.YthkoockcfnbpiaaDoor.F5

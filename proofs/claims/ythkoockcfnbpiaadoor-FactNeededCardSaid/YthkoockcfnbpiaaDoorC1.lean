/- The chapter's small graph, and what is found in it: plain law, no program. -/
import Derived.Test.YthkoockcfnbpiaaDoorProg
import Derived.Test.YthkoockcfnbpiaaDoorWWords
import Derived.Test.YthkoockcfnbpiaaDoorWLast
import Derived.Test.YthkoockcfnbpiaaDoorF3
namespace Go.Proofs.YthkoockcfnbpiaaDoor.C0
open Go.RowKit Go.Proofs.YthkoockcfnbpiaaDoor L1 G1 G2 S0 S1 S2 S3 S4 S5 S6 S7 S8 S9 S10 S11 F1 F2 F3
set_option linter.unusedVariables false
set_option linter.unusedSimpArgs false
def recB (r : Nat → Nat → Bool) (s t : GN) : List ByteArray → Nat → Bool
  | [], _ => true
  | key :: l, i => (match idxF key s.f3 0 with | none => false | some k => r (at_ s.f4 k) (at_ t.f4 i)) && recB r s t l (i + 1)
theorem recB_iff (r : Nat → Nat → Bool) (s t : GN) : ∀ (l : List ByteArray) (i : Nat), recB r s t l i = true ↔ RecFrom (fun a b => r a b = true) s t l i
  | [], i => by simp [recB, RecFrom]
  | key :: l, i => by
    unfold recB RecFrom
    rw [Bool.and_eq_true, recB_iff r s t l (i + 1)]
    cases idxF key s.f3 0 with
    | none => simp
    | some k => simp
def doesB (st : Bool) (r : Nat → Nat → Bool) (s t : GN) : Bool :=
  if s.f0 = 1 ∨ t.f0 = 1 then !st || s.f0 == t.f0
  else (s.f0 == t.f0) && (!(s.f0 == 5) || s.f2.toList == t.f2.toList) && (!(s.f0 == 7) || recB r s t t.f3 0) && (!(s.f0 == 9) || (s.f1 == t.f1 && r (at_ s.f4 0) (at_ t.f4 0)))
theorem doesB_iff (st : Bool) (r : Nat → Nat → Bool) (s t : GN) : doesB st r s t = true ↔ Does st (fun a b => r a b = true) s t := by
  unfold doesB Does
  split
  · cases st <;> simp
  · simp only [Bool.and_eq_true, Bool.or_eq_true, Bool.not_eq_true', beq_iff_eq, beq_eq_false_iff_ne, recB_iff]
    constructor
    · rintro ⟨⟨⟨h1, h2⟩, h3⟩, h4⟩
      exact ⟨h1, fun h => h2.resolve_left (fun h' => h' h), fun h => h3.resolve_left (fun h' => h' h), fun h => h4.resolve_left (fun h' => h' h)⟩
    · rintro ⟨h1, h2, h3, h4⟩
      refine ⟨⟨⟨h1, ?_⟩, ?_⟩, ?_⟩
      · by_cases h : s.f0 = 5
        · exact .inr (h2 h)
        · exact .inl h
      · by_cases h : s.f0 = 7
        · exact .inr (h3 h)
        · exact .inl h
      · by_cases h : s.f0 = 9
        · exact .inr (h4 h)
        · exact .inl h
def standsB (st : Bool) (g : List GN) (r : Nat → Nat → Bool) (a b : Nat) : Bool :=
  (membersP g a).all fun s => (membersP g b).any (fun y => doesB st r (nd g s) (nd g y)) || ((nd g s).f0 == 9 && r (at_ (nd g s).f4 0) b)
theorem standsB_iff (st : Bool) (g : List GN) (r : Nat → Nat → Bool) (a b : Nat) : standsB st g r a b = true ↔ Stands st g (fun a b => r a b = true) a b := by
  unfold standsB Stands
  rw [List.all_eq_true]
  refine forall_congr' fun s => forall_congr' fun hs => ?_
  rw [Bool.or_eq_true, List.any_eq_true, Bool.and_eq_true, beq_iff_eq]
  simp only [doesB_iff]
theorem sub_yes {st : Bool} {g : List GN} (L : List (Nat × Nat)) (h : L.all (fun p => standsB st g (fun a b => L.contains (a, b)) p.1 p.2) = true) {a b : Nat} (hm : L.contains (a, b) = true) : Sub st g a b :=
  Sub.of_post (R := fun a b => L.contains (a, b) = true) (fun x y hxy => by
    have := List.all_eq_true.1 h (x, y) (by simpa using hxy)
    exact (standsB_iff _ _ _ _ _).1 this) hm
def noB (st : Bool) (g : List GN) : List (Nat × Nat) → List (Nat × Nat) → Bool
  | [], _ => true
  | p :: r, acc => !standsB st g (fun a b => !acc.contains (a, b)) p.1 p.2 && noB st g r (p :: acc)
theorem sub_no' {st : Bool} {g : List GN} : ∀ (Z acc : List (Nat × Nat)), noB st g Z acc = true → (∀ p ∈ acc, ¬ Sub st g p.1 p.2) → ∀ p ∈ Z, ¬ Sub st g p.1 p.2
  | [], _, _, _, p, hp => by simp at hp
  | q :: r, acc, h, ha, p, hp => by
    unfold noB at h
    rw [Bool.and_eq_true, Bool.not_eq_true'] at h
    have hq : ¬ Sub st g q.1 q.2 := fun hs => by
      have h1 := (standsB_iff st g (fun a b => !acc.contains (a, b)) q.1 q.2).2 (hs.post.mono (fun a b hab => by
        cases hc : acc.contains (a, b) with
        | false => rfl
        | true => exact absurd hab (ha (a, b) (by simpa using hc))))
      rw [h.1] at h1
      cases h1
    rcases List.mem_cons.1 hp with rfl | hp
    · exact hq
    · exact sub_no' r (q :: acc) h.2 (fun p hp => by
        rcases List.mem_cons.1 hp with rfl | hp
        · exact hq
        · exact ha p hp) p hp
theorem sub_no {st : Bool} {g : List GN} (Z : List (Nat × Nat)) (h : noB st g Z [] = true) {a b : Nat} (hm : Z.contains (a, b) = true) : ¬ Sub st g a b :=
  sub_no' Z [] h (fun p hp => by simp at hp) (a, b) (by simpa using hm)
theorem mayB_true {st : Bool} {g : List GN} {a b : Int} (h1 : ofP g [a, b] = true) (h2 : Sub st g a.toNat b.toNat) : mayB st g a b = true := (mayB_iff st g a b).2 ⟨h1, h2⟩
theorem mayB_false {st : Bool} {g : List GN} {a b : Int} (h2 : ¬ Sub st g a.toNat b.toNat) : mayB st g a b = false := by
  cases h : mayB st g a b with
  | false => rfl
  | true => exact absurd ((mayB_iff st g a b).1 h).2 h2
/-- What is taken of relations: within the graph alone. -/
theorem rec_in {g : List GN} {R R' : Nat → Nat → Prop} (h : ∀ a b, a < g.length → b < g.length → R a b → R' a b) {s t : GN} (hs : ∀ y ∈ s.f4, 0 ≤ y ∧ y < (g.length : Int)) (ht : ∀ y ∈ t.f4, 0 ≤ y ∧ y < (g.length : Int)) (hsl : s.f4.length = s.f3.length) :
    ∀ (l : List ByteArray) (i : Nat), i + l.length = t.f4.length → RecFrom R s t l i → RecFrom R' s t l i
  | [], _, _, _ => trivial
  | key :: r, i, hl, hr => by
    unfold RecFrom at hr ⊢
    obtain ⟨⟨k, hk, hR⟩, h2⟩ := hr
    simp at hl
    exact ⟨⟨k, hk, h _ _ (at_eq hs (by rw [hsl]; exact idxF_bound hk)).2 (at_eq ht (by omega)).2 hR⟩, rec_in h hs ht hsl r (i + 1) (by omega) h2⟩
theorem does_in {g : List GN} {R R' : Nat → Nat → Prop} (h : ∀ a b, a < g.length → b < g.length → R a b → R' a b) {st : Bool} {s t : GN} (hs : Okn g s) (ht : Okn g t) (hd : Does st R s t) : Does st R' s t := by
  unfold Does at hd ⊢
  split
  · rename_i h1
    rw [if_pos h1] at hd
    exact hd
  · rename_i h1
    rw [if_neg h1] at hd
    obtain ⟨h2, h3, h4, h5⟩ := hd
    refine ⟨h2, h3, fun h7 => ?_, fun h9 => ⟨(h5 h9).1, ?_⟩⟩
    · have := ht.recd (by omega)
      exact rec_in h hs.range ht.range (hs.recd h7).1 _ _ (by omega) (h4 h7)
    · have h1 := hs.var h9
      have h2 := ht.var (by omega)
      exact h _ _ (at_eq hs.range (by omega)).2 (at_eq ht.range (by omega)).2 (h5 h9).2
/-- The pick, reckoned. -/
def pickB (g : List GN) (r : Nat → Nat → Bool) (a b : Int) : Int :=
  if ofP g [a, b] = true ∧ (nd g a).f0 ≠ 8 then
    match (membersP g b).findIdx? (fun y => doesB false r (nd g a) (nd g y)) with
    | some j => (j : Int)
    | none => if (nd g a).f0 = 9 ∧ r (at_ (nd g a).f4 0) b.toNat = true then -1 else -2
  else -2
theorem pickB_ok {g : List GN} (hc : checkP g = 0) {r : Nat → Nat → Bool} (hr : ∀ a b, a < g.length → b < g.length → (r a b = true ↔ Sub false g a b)) (a b : Int) : PickP g a b (pickB g r a b) := by
  unfold PickP pickB
  split
  · rename_i hcond
    obtain ⟨h1, h2, h3⟩ := ofP_two hcond.1
    obtain ⟨x, rfl⟩ := Int.eq_ofNat_of_zero_le h2.1
    obtain ⟨y, rfl⟩ := Int.eq_ofNat_of_zero_le h3.1
    have hs := F2.sub_one (g := g) (a := x) (b := y) (by omega) hcond.2
    have hox := (check_ok hc).2 _ (nd_mem h2.1 h2.2)
    have hD : ∀ z ∈ membersP g y, doesB false r (nd g x) (nd g z) = true ↔ Does false (Sub false g) (nd g x) (nd g z) := fun z hz => by
      have hz' := members_in hc h3.1 h3.2 z hz
      have hoz := (check_ok hc).2 _ (nd_mem hz'.1 hz'.2.1)
      rw [doesB_iff]
      exact ⟨does_in (fun a b ha hb h => (hr a b ha hb).1 h) hox hoz, does_in (fun a b ha hb h => (hr a b ha hb).2 h) hox hoz⟩
    rw [Int.toNat_natCast, Int.toNat_natCast]
    cases hf : (membersP g y).findIdx? (fun y => doesB false r (nd g x) (nd g y)) with
    | some j =>
      rw [List.findIdx?_eq_some_iff_getElem] at hf
      obtain ⟨hj, h4, h5⟩ := hf
      have hd := (hD _ (List.getElem_mem hj)).1 h4
      refine ⟨.inr (.inr ⟨j, hj, rfl, hd, fun j' hlt z hz hdz => ?_⟩), ⟨fun h => by dsimp only at h; omega, fun h => absurd (hs.2 (.inl ⟨_, List.getElem_mem hj, hd⟩)) h⟩⟩
      obtain ⟨hj', e⟩ := List.getElem?_eq_some_iff.1 hz
      subst e
      exact h5 j' hlt ((hD _ (List.getElem_mem hj')).2 hdz)
    | none =>
      rw [List.findIdx?_eq_none_iff] at hf
      have hn : ∀ z ∈ membersP g y, ¬ Does false (Sub false g) (nd g x) (nd g z) := fun z hz h => by
        have := hf z hz
        rw [(hD z hz).2 h] at this
        cases this
      dsimp only
      by_cases h9 : (nd g x).f0 = 9
      · have hv := hox.var h9
        have hr9 := hr (at_ (nd g x).f4 0) y (at_eq hox.range (by omega)).2 (by omega)
        by_cases hb : r (at_ (nd g x).f4 0) y = true
        · rw [if_pos ⟨h9, hb⟩]
          exact ⟨.inr (.inl ⟨rfl, hn, h9, hr9.1 hb⟩), ⟨fun h => by omega, fun h => absurd (hs.2 (.inr ⟨h9, hr9.1 hb⟩)) h⟩⟩
        · rw [if_neg (fun h => hb h.2)]
          exact ⟨.inl ⟨rfl, hn, fun h => hb (hr9.2 h.2)⟩, ⟨fun _ h => (hs.1 h).elim (fun ⟨z, hz, hd⟩ => hn z hz hd) (fun h => hb (hr9.2 h.2)), fun _ => rfl⟩⟩
      · rw [if_neg (fun h => h9 h.1)]
        exact ⟨.inl ⟨rfl, hn, fun h => h9 h.1⟩, ⟨fun _ h => (hs.1 h).elim (fun ⟨z, hz, hd⟩ => hn z hz hd) (fun h => h9 h.1), fun _ => rfl⟩⟩
  · rfl
theorem pickN_B {g : List GN} (hc : checkP g = 0) {r : Nat → Nat → Bool} (hr : ∀ a b, a < g.length → b < g.length → (r a b = true ↔ Sub false g a b)) : pickN g = pickB g r := by
  funext a b
  exact (pickN_eq (pickB_ok hc hr a b)).symm
/-- A whole table. -/
theorem sub_table {st : Bool} {g : List GN} (L Z : List (Nat × Nat)) (hL : L.all (fun p => standsB st g (fun a b => L.contains (a, b)) p.1 p.2) = true) (hZ : noB st g Z [] = true)
    (hall : (List.range g.length).all (fun a => (List.range g.length).all fun b => L.contains (a, b) || Z.contains (a, b)) = true) :
    ∀ a b, a < g.length → b < g.length → (L.contains (a, b) = true ↔ Sub st g a b) := by
  intro a b ha hb
  constructor
  · exact fun h => sub_yes L hL h
  · intro h
    have := List.all_eq_true.1 (List.all_eq_true.1 hall a (List.mem_range.2 ha)) b (List.mem_range.2 hb)
    rw [Bool.or_eq_true] at this
    rcases this with h' | h'
    · exact h'
    · exact absurd h (sub_no Z hZ h')
end Go.Proofs.YthkoockcfnbpiaaDoor.C0
namespace Go.Proofs.YthkoockcfnbpiaaDoor.C1
open Go.RowKit Go.Proofs.YthkoockcfnbpiaaDoor L1 L4 G1 G2 S3 S4 S5 S6 S7 S8 S9 S10 S11 F1 F2 F3 C0
set_option linter.unusedVariables false
set_option linter.unusedSimpArgs false
def kA : ByteArray := ⟨#[97]⟩
def smallG : List GN := [⟨4, 0, ⟨#[]⟩, [], []⟩, ⟨2, 0, ⟨#[]⟩, [], []⟩, ⟨8, 0, ⟨#[]⟩, [], [0, 1]⟩, ⟨7, 0, ⟨#[]⟩, [kA], [0]⟩, ⟨7, 0, ⟨#[]⟩, [kA], [2]⟩, ⟨1, 0, ⟨#[]⟩, [], []⟩, ⟨9, 0, ⟨#[]⟩, [], [3]⟩]
theorem small_ok : checkP smallG = 0 := by kernel_rfl
def smallL : List (Nat × Nat) := [(0, 0), (0, 2), (0, 5), (1, 1), (1, 2), (1, 5), (2, 2), (2, 5), (3, 3), (3, 4), (3, 5), (4, 4), (4, 5), (5, 0), (5, 1), (5, 2), (5, 3), (5, 4), (5, 5), (5, 6), (6, 3), (6, 4), (6, 5), (6, 6)]
def smallZ : List (Nat × Nat) := [(0, 1), (0, 3), (0, 4), (0, 6), (1, 0), (1, 3), (1, 4), (1, 6), (2, 0), (2, 1), (2, 3), (2, 4), (2, 6), (3, 0), (3, 1), (3, 2), (3, 6), (4, 0), (4, 1), (4, 2), (4, 3), (4, 6), (6, 0), (6, 1), (6, 2)]
theorem small_table : ∀ a b, a < smallG.length → b < smallG.length → (smallL.contains (a, b) = true ↔ Sub false smallG a b) := sub_table smallL smallZ (by kernel_rfl) (by kernel_rfl) (by kernel_rfl)
theorem small_pick : pickN smallG = pickB smallG (fun a b => smallL.contains (a, b)) := pickN_B small_ok small_table
theorem small_f1 : findsP (pickN smallG) smallG [(0, 2)] = ([0], [⟨0, 2, [0]⟩]) := by rw [small_pick]; kernel_rfl
theorem small_f2 : findsP (pickN smallG) smallG [(3, 4)] = ([0], [⟨3, 4, [0, 1]⟩, ⟨0, 2, [0]⟩]) := by rw [small_pick]; kernel_rfl
theorem small_f3 : findsP (pickN smallG) smallG [(6, 4), (2, 5)] = ([0, 3], [⟨6, 4, [-1, 1]⟩, ⟨3, 4, [0, 2]⟩, ⟨0, 2, [0]⟩, ⟨2, 5, [4, 5]⟩, ⟨0, 5, [0]⟩, ⟨1, 5, [0]⟩]) := by rw [small_pick]; kernel_rfl
theorem small_may (a b : Nat) (ha : a < 7) (hb : b < 7) : mayB false smallG a b = smallL.contains (a, b) := by
  have h1 : ofP smallG [(a : Int), (b : Int)] = true := by
    unfold ofP
    rw [show checkP smallG = 0 from small_ok]
    simp only [decide_true, Bool.true_and, List.any_cons, List.any_nil, Bool.or_false, Bool.not_eq_true', Bool.or_eq_false_iff]
    unfold outP
    rw [show smallG.length = 7 from rfl]
    simp
    omega
  have h2 := small_table a b ha hb
  cases h : smallL.contains (a, b) with
  | true => exact mayB_true h1 (by simpa using h2.1 h)
  | false => exact mayB_false (fun h3 => by
      have := h2.2 (by simpa using h3)
      rw [h] at this
      cases this)
theorem small_first1 : firstP smallG [⟨0, 1, [0]⟩] = (0, 0) := by kernel_rfl
theorem small_first2 : firstP smallG [⟨3, 4, [0, 0]⟩] = (0, 0) := by kernel_rfl
theorem small_casts1 : castsP smallG [⟨5, 0, [0]⟩] 0 = true := castsP_iff.2 ⟨by kernel_rfl, 0, .refl, _, rfl, by kernel_rfl⟩
theorem small_casts2 : castsP smallG [⟨0, 5, [0]⟩] 0 = false := by
  cases h : castsP smallG [⟨0, 5, [0]⟩] 0 with
  | false => rfl
  | true =>
    obtain ⟨_, i, hr, f, hf, hc⟩ := castsP_iff.1 h
    have hi : ∀ j, Rch smallG [⟨0, 5, [0]⟩] 0 j → j = 0 := by
      intro j hj
      induction hj with
      | refl => rfl
      | step i j _ he ih =>
        subst ih
        obtain ⟨f, hf, hj⟩ := he
        simp at hf
        subst hf
        have : onP smallG ⟨0, 5, [0]⟩ = [] := by kernel_rfl
        rw [this] at hj
        simp at hj
    rw [hi i hr] at hf
    simp at hf
    subst hf
    have : castB smallG ⟨0, 5, [0]⟩ = false := by kernel_rfl
    rw [this] at hc
    cases hc
end Go.Proofs.YthkoockcfnbpiaaDoor.C1

/- Standing strictly, or not; types that are one: plain law, no program. -/
import Derived.Test.YtgppcpghpeenhaaDoorProg
import Derived.Test.YtgppcpghpeenhaaDoorWWords
import Derived.Test.YtgppcpghpeenhaaDoorWLast
import Derived.Test.YtgppcpghpeenhaaDoorN1
import Derived.Test.YtgppcpghpeenhaaDoorN6
namespace Go.Proofs.YtgppcpghpeenhaaDoor.N8
open Go.RowKit Go.Proofs.YtgppcpghpeenhaaDoorW.PrintWords Go.Proofs.YtgppcpghpeenhaaDoor L1 L4 G1 G2 S0 S1 S2 S3 S4 S5 S7 S9 S11 R1 R3 R4 R6 R7 N1
set_option linter.unusedVariables false
set_option linter.unusedSimpArgs false
theorem does_weak {R : Nat → Nat → Prop} {s t : GN} (h : Does true R s t) : Does false R s t := by
  unfold Does at h ⊢
  split
  · intro e
    cases e
  · rename_i hn
    rw [if_neg hn] at h
    exact h
/-- What may strictly stand may stand. -/
theorem strict_may {g : List GN} {a b : Nat} (h : Sub true g a b) : Sub false g a b :=
  Sub.of_post (R := Sub true g) (fun x y hxy s hs => by
    rcases hxy.post s hs with ⟨t, ht, hd⟩ | h
    · exact .inl ⟨t, ht, does_weak hd⟩
    · exact .inr h) h
theorem members_pl' {g : List GN} (hc : checkP g = 0) {a : Nat} {s : Int} (hs : s ∈ membersP g (a : Int)) : Pl g s := by
  by_cases ha : a < g.length
  · exact members_pl hc (Int.natCast_nonneg _) (Int.ofNat_lt.2 ha) hs
  · unfold membersP at hs
    rw [if_neg (by omega), if_pos (by omega)] at hs
    cases hs
/-- Without TDyn both are the same. -/
theorem may_strict {g : List GN} (hc : checkP g = 0) (hd : ∀ x ∈ g, x.f0 ≠ 1) {a b : Nat} (h : Sub false g a b) : Sub true g a b :=
  Sub.of_post (R := Sub false g) (fun x y hxy s hs => by
    rcases hxy.post s hs with ⟨t, ht, hd'⟩ | h
    · refine .inl ⟨t, ht, ?_⟩
      have h1 := members_pl' hc hs
      have h2 := members_pl' hc ht
      have n1 := hd _ (nd_mem h1.lo h1.hi)
      have n2 := hd _ (nd_mem h2.lo h2.hi)
      unfold Does at hd' ⊢
      rw [if_neg (by omega)] at hd' ⊢
      exact hd'
    · exact .inr h) h
theorem no_dyn {g : List GN} {n p : Nat} (h : GraphP false n p g) : ∀ x ∈ g, x.f0 ≠ 1 := by
  intro x hx
  obtain ⟨i, hi, e⟩ := List.getElem_of_mem hx
  rcases h i x (by rw [List.getElem?_eq_getElem hi, e]) with ⟨k, h1, h2, h3, rfl⟩ | ⟨s, _, rfl⟩ | ⟨m, y, _, _, y0, y1, rfl⟩ | ⟨l, hl, hin, rfl⟩ | ⟨_, u, _, _, _, rfl⟩
  · intro e
    exact absurd (h3 e) (by simp)
  · dsimp only; omega
  · dsimp only; omega
  · dsimp only [recG]; omega
  · dsimp only; omega
theorem members_self {g : List GN} {a : Nat} (ha : a < g.length) (h8 : (nd g (a : Int)).f0 ≠ 8) : membersP g (a : Int) = [(a : Int)] := by
  unfold membersP
  rw [if_neg (by omega), if_neg (by omega)]
  exact if_neg h8
theorem members_some {dyn : Bool} {g : List GN} {n p : Nat} (h : GraphP dyn n p g) {b : Nat} (hb : b < g.length) : ∃ y, y ∈ membersP g (b : Int) := by
  by_cases h8 : (nd g (b : Int)).f0 = 8
  · have hu : membersP g (b : Int) = (nd g (b : Int)).f4 := by
      unfold membersP
      rw [if_neg (by omega), if_neg (by omega)]
      exact if_pos h8
    rw [hu]
    rcases h b (nd g (b : Int)) (nd_at (Int.natCast_nonneg _) (Int.ofNat_lt.2 hb)) with ⟨k, h1, h2, h3, e⟩ | ⟨s, _, e⟩ | ⟨m, y, _, _, y0, y1, e⟩ | ⟨l, hl, hin, e⟩ | ⟨_, u, hu2, _, _, e⟩
    all_goals rw [e] at h8 ⊢
    · dsimp only at h8; omega
    · dsimp only at h8; omega
    · dsimp only at h8; omega
    · dsimp only [recG] at h8; omega
    · rcases u with _ | ⟨y, u⟩
      · simp at hu2
      · exact ⟨y, by simp⟩
  · rw [members_self hb h8]
    exact ⟨_, List.mem_singleton.2 rfl⟩
/-- A TDyn may stand for all, and all for it. -/
theorem dyn_may {dyn : Bool} {g : List GN} {n p : Nat} (h : GraphP dyn n p g) {a b : Nat} (ha : a < g.length) (hb : b < g.length) (hd : (nd g (a : Int)).f0 = 1 ∨ (nd g (b : Int)).f0 = 1) : Sub false g a b := by
  rw [Sub.iff]
  intro s hs
  left
  rcases hd with hd | hd
  · rw [members_self ha (by omega), List.mem_singleton] at hs
    subst hs
    obtain ⟨y, hy⟩ := members_some h hb
    refine ⟨y, hy, ?_⟩
    unfold Does
    rw [if_pos (.inl hd)]
    intro e
    cases e
  · refine ⟨(b : Int), ?_, ?_⟩
    · rw [members_self hb (by omega)]
      exact List.mem_singleton.2 rfl
    · unfold Does
      rw [if_pos (.inr hd)]
      intro e
      cases e
theorem keys_at {n i : Nat} (hn : n ≤ 2) {key : ByteArray} (h : (recK n)[i]? = some key) : idxF key (recK n) 0 = some i := by
  have hn' : n = 0 ∨ n = 1 ∨ n = 2 := by omega
  rcases hn' with rfl | rfl | rfl
  · simp [recK] at h
  · have h' : [kA][i]? = some key := h
    rcases i with _ | i
    · simp at h'
      subst h'
      exact idx1
    · simp at h'
  · have h' : [kA, kB][i]? = some key := h
    rcases i with _ | _ | i
    · simp at h'
      subst h'
      exact idx2
    · simp at h'
      subst h'
      exact idx3
    · simp at h'
theorem at_rd (l : List Int) (i : Nat) : at_ l i = (rd l (i : Int)).toNat := rfl
/-- Types that are one may strictly stand for each other. -/
theorem one_strict {dyn : Bool} {g : List GN} {n p : Nat} (hc : checkP g = 0) (h : GraphP dyn n p g) {a b : Nat} (ha : a < g.length) (hb : b < g.length) (h1 : OneP g (a : Int) (b : Int)) : Sub true g a b := by
  obtain ⟨B, hB, hM⟩ := h1
  refine Sub.of_post (R := fun x y => x < g.length ∧ y < g.length ∧ Mt g B (x : Int) (y : Int)) ?_ ⟨ha, hb, hM⟩
  rintro x y ⟨hx, hy, hm⟩ s hs
  obtain ⟨t, ht, hst⟩ := hm.1 s hs
  have ps := members_pl hc (Int.natCast_nonneg x) (Int.ofNat_lt.2 hx) hs
  have pt := members_pl hc (Int.natCast_nonneg y) (Int.ofNat_lt.2 hy) ht
  obtain ⟨⟨l0, l1, l2, l3, l4⟩, hk⟩ := hB s t ps pt hst
  refine .inl ⟨t, ht, ?_⟩
  have kid : ∀ i : Nat, i < (nd g s).f4.length → at_ (nd g s).f4 i < g.length ∧ at_ (nd g t).f4 i < g.length ∧ Mt g B ((at_ (nd g s).f4 i : Nat) : Int) ((at_ (nd g t).f4 i : Nat) : Int) := fun i hi => by
    have k1 := kid_in hc ps hi
    have k2 := kid_in hc pt (show i < (nd g t).f4.length by rw [← l4]; exact hi)
    have := hk i hi
    rw [at_rd, at_rd, Int.toNat_of_nonneg k1.1, Int.toNat_of_nonneg k2.1]
    exact ⟨by omega, by omega, this⟩
  unfold Does
  split
  · exact fun _ => l0
  · refine ⟨l0, fun _ => by rw [l2], fun h7 => ?_, fun h9 => ⟨l1, kid 0 ?_⟩⟩
    · rw [recFrom_iff]
      intro i key hi
      have hke : ∃ m, m ≤ 2 ∧ (nd g s).f3 = recK m ∧ (nd g s).f4.length = m := by
        rcases h s.toNat (nd g s) (nd_at ps.lo ps.hi) with ⟨k, h1, h2, h3, e⟩ | ⟨s', _, e⟩ | ⟨m, y', _, _, y0, y1, e⟩ | ⟨l, hl, hin, e⟩ | ⟨_, u, hu2, _, _, e⟩
        all_goals rw [e] at h7
        · dsimp only at h7; omega
        · dsimp only at h7; omega
        · dsimp only at h7; omega
        · exact ⟨l.length, hl, by rw [e]; rfl, by rw [e]; rfl⟩
        · dsimp only at h7; omega
      obtain ⟨m, hm2, e3, e4⟩ := hke
      rw [← l3, e3] at hi
      have hil : i < m := by
        have h5 := (List.getElem?_eq_some_iff.1 hi).1
        have h6 : (recK m).length ≤ m := by
          have hm' : m = 0 ∨ m = 1 ∨ m = 2 := by omega
          rcases hm' with rfl | rfl | rfl <;> decide
        omega
      refine ⟨i, by rw [e3]; exact keys_at hm2 hi, ?_⟩
      rw [Nat.zero_add]
      exact kid i (by omega)
    · have := ((check_ok hc).2 _ (nd_mem ps.lo ps.hi)).var h9
      omega
theorem OneP.symm {g : List GN} {m n : Int} (h : OneP g m n) : OneP g n m := by
  obtain ⟨B, hB, hM⟩ := h
  have flip : ∀ {x y : Int}, Mt g B x y → Mt g (fun u v => B v u) y x := fun h => ⟨fun u hu => h.2 u hu, fun u hu => h.1 u hu⟩
  refine ⟨fun x y => B y x, fun a b ha hb hab => ?_, flip hM⟩
  obtain ⟨⟨l0, l1, l2, l3, l4⟩, hk⟩ := hB b a hb ha hab
  exact ⟨⟨l0.symm, l1.symm, l2.symm, l3.symm, l4.symm⟩, fun i hi => flip (hk i (by rw [l4]; exact hi))⟩
end Go.Proofs.YtgppcpghpeenhaaDoor.N8

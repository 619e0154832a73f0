/- Facts that hold are sound; what casts; what is found is come to: plain law, no program. -/
import Derived.Test.YthkoockcfnbpiaaDoorProg
import Derived.Test.YthkoockcfnbpiaaDoorWWords
import Derived.Test.YthkoockcfnbpiaaDoorWLast
import Derived.Test.YthkoockcfnbpiaaDoorW10
import Derived.Test.YthkoockcfnbpiaaDoorF3
namespace Go.Proofs.YthkoockcfnbpiaaDoor.F4
open Go.RowKit Go.Proofs.YthkoockcfnbpiaaDoor L1 L4 G1 G2 S0 S1 S2 S3 S4 S5 S6 S7 S8 S9 S10 S11 F1 F2 F3 W6 W10
set_option linter.unusedVariables false
set_option linter.unusedSimpArgs false
theorem recP_from {R : Nat → Nat → Prop} {s t : GN} : ∀ (l : List ByteArray) (i : Nat) (m : List (Int × Int)), recP s t l i = some m → (∀ q ∈ m, R q.1.toNat q.2.toNat) → RecFrom R s t l i
  | [], i, m, _, _ => trivial
  | key :: r, i, m, h, hq => by
    unfold recP at h
    cases hk : idxF key s.f3 0 with
    | none => rw [hk] at h; cases h
    | some k =>
      rw [hk] at h
      simp only [Option.map_eq_some_iff] at h
      obtain ⟨m', hm, rfl⟩ := h
      exact ⟨⟨k, hk, hq _ (List.mem_cons_self)⟩, recP_from r (i + 1) m' hm fun q hq' => hq q (List.mem_cons_of_mem _ hq')⟩
/-- What a fact that is of no union says of its places. -/
theorem one_stands {g : List GN} (hc : checkP g = 0) {R : Nat → Nat → Prop} {a b : Nat} {ws : List Int} (ha : a < g.length) (hb : b < g.length) (h8 : (nd g a).f0 ≠ 8) (hf : Fok g a b ws) (h2 : (byP g ⟨a, b, ws⟩).2 = true) (hq : ∀ q ∈ (byP g ⟨a, b, ws⟩).1, R q.1.toNat q.2.toNat) :
    (∃ y ∈ membersP g b, Does false R (nd g a) (nd g y)) ∨ ((nd g a).f0 = 9 ∧ R (at_ (nd g a).f4 0) b) := by
  rcases hf with h | ⟨h9, hl, hm1⟩ | ⟨k, m, hl, hk, hkl, hm, hml⟩
  · exact absurd h h8
  · right
    have hby : byP g ⟨a, b, ws⟩ = ([((nd g a).f4.getD 0 0, (b : Int))], true) := by
      unfold byP
      dsimp only
      rw [if_neg h8]
      exact if_pos ⟨h9, hm1⟩
    rw [hby] at hq
    exact ⟨h9, by have := hq _ (List.mem_cons_self); exact this⟩
  · left
    have hcn : chosenN g ⟨a, b, ws⟩ = nd g m := by
      show nd g ((membersP g b).getD (ws.getD 0 0).toNat 0) = _
      rw [hk, Int.toNat_natCast, hm]
    have hmem : (m : Int) ∈ membersP g b := by
      rw [← hm, List.getD_eq_getElem?_getD, List.getElem?_eq_getElem hkl]
      exact List.getElem_mem hkl
    refine ⟨m, hmem, ?_⟩
    have hn9 : ¬ ((nd g a).f0 = 9 ∧ ws.getD 0 0 = -1) := fun h => by omega
    by_cases h1 : (nd g a).f0 = 1 ∨ (nd g m).f0 = 1
    · unfold Does
      rw [if_pos h1]
      intro h
      cases h
    · have hby : byP g ⟨a, b, ws⟩ = plainP (nd g a) (nd g m) := by
        unfold byP
        dsimp only
        rw [if_neg h8, if_neg hn9, hcn, if_neg h1]
      rw [hby] at h2 hq
      unfold plainP at h2 hq
      by_cases hs : (nd g a).f0 = (nd g m).f0 ∧ (nd g a).f2 = (nd g m).f2 ∧ (nd g a).f1 = (nd g m).f1
      · rw [if_pos hs] at h2 hq
        unfold Does
        rw [if_neg h1]
        refine ⟨hs.1, fun _ => by rw [hs.2.1], fun h7 => ?_, fun h9 => ⟨hs.2.2, ?_⟩⟩
        · rw [if_neg (by omega)] at h2 hq
          cases hr : recP (nd g a) (nd g m) (nd g m).f3 0 with
          | none => rw [hr] at h2; cases h2
          | some l =>
            rw [hr] at hq
            exact recP_from _ _ l hr hq
        · rw [if_pos h9] at hq
          exact hq _ (List.mem_cons_self)
      · rw [if_neg hs] at h2
        cases h2
theorem firstP_neg {g : List GN} {l : List FC} (h : firstP g l = (-1, 0)) : checkFP g l = 0 ∧ ∀ f ∈ l, holdsP g l f = true := by
  unfold firstP at h
  split at h
  · rename_i hc
    have := congrArg Prod.fst h
    simp at this
  · rename_i hc
    refine ⟨by simpa using hc, fun f hf => ?_⟩
    cases hi : l.findIdx? (fun f => !holdsP g l f) with
    | none =>
      rw [List.findIdx?_eq_none_iff] at hi
      simpa using hi f hf
    | some k =>
      rw [hi] at h
      have := congrArg Prod.fst h
      simp at this
/-- What a fact that holds goes on to. -/
theorem holds_on {g : List GN} {l : List FC} {f : FC} (hh : holdsP g l f = true) (hin : (onP g f).all (inP l.length) = true) : (byP g f).2 = true ∧ ∀ q ∈ (byP g f).1, ∃ f' ∈ l, (f'.f0, f'.f1) = q := by
  unfold holdsP at hh
  rw [Bool.and_eq_true, decide_eq_true_eq] at hh
  refine ⟨hh.1, fun q hq => ?_⟩
  rw [← hh.2] at hq
  obtain ⟨k, hk, rfl⟩ := List.mem_map.1 hq
  have := inP_iff.1 (List.all_eq_true.1 hin k hk)
  refine ⟨l.getD k.toNat zF, ?_, rfl⟩
  rw [List.getD_eq_getElem?_getD, List.getElem?_eq_getElem (show k.toNat < l.length by omega)]
  exact List.getElem_mem _
/-- Facts that hold are sound. -/
theorem sound {g : List GN} {l : List FC} (h : firstP g l = (-1, 0)) : ∀ f ∈ l, (0 ≤ f.f0 ∧ f.f0 < g.length ∧ 0 ≤ f.f1 ∧ f.f1 < g.length) ∧ Sub false g f.f0.toNat f.f1.toNat := by
  obtain ⟨h1, h2⟩ := firstP_neg h
  obtain ⟨hc, _, hfrm⟩ := checkFP_ok h1
  have key : ∀ f ∈ l, ∃ a b : Nat, ∃ ws, f = ⟨a, b, ws⟩ ∧ a < g.length ∧ b < g.length ∧ Fok g a b ws ∧ (byP g ⟨a, b, ws⟩).2 = true ∧ ∀ q ∈ (byP g ⟨a, b, ws⟩).1, ∃ f' ∈ l, (f'.f0, f'.f1) = q := by
    intro f hf
    obtain ⟨a, ha, hal, hb, hfo, hon, _⟩ := frm_ok hc (hfrm f hf)
    obtain ⟨A, B, ws⟩ := f
    dsimp only at ha hb hfo hon
    subst ha
    obtain ⟨b, rfl⟩ := Int.eq_ofNat_of_zero_le hb.1
    obtain ⟨k1, k2⟩ := holds_on (h2 _ hf) hon
    exact ⟨a, b, ws, rfl, hal, by omega, hfo, k1, k2⟩
  have post : ∀ x y, (∃ f ∈ l, f.f0.toNat = x ∧ f.f1.toNat = y) → Stands false g (fun x y => ∃ f ∈ l, f.f0.toNat = x ∧ f.f1.toNat = y) x y := by
    rintro x y ⟨f, hf, rfl, rfl⟩
    obtain ⟨a, b, ws, rfl, ha, hb, hfo, k1, k2⟩ := key f hf
    dsimp only
    rw [Int.toNat_natCast, Int.toNat_natCast]
    have hq : ∀ q ∈ (byP g ⟨a, b, ws⟩).1, ∃ f ∈ l, f.f0.toNat = q.1.toNat ∧ f.f1.toNat = q.2.toNat := fun q hq => by
      obtain ⟨f', hf', e⟩ := k2 q hq
      subst e
      exact ⟨f', hf', rfl, rfl⟩
    by_cases h8 : (nd g a).f0 = 8
    · intro s hs
      rw [members_union (by omega) (by omega) h8] at hs
      have hby : byP g ⟨a, b, ws⟩ = ((nd g a).f4.map fun m => (m, (b : Int)), true) := if_pos h8
      rw [hby] at k2
      obtain ⟨f', hf', e⟩ := k2 (s, b) (List.mem_map.2 ⟨s, hs, rfl⟩)
      obtain ⟨a', b', ws', rfl, ha', hb', hfo', k1', k2'⟩ := key f' hf'
      dsimp only at e
      obtain rfl : (a' : Int) = s := congrArg Prod.fst e
      obtain rfl : b' = b := by have := congrArg Prod.snd e; dsimp only at this; omega
      have h8' : (nd g a').f0 ≠ 8 := ((check_ok hc).2 _ (nd_mem (g := g) (k := (a : Int)) (by omega) (by omega))).union h8 _ hs
      exact one_stands hc ha' hb' h8' hfo' k1' fun q hq => by
        obtain ⟨f'', hf'', e⟩ := k2' q hq
        subst e
        exact ⟨f'', hf'', rfl, rfl⟩
    · intro s hs
      rw [members_self (by omega) (by omega) h8] at hs
      simp at hs
      subst hs
      exact one_stands hc ha hb h8 hfo k1 hq
  intro f hf
  obtain ⟨a, b, ws, rfl, ha, hb, hfo, k1, k2⟩ := key f hf
  dsimp only
  refine ⟨by omega, Sub.of_post post ⟨_, hf, ?_, ?_⟩⟩ <;> rfl
theorem has_of {g : List GN} {l : List FC} (h : checkFP g l = 0) {k : Int} (h0 : 0 ≤ k) (h1 : k < l.length) : hasFP g l k = true := by
  unfold hasFP
  rw [decide_eq_true h, inP_iff.2 ⟨h0, h1⟩]
  rfl
theorem casts_none {g : List GN} {l : List FC} {k : Int} (h : ∀ n : Int, 0 ≤ n → n < g.length → (nd g n).f0 ≠ 1) (hl : ∀ f ∈ l, 0 ≤ f.f0 ∧ f.f0 < g.length) : castsP g l k = false := by
  cases hh : castsP g l k with
  | false => rfl
  | true =>
    obtain ⟨_, i, _, f, hf, hcb⟩ := castsP_iff.1 hh
    unfold castB dynP at hcb
    rw [Bool.and_eq_true, decide_eq_true_eq] at hcb
    have hm := List.mem_of_getElem? hf
    exact absurd hcb.1 (h _ (hl f hm).1 (hl f hm).2)
theorem casts_on {g : List GN} {l : List FC} {k j : Int} {f : FC} (hk : hasFP g l k = true) (hf : l[k.toNat]? = some f) (hj : j ∈ onP g f) (hn : castsP g l k = false) : castsP g l j = false := by
  cases hh : castsP g l j with
  | false => rfl
  | true =>
    obtain ⟨_, i, hr, hc⟩ := castsP_iff.1 hh
    have : castsP g l k = true := castsP_iff.2 ⟨hk, i, rch_trans (.step _ _ .refl ⟨f, hf, hj⟩) hr, hc⟩
    rw [hn] at this
    cases this
theorem casts_dyn {g : List GN} {l : List FC} {k : Int} {f : FC} (hk : hasFP g l k = true) (hf : l[k.toNat]? = some f) (hd : (nd g f.f0).f0 = 1) (hon : onP g f = []) : castsP g l k = !(membersP g f.f1).any (dynP g) := by
  cases hany : (membersP g f.f1).any (dynP g) with
  | false =>
    exact castsP_iff.2 ⟨hk, k, .refl, f, hf, by unfold castB dynP at *; rw [decide_eq_true hd, hany]; rfl⟩
  | true =>
    cases hh : castsP g l k with
    | false => rfl
    | true =>
      exfalso
      obtain ⟨_, i, hr, f', hf', hc⟩ := castsP_iff.1 hh
      have hik : i = k := by
        clear hf' hc
        induction hr with
        | refl => rfl
        | step i j _ he ih =>
          obtain ⟨f2, hf2, hj⟩ := he
          rw [ih, hf] at hf2
          cases hf2
          rw [hon] at hj
          cases hj
      rw [hik, hf] at hf'
      cases hf'
      unfold castB at hc
      rw [hany] at hc
      simp at hc
/-- A fact of a TDyn that is found goes on to none. -/
theorem done_dyn {g : List GN} {l : List FC} {f : FC} (hc : checkP g = 0) (h : Done g l f) (hd : (nd g f.f0).f0 = 1) : onP g f = [] := by
  have ht := h.tgt
  have hby : byP g (mk0 (pickN g) g (f.f0, f.f1)) = ([], true) := by
    unfold byP mk0
    dsimp only
    rw [if_neg (by omega), if_neg (by omega), if_pos (.inl hd)]
  rw [hby] at ht
  exact List.map_eq_nil_iff.1 ht
theorem firstP_rng {g : List GN} {l : List FC} (h : (firstP g l).2 = 0) : checkFP g l = 0 ∧ (-1 ≤ (firstP g l).1 ∧ (firstP g l).1 < l.length) ∧ (∀ n : Nat, n < l.length → ((firstP g l).1 = -1 ∨ (n : Int) < (firstP g l).1) → holdsAtP g l n = true) ∧ (0 ≤ (firstP g l).1 → holdsAtP g l (firstP g l).1 = false) := by
  unfold firstP at h ⊢
  by_cases hc : checkFP g l = 0
  · rw [if_neg (by simp [hc])]
    refine ⟨hc, ?_⟩
    dsimp only
    have hat : ∀ n : Nat, ∀ hn : n < l.length, holdsAtP g l n = holdsP g l l[n] := fun n hn => by
      unfold holdsAtP
      rw [has_of hc (Int.natCast_nonneg _) (by omega), Int.toNat_natCast, List.getD_eq_getElem?_getD, List.getElem?_eq_getElem hn]
      rfl
    cases hi : l.findIdx? (fun f => !holdsP g l f) with
    | none =>
      dsimp only
      rw [List.findIdx?_eq_none_iff] at hi
      refine ⟨by omega, fun n hn _ => ?_, fun h => by omega⟩
      rw [hat n hn]
      simpa using hi _ (List.getElem_mem hn)
    | some k =>
      dsimp only
      rw [List.findIdx?_eq_some_iff_getElem] at hi
      obtain ⟨hk, h1, h2⟩ := hi
      refine ⟨by omega, fun n hn hlt => ?_, fun _ => ?_⟩
      · rw [hat n hn]
        have hnk : n < k := by omega
        have := h2 n hnk
        simpa using this
      · rw [hat k hk]
        simpa using h1
  · rw [if_pos hc] at h
    exact absurd h hc
theorem firstP_bad {g : List GN} {l : List FC} (hc : checkP g = 0) (hl : l.length ≤ 8000) (h : (firstP g l).2 ≠ 0) : (firstP g l).2 = 2 ∧ ∀ k, holdsAtP g l k = false := by
  unfold firstP at h ⊢
  by_cases hk : checkFP g l = 0
  · rw [if_neg (by simp [hk])] at h
    exact absurd rfl h
  · rw [if_pos hk]
    refine ⟨?_, fun k => ?_⟩
    · show checkFP g l = 2
      unfold checkFP at hk ⊢
      rw [if_neg (by simp [hc]), if_neg (by omega)] at hk ⊢
      split
      · rename_i hall
        rw [if_pos hall] at hk
        exact absurd rfl hk
      · rfl
    · unfold holdsAtP hasFP
      rw [decide_eq_false hk]
      rfl
end Go.Proofs.YthkoockcfnbpiaaDoor.F4

/- What the solver's steps are good for: plain law, no program. -/
import Derived.Test.YtgppcpghpeenhaaDoorProg
import Derived.Test.YtgppcpghpeenhaaDoorWWords
import Derived.Test.YtgppcpghpeenhaaDoorWLast
import Derived.Test.YtgppcpghpeenhaaDoorS6
namespace Go.Proofs.YtgppcpghpeenhaaDoor.S7
open Go.RowKit Go.Proofs.YtgppcpghpeenhaaDoor G1 G2 S0 S1 S2 S3 S4 S5 S6
set_option linter.unusedVariables false
set_option linter.unusedSimpArgs false
/-- f' knows what f does, and some more pairs, taken for granted. -/
def Ext (f f' : F2) : Prop := ∀ a b, f' a b = f a b ∨ (f a b = none ∧ f' a b = some true)
/-- f' knows what f does, but for what was taken away, and maybe more. -/
def Le (f f' : F2) : Prop := ∀ a b v, f a b = some v → ∃ v', f' a b = some v' ∧ (v' = true → v = true)
def Ps (f : F2) (a b : Nat) : Prop := f a b = some true
def Nz (f : F2) (a b : Nat) : Prop := f a b ≠ some false
theorem Ext.refl (f : F2) : Ext f f := fun _ _ => .inl rfl
theorem Ext.trans {f g h : F2} (h1 : Ext f g) (h2 : Ext g h) : Ext f h := fun a b => by
  rcases h1 a b with e | ⟨e1, e2⟩ <;> rcases h2 a b with e' | ⟨e1', e2'⟩
  · exact .inl (e'.trans e)
  · exact .inr ⟨by rw [← e]; exact e1', e2'⟩
  · exact .inr ⟨e1, by rw [e', e2]⟩
  · rw [e2] at e1'; cases e1'
theorem Ext.anti {f g : F2} (h1 : Ext f g) (h2 : Ext g f) : f = g := by
  funext a b
  rcases h1 a b with e | ⟨e1, e2⟩
  · exact e.symm
  · rcases h2 a b with e' | ⟨e1', _⟩
    · exact e'
    · rw [e2] at e1'; cases e1'
theorem Ext.some {f g : F2} (h : Ext f g) {a b : Nat} {v : Bool} (e : f a b = some v) : g a b = some v := by
  rcases h a b with e' | ⟨e1, _⟩
  · exact e'.trans e
  · rw [e] at e1; cases e1
theorem Ext.le {f g : F2} (h : Ext f g) : Le f g := fun a b v e => ⟨v, h.some e, id⟩
theorem Le.refl (f : F2) : Le f f := fun a b v e => ⟨v, e, id⟩
theorem Le.trans {f g h : F2} (h1 : Le f g) (h2 : Le g h) : Le f h := fun a b v e => by
  obtain ⟨v1, e1, i1⟩ := h1 a b v e
  obtain ⟨v2, e2, i2⟩ := h2 a b v1 e1
  exact ⟨v2, e2, fun h => i1 (i2 h)⟩
theorem Ext.ps {f g : F2} (h : Ext f g) {a b : Nat} (e : Ps f a b) : Ps g a b := h.some e
theorem Ext.nz' {f g : F2} (h : Ext f g) {a b : Nat} (e : Nz f a b) : Nz g a b := fun e' => by
  rcases h a b with h1 | ⟨_, h2⟩
  · exact e (h1.symm.trans e')
  · rw [h2] at e'; cases e'
theorem le_put {f : F2} {a b : Nat} (h : f a b = some true) : Le f (f.put a b false) := fun x y v e => by
  by_cases hxy : x = a ∧ y = b
  · obtain ⟨rfl, rfl⟩ := hxy
    exact ⟨false, put_same _ _ _ _, fun h => by cases h⟩
  · exact ⟨v, by rw [put_other _ _ _ _ hxy]; exact e, id⟩
/-- An evaluation that takes pairs for granted on its way. -/
structure Ev (X : F2 → Bool × F2) (P : (Nat → Nat → Prop) → Prop) : Prop where
  mono : ∀ R R' : Nat → Nat → Prop, (∀ a b, R a b → R' a b) → P R → P R'
  ext : ∀ f, Ext f (X f).2
  again : ∀ f f2, Ext (X f).2 f2 → X f2 = ((X f).1, f2)
  yes : ∀ f, (X f).1 = true → P (Ps (X f).2)
  no : ∀ f, (X f).1 = false → ¬ P (Nz f)
  low : ∀ f f2 r, X f = (r, f) → Le f f2 → ∃ r2, X f2 = (r2, f2) ∧ (r2 = true → r = true)
theorem Ev.const (v : Bool) (P0 : Prop) (h : v = true ↔ P0) : Ev (fun f => (v, f)) (fun _ => P0) :=
  ⟨fun _ _ _ h => h, fun f => Ext.refl f, fun _ _ _ => rfl, fun _ e => h.1 e, fun f e hp => (by have h1 := h.2 hp; rw [h1] at e; cases e), fun f f2 r e hl => ⟨v, rfl, fun h => (by have h1 : v = r := congrArg Prod.fst e; rw [← h1]; exact h)⟩⟩
theorem Ev.granted (a b : Nat) : Ev (fun f => grantedF f a b) (fun R => R a b) := by
  refine ⟨fun _ _ h => h a b, fun f => ?_, fun f f2 h => ?_, fun f h => ?_, fun f h => ?_, fun f f2 r h hl => ?_⟩
  · unfold grantedF
    cases hf : f a b with
    | some v => exact Ext.refl f
    | none =>
      intro x y
      by_cases hxy : x = a ∧ y = b
      · obtain ⟨rfl, rfl⟩ := hxy
        exact .inr ⟨hf, put_same _ _ _ _⟩
      · exact .inl (put_other _ _ _ _ hxy)
  · cases hf : f a b with
    | some v =>
      have e : grantedF f a b = (v, f) := by unfold grantedF; rw [hf]
      try dsimp only at h ⊢
      rw [e] at h ⊢
      have := h.some hf
      unfold grantedF
      rw [this]
    | none =>
      have e : grantedF f a b = (true, f.put a b true) := by unfold grantedF; rw [hf]
      try dsimp only at h ⊢
      rw [e] at h ⊢
      have := h.some (put_same f a b true)
      unfold grantedF
      rw [this]
  · cases hf : f a b with
    | some v =>
      have e : grantedF f a b = (v, f) := by unfold grantedF; rw [hf]
      try dsimp only at h ⊢
      rw [e] at h ⊢
      try dsimp only at h
      rw [h] at hf
      exact hf
    | none =>
      have e : grantedF f a b = (true, f.put a b true) := by unfold grantedF; rw [hf]
      try dsimp only
      rw [e]
      exact put_same f a b true
  · cases hf : f a b with
    | some v =>
      have e : grantedF f a b = (v, f) := by unfold grantedF; rw [hf]
      try dsimp only at h
      rw [e] at h
      try dsimp only at h
      rw [h] at hf
      exact fun hn => hn hf
    | none =>
      have e : grantedF f a b = (true, f.put a b true) := by unfold grantedF; rw [hf]
      try dsimp only at h
      rw [e] at h
      cases h
  · cases hf : f a b with
    | some v =>
      have e : grantedF f a b = (v, f) := by unfold grantedF; rw [hf]
      try dsimp only at h
      rw [e] at h
      obtain ⟨v2, h2, h3⟩ := hl a b v hf
      refine ⟨v2, by unfold grantedF; rw [h2], ?_⟩
      have := congrArg Prod.fst h
      try dsimp only at this
      rw [← this]
      exact h3
    | none =>
      have e : grantedF f a b = (true, f.put a b true) := by unfold grantedF; rw [hf]
      try dsimp only at h
      rw [e] at h
      have := congrArg Prod.snd h
      try dsimp only at this
      rw [← this, put_same] at hf
      cases hf
theorem Ev.and {X Y : F2 → Bool × F2} {P Q : (Nat → Nat → Prop) → Prop} (hX : Ev X P) (hY : Ev Y Q) : Ev (fun f => if (X f).1 then Y (X f).2 else (false, (X f).2)) (fun R => P R ∧ Q R) := by
  refine ⟨fun R R' h hp => ⟨hX.mono R R' h hp.1, hY.mono R R' h hp.2⟩, fun f => ?_, fun f f2 h => ?_, fun f h => ?_, fun f h => ?_, fun f f2 r h hl => ?_⟩
  · try dsimp only
    split
    · exact (hX.ext f).trans (hY.ext _)
    · exact hX.ext f
  · try dsimp only at h ⊢
    cases hx : (X f).1 with
    | true =>
      rw [hx] at h
      simp only [if_true] at h ⊢
      have h1 := hX.again f f2 ((hY.ext _).trans h)
      rw [h1]
      try dsimp only
      rw [hx, if_pos rfl]
      exact hY.again _ _ h
    | false =>
      rw [hx] at h
      simp only [Bool.false_eq_true, if_false] at h ⊢
      have h1 := hX.again f f2 h
      rw [h1]
      try dsimp only
      rw [hx]
      rfl
  · try dsimp only at h ⊢
    cases hx : (X f).1 with
    | true =>
      rw [hx] at h
      simp only [if_true] at h ⊢
      exact ⟨hX.mono _ _ (fun a b e => (hY.ext _).ps e) (hX.yes f hx), hY.yes _ h⟩
    | false =>
      rw [hx] at h
      simp at h
  · try dsimp only at h
    cases hx : (X f).1 with
    | true =>
      rw [hx] at h
      simp only [if_true] at h
      exact fun hp => hY.no _ h (hY.mono _ _ (fun a b e => (hX.ext f).nz' e) hp.2)
    | false => exact fun hp => hX.no f hx hp.1
  · try dsimp only at h ⊢
    cases hx : (X f).1 with
    | true =>
      rw [hx] at h
      simp only [if_true] at h
      have h2 : (X f).2 = f := Ext.anti (by have := hY.ext (X f).2; rw [h] at this; exact this) (hX.ext f)
      rw [h2] at h
      obtain ⟨r2, e2, i2⟩ := hX.low f f2 true (Prod.ext hx h2) hl
      rw [e2]
      try dsimp only
      cases r2 with
      | false => exact ⟨false, rfl, fun h => by cases h⟩
      | true => exact hY.low f f2 r h hl
    | false =>
      rw [hx] at h
      simp only [Bool.false_eq_true, if_false] at h
      have h2 : (X f).2 = f := congrArg Prod.snd h
      obtain ⟨r2, e2, i2⟩ := hX.low f f2 false (Prod.ext hx h2) hl
      rw [e2]
      cases r2 with
      | false => exact ⟨false, rfl, fun h => by cases h⟩
      | true => cases i2 rfl
theorem Ev.congr {X Y : F2 → Bool × F2} {P Q : (Nat → Nat → Prop) → Prop} (hX : Ev X P) (h1 : ∀ f, Y f = X f) (h2 : ∀ R, Q R ↔ P R) : Ev Y Q := by
  obtain rfl : Y = X := funext h1
  obtain rfl : Q = P := funext fun R => propext (h2 R)
  exact hX
/-- By keys. -/
def RecFrom (R : Nat → Nat → Prop) (s t : GN) : List ByteArray → Nat → Prop
  | [], _ => True
  | key :: r, i => (∃ k, idxF key s.f3 0 = some k ∧ R (at_ s.f4 k) (at_ t.f4 i)) ∧ RecFrom R s t r (i + 1)
theorem Ev.rec_ (s t : GN) : ∀ (l : List ByteArray) (i : Nat), Ev (recF s t l i) (fun R => RecFrom R s t l i)
  | [], i => (Ev.const true True (by simp)).congr (fun f => rfl) (fun R => Iff.rfl)
  | key :: r, i => by
    cases hk : idxF key s.f3 0 with
    | none =>
      refine (Ev.const false False (by simp)).congr (fun f => ?_) (fun R => ?_)
      · show recF s t (key :: r) i f = _
        unfold recF
        rw [hk]
      · show RecFrom R s t (key :: r) i ↔ False
        unfold RecFrom
        rw [hk]
        simp
    | some k =>
      refine ((Ev.granted (at_ s.f4 k) (at_ t.f4 i)).and (Ev.rec_ s t r (i + 1))).congr (fun f => ?_) (fun R => ?_)
      · show recF s t (key :: r) i f = _
        conv => lhs; unfold recF
        rw [hk]
      · show RecFrom R s t (key :: r) i ↔ _
        conv => lhs; unfold RecFrom
        rw [hk]
        simp
/-- Does t do for s? -/
def Does (st : Bool) (R : Nat → Nat → Prop) (s t : GN) : Prop :=
  if s.f0 = 1 ∨ t.f0 = 1 then st = true → s.f0 = t.f0
  else s.f0 = t.f0 ∧ (s.f0 = 5 → s.f2.toList = t.f2.toList) ∧ (s.f0 = 7 → RecFrom R s t t.f3 0) ∧ (s.f0 = 9 → s.f1 = t.f1 ∧ R (at_ s.f4 0) (at_ t.f4 0))
theorem Ev.does (st : Bool) (s t : GN) : Ev (fun f => doesF st f s t) (fun R => Does st R s t) := by
  by_cases h1 : s.f0 = 1 ∨ t.f0 = 1
  · refine (Ev.const (!st || s.f0 == t.f0) (st = true → s.f0 = t.f0) (by cases st <;> simp)).congr (fun f => ?_) (fun R => ?_)
    · exact if_pos h1
    · unfold Does; rw [if_pos h1]
  · by_cases h2 : s.f0 = t.f0
    · have hd : ∀ f, doesF st f s t = (if s.f0 = 5 then tagF f s t else if s.f0 = 7 then recF s t t.f3 0 f else if s.f0 = 9 then variableF f s t else (true, f)) := fun f => by unfold doesF; rw [if_neg h1, if_pos h2]
      have hD : ∀ R, Does st R s t ↔ ((s.f0 = 5 → s.f2.toList = t.f2.toList) ∧ (s.f0 = 7 → RecFrom R s t t.f3 0) ∧ (s.f0 = 9 → s.f1 = t.f1 ∧ R (at_ s.f4 0) (at_ t.f4 0))) := fun R => by unfold Does; rw [if_neg h1]; simp [h2]
      by_cases h5 : s.f0 = 5
      · refine (Ev.const (s.f2.toList == t.f2.toList) (s.f2.toList = t.f2.toList) (by simp)).congr (fun f => ?_) (fun R => ?_)
        · show doesF st f s t = _
          rw [hd, if_pos h5]; rfl
        · rw [hD]; simp [h5]
      · by_cases h7 : s.f0 = 7
        · refine (Ev.rec_ s t t.f3 0).congr (fun f => ?_) (fun R => ?_)
          · show doesF st f s t = _
            rw [hd, if_neg h5, if_pos h7]
          · rw [hD]; simp [h7]
        · by_cases h9 : s.f0 = 9
          · by_cases hn : s.f1 = t.f1
            · refine (Ev.granted (at_ s.f4 0) (at_ t.f4 0)).congr (fun f => ?_) (fun R => ?_)
              · show doesF st f s t = _
                rw [hd, if_neg h5, if_neg h7, if_pos h9]
                unfold variableF
                rw [if_pos hn]
              · rw [hD]; simp [h9, hn]
            · refine (Ev.const false False (by simp)).congr (fun f => ?_) (fun R => ?_)
              · show doesF st f s t = _
                rw [hd, if_neg h5, if_neg h7, if_pos h9]
                unfold variableF
                rw [if_neg hn]
              · rw [hD]; simp [h9, hn]
          · refine (Ev.const true True (by simp)).congr (fun f => ?_) (fun R => ?_)
            · show doesF st f s t = _
              rw [hd, if_neg h5, if_neg h7, if_neg h9]
            · rw [hD]; simp [h5, h7, h9]
    · refine (Ev.const false False (by simp)).congr (fun f => ?_) (fun R => ?_)
      · show doesF st f s t = _
        unfold doesF
        rw [if_neg h1, if_neg h2]
      · unfold Does
        rw [if_neg h1]
        simp [h2]
theorem pickL_ext (st : Bool) (g : List GN) (s : GN) : ∀ (l : List Int) (i : Nat) (f : F2), Ext f (pickL st g s l i f).2
  | [], _, f => Ext.refl f
  | k :: r, i, f => by
    unfold pickL
    split
    · exact (Ev.does st s (nd g k)).ext f
    · exact ((Ev.does st s (nd g k)).ext f).trans (pickL_ext st g s r (i + 1) _)
theorem pickL_again (st : Bool) (g : List GN) (s : GN) : ∀ (l : List Int) (i : Nat) (f f2 : F2), Ext (pickL st g s l i f).2 f2 → pickL st g s l i f2 = ((pickL st g s l i f).1, f2)
  | [], _, f, f2, _ => rfl
  | k :: r, i, f, f2, h => by
    have hE := Ev.does st s (nd g k)
    unfold pickL at h ⊢
    by_cases hd : (doesF st f s (nd g k)).1 = true
    · rw [if_pos hd] at h ⊢
      have h1 : doesF st f2 s (nd g k) = _ := hE.again f f2 h
      rw [h1]
      dsimp only
      rw [if_pos hd]
    · rw [if_neg hd] at h ⊢
      have h1 : doesF st f2 s (nd g k) = _ := hE.again f f2 ((pickL_ext st g s r (i + 1) _).trans h)
      rw [h1]
      dsimp only
      rw [if_neg hd]
      exact pickL_again st g s r (i + 1) _ f2 h
theorem pickL_spec (st : Bool) (g : List GN) (s : GN) : ∀ (l : List Int) (i : Nat) (f : F2),
    ((pickL st g s l i f).1 = -2 ∧ ∀ y ∈ l, ¬ Does st (Nz f) s (nd g y)) ∨
    ∃ j, ∃ _ : j < l.length, (pickL st g s l i f).1 = (i : Int) + j ∧ Does st (Ps (pickL st g s l i f).2) s (nd g l[j]) ∧ ∀ j', j' < j → ∀ y, l[j']? = some y → ¬ Does st (Nz f) s (nd g y)
  | [], _, f => .inl ⟨rfl, fun y hy => by simp at hy⟩
  | k :: r, i, f => by
    have hE := Ev.does st s (nd g k)
    unfold pickL
    by_cases hd : (doesF st f s (nd g k)).1 = true
    · rw [if_pos hd]
      exact .inr ⟨0, by simp, by simp, hE.yes f hd, fun j' h => by omega⟩
    · rw [if_neg hd]
      have hn : ¬ Does st (Nz f) s (nd g k) := hE.no f (by cases h : (doesF st f s (nd g k)).1 with | true => exact absurd h hd | false => rfl)
      have hz : ∀ y, ¬ Does st (Nz (doesF st f s (nd g k)).2) s (nd g y) → ¬ Does st (Nz f) s (nd g y) := fun y h h2 => h ((Ev.does st s (nd g y)).mono _ _ (fun a b e => (hE.ext f).nz' e) h2)
      rcases pickL_spec st g s r (i + 1) (doesF st f s (nd g k)).2 with ⟨h1, h2⟩ | ⟨j, hj, h1, h2, h3⟩
      · refine .inl ⟨h1, fun y hy => ?_⟩
        rcases List.mem_cons.1 hy with rfl | hy
        · exact hn
        · exact hz y (h2 y hy)
      · refine .inr ⟨j + 1, by simp; omega, by omega, by simpa using h2, fun j' hj' y hy => ?_⟩
        rcases j' with _ | j'
        · simp at hy
          rw [← hy]
          exact hn
        · exact hz y (h3 j' (by omega) y (by simpa using hy))
theorem pickL_neg (st : Bool) (g : List GN) (s : GN) : ∀ (l : List Int) (i : Nat) (f f2 : F2), pickL st g s l i f = (-2, f) → Le f f2 → pickL st g s l i f2 = (-2, f2)
  | [], _, f, f2, _, _ => rfl
  | k :: r, i, f, f2, h, hl => by
    have hE := Ev.does st s (nd g k)
    unfold pickL at h ⊢
    by_cases hd : (doesF st f s (nd g k)).1 = true
    · rw [if_pos hd] at h
      have := congrArg Prod.fst h
      try dsimp only at this
      omega
    · rw [if_neg hd] at h
      have h2 : (doesF st f s (nd g k)).2 = f := Ext.anti (by have := pickL_ext st g s r (i + 1) (doesF st f s (nd g k)).2; rw [h] at this; exact this) (hE.ext f)
      rw [h2] at h
      have hf : (doesF st f s (nd g k)).1 = false := by cases h : (doesF st f s (nd g k)).1 with | true => exact absurd h hd | false => rfl
      obtain ⟨r2, e2, i2⟩ := hE.low f f2 false (Prod.ext hf h2) hl
      cases r2 with
      | true => cases i2 rfl
      | false =>
        try dsimp only at e2
        rw [e2, if_neg (by simp)]
        exact pickL_neg st g s r (i + 1) f f2 h hl
theorem boundF_ext (s : GN) (b : Nat) (f : F2) : Ext f (boundF s b f).2 := by
  unfold boundF
  split
  · exact (Ev.granted _ _).ext f
  · exact Ext.refl f
theorem boundF_again (s : GN) (b : Nat) (f f2 : F2) (h : Ext (boundF s b f).2 f2) : boundF s b f2 = ((boundF s b f).1, f2) := by
  unfold boundF at h ⊢
  split
  · rename_i h9
    rw [if_pos h9] at h
    have h1 : grantedF f2 _ _ = _ := (Ev.granted (at_ s.f4 0) b).again f f2 h
    rw [h1]
  · rfl
theorem boundF_neg (s : GN) (b : Nat) (f f2 : F2) (h : boundF s b f = (-2, f)) (hl : Le f f2) : boundF s b f2 = (-2, f2) := by
  unfold boundF at h ⊢
  split
  · rename_i h9
    rw [if_pos h9] at h
    have h1 := congrArg Prod.fst h
    have h2 := congrArg Prod.snd h
    dsimp only at h1 h2
    have h3 : (grantedF f (at_ s.f4 0) b).1 = false := by cases hh : (grantedF f (at_ s.f4 0) b).1 with | true => rw [hh] at h1; simp at h1 | false => rfl
    obtain ⟨r2, e2, i2⟩ := (Ev.granted (at_ s.f4 0) b).low f f2 false (Prod.ext h3 h2) hl
    cases r2 with
    | true => cases i2 rfl
    | false => rw [e2]; rfl
  · rfl
theorem pickF_ext (st : Bool) (g : List GN) (f : F2) (a : Int) (b : Nat) : Ext f (pickF st g f a b).2 := by
  unfold pickF
  split
  · exact (pickL_ext st g _ _ 0 f).trans (boundF_ext _ _ _)
  · exact pickL_ext st g _ _ 0 f
theorem pickF_again (st : Bool) (g : List GN) (f f2 : F2) (a : Int) (b : Nat) (h : Ext (pickF st g f a b).2 f2) : pickF st g f2 a b = ((pickF st g f a b).1, f2) := by
  unfold pickF at h ⊢
  by_cases hp : (pickL st g (nd g a) (membersP g b) 0 f).1 = -2
  · rw [if_pos hp] at h ⊢
    rw [pickL_again st g _ _ 0 f f2 ((boundF_ext _ _ _).trans h)]
    dsimp only
    rw [if_pos hp]
    exact boundF_again _ _ _ f2 h
  · rw [if_neg hp] at h ⊢
    rw [pickL_again st g _ _ 0 f f2 h]
    dsimp only
    rw [if_neg hp]
theorem pickF_neg (st : Bool) (g : List GN) (f f2 : F2) (a : Int) (b : Nat) (h : pickF st g f a b = (-2, f)) (hl : Le f f2) : pickF st g f2 a b = (-2, f2) := by
  unfold pickF at h ⊢
  by_cases hp : (pickL st g (nd g a) (membersP g b) 0 f).1 = -2
  · rw [if_pos hp] at h
    have h2 : (pickL st g (nd g a) (membersP g b) 0 f).2 = f := Ext.anti (by have := boundF_ext (nd g a) b (pickL st g (nd g a) (membersP g b) 0 f).2; rw [h] at this; exact this) (pickL_ext _ _ _ _ _ _)
    rw [h2] at h
    rw [pickL_neg st g _ _ 0 f f2 (Prod.ext hp h2) hl]
    exact boundF_neg _ _ f f2 h hl
  · rw [if_neg hp] at h
    exact absurd (congrArg Prod.fst h) hp
/-- What a pick says. -/
def Picks (st : Bool) (g : List GN) (R R' : Nat → Nat → Prop) (a : Int) (b : Nat) (k : Int) : Prop :=
  (k = -2 ∧ (∀ y ∈ membersP g b, ¬ Does st R' (nd g a) (nd g y)) ∧ ¬ ((nd g a).f0 = 9 ∧ R' (at_ (nd g a).f4 0) b)) ∨
  (k = -1 ∧ (∀ y ∈ membersP g b, ¬ Does st R' (nd g a) (nd g y)) ∧ (nd g a).f0 = 9 ∧ R (at_ (nd g a).f4 0) b) ∨
  ∃ j, ∃ _ : j < (membersP g b).length, k = (j : Int) ∧ Does st R (nd g a) (nd g (membersP g b)[j]) ∧ ∀ j', j' < j → ∀ y, (membersP g b)[j']? = some y → ¬ Does st R' (nd g a) (nd g y)
theorem pickF_spec (st : Bool) (g : List GN) (f : F2) (a : Int) (b : Nat) : Picks st g (Ps (pickF st g f a b).2) (Nz f) a b (pickF st g f a b).1 := by
  unfold pickF
  rcases pickL_spec st g (nd g a) (membersP g b) 0 f with ⟨h1, h2⟩ | ⟨j, hj, h1, h2, h3⟩
  · rw [if_pos h1]
    unfold boundF
    by_cases h9 : (nd g a).f0 = 9
    · rw [if_pos h9]
      have hE := Ev.granted (at_ (nd g a).f4 0) b
      cases hh : (grantedF (pickL st g (nd g a) (membersP g b) 0 f).2 (at_ (nd g a).f4 0) b).1 with
      | true => exact .inr (.inl ⟨rfl, h2, h9, hE.yes _ hh⟩)
      | false => exact .inl ⟨rfl, h2, fun hb => hE.no _ hh ((pickL_ext _ _ _ _ _ _).nz' hb.2)⟩
    · rw [if_neg h9]
      exact .inl ⟨rfl, h2, fun hb => h9 hb.1⟩
  · rw [if_neg (by rw [h1]; omega)]
    exact .inr (.inr ⟨j, hj, by rw [h1]; simp, h2, h3⟩)
theorem holdsL_ext (st : Bool) (g : List GN) (b : Nat) : ∀ (l : List Int) (f : F2), Ext f (holdsL st g b l f).2
  | [], f => Ext.refl f
  | s :: r, f => by
    unfold holdsL
    split
    · exact pickF_ext _ _ _ _ _
    · exact (pickF_ext _ _ _ _ _).trans (holdsL_ext st g b r _)
theorem holdsL_true (st : Bool) (g : List GN) (b : Nat) : ∀ (l : List Int) (f : F2), (holdsL st g b l f).1 = true → ∀ f2, Ext (holdsL st g b l f).2 f2 → ∀ s ∈ l, (pickF st g f2 s b).1 ≠ -2 ∧ (pickF st g f2 s b).2 = f2
  | [], f, _, f2, _, s, hs => by simp at hs
  | x :: r, f, h, f2, hf, s, hs => by
    unfold holdsL at h hf
    by_cases hp : (pickF st g f x b).1 = -2
    · rw [if_pos hp] at h
      cases h
    · rw [if_neg hp] at h hf
      rcases List.mem_cons.1 hs with rfl | hs
      · rw [pickF_again st g f f2 s b ((holdsL_ext st g b r _).trans hf)]
        exact ⟨hp, rfl⟩
      · exact holdsL_true st g b r _ h f2 hf s hs
theorem holdsL_false (st : Bool) (g : List GN) (b : Nat) : ∀ (l : List Int) (f : F2), (holdsL st g b l f).1 = false → ∃ s ∈ l, pickF st g (holdsL st g b l f).2 s b = (-2, (holdsL st g b l f).2)
  | [], f, h => by cases h
  | x :: r, f, h => by
    unfold holdsL at h ⊢
    by_cases hp : (pickF st g f x b).1 = -2
    · rw [if_pos hp] at h ⊢
      exact ⟨x, by simp, by rw [pickF_again st g f _ x b (Ext.refl _), hp]⟩
    · rw [if_neg hp] at h ⊢
      obtain ⟨s, hs, e⟩ := holdsL_false st g b r _ h
      exact ⟨s, List.mem_cons_of_mem _ hs, e⟩
/-- The rule. -/
def Stands (st : Bool) (g : List GN) (R : Nat → Nat → Prop) (a b : Nat) : Prop :=
  ∀ s ∈ membersP g a, (∃ y ∈ membersP g b, Does st R (nd g s) (nd g y)) ∨ ((nd g s).f0 = 9 ∧ R (at_ (nd g s).f4 0) b)
theorem Does.mono {st : Bool} {R R' : Nat → Nat → Prop} {s t : GN} (h : ∀ a b, R a b → R' a b) (hd : Does st R s t) : Does st R' s t := (Ev.does st s t).mono R R' h hd
theorem Stands.mono {st : Bool} {g : List GN} {R R' : Nat → Nat → Prop} {a b : Nat} (h : ∀ a b, R a b → R' a b) (hs : Stands st g R a b) : Stands st g R' a b := fun s hm => by
  rcases hs s hm with ⟨y, hy, hd⟩ | ⟨h9, hR⟩
  · exact .inl ⟨y, hy, hd.mono h⟩
  · exact .inr ⟨h9, h _ _ hR⟩
/-- May a stand for b? The greatest relation that holds by its rule. -/
def Sub (st : Bool) (g : List GN) (a b : Nat) : Prop := ∃ R : Nat → Nat → Prop, (∀ x y, R x y → Stands st g R x y) ∧ R a b
theorem Sub.post {st : Bool} {g : List GN} {a b : Nat} (h : Sub st g a b) : Stands st g (Sub st g) a b := by
  obtain ⟨R, hp, hr⟩ := h
  exact (hp a b hr).mono (fun x y e => ⟨R, hp, e⟩)
theorem Sub.of_post {st : Bool} {g : List GN} {R : Nat → Nat → Prop} (h : ∀ x y, R x y → Stands st g R x y) {a b : Nat} (hr : R a b) : Sub st g a b := ⟨R, h, hr⟩
theorem Sub.iff {st : Bool} {g : List GN} {a b : Nat} : Sub st g a b ↔ Stands st g (Sub st g) a b :=
  ⟨Sub.post, fun h => ⟨fun x y => Stands st g (Sub st g) x y, fun x y hxy => hxy.mono (fun _ _ => Sub.post), h⟩⟩
theorem stands_of_picks {st : Bool} {g : List GN} {f : F2} {a b : Nat} (h : ∀ s ∈ membersP g a, (pickF st g f s b).1 ≠ -2 ∧ (pickF st g f s b).2 = f) : Stands st g (Ps f) a b := fun s hs => by
  obtain ⟨h1, h2⟩ := h s hs
  have := pickF_spec st g f s b
  rw [h2] at this
  rcases this with ⟨e, _⟩ | ⟨_, _, h9, hR⟩ | ⟨j, hj, _, hd, _⟩
  · exact absurd e h1
  · exact .inr ⟨h9, hR⟩
  · exact .inl ⟨_, List.getElem_mem hj, hd⟩
theorem not_stands_of_pick {st : Bool} {g : List GN} {f : F2} {a b : Nat} {s : Int} (hs : s ∈ membersP g a) (h : pickF st g f s b = (-2, f)) : ¬ Stands st g (Nz f) a b := fun hst => by
  have := pickF_spec st g f s b
  rw [h] at this
  rcases this with ⟨_, h1, h2⟩ | ⟨e, _⟩ | ⟨j, _, e, _⟩
  · rcases hst s hs with ⟨y, hy, hd⟩ | hb
    · exact h1 y hy hd
    · exact h2 hb
  · simp at e
  · dsimp only at e; omega
/-- What is taken away does not hold, and is seen not to. -/
structure Inv (st : Bool) (g : List GN) (f : F2) : Prop where
  out : ∀ a b, f a b = some false → ¬ Sub st g a b
  stuck : ∀ a b, f a b = some false → ∃ s ∈ membersP g a, pickF st g f s b = (-2, f)
theorem Inv.none_ (st : Bool) (g : List GN) : Inv st g F2.none_ := ⟨fun a b h => by simp [F2.none_] at h, fun a b h => by simp [F2.none_] at h⟩
theorem Inv.ext {st : Bool} {g : List GN} {f f' : F2} (h : Inv st g f) (he : Ext f f') : Inv st g f' := by
  have hz : ∀ a b, f' a b = some false → f a b = some false := fun a b e => by
    rcases he a b with h1 | ⟨_, h1⟩
    · rw [← h1]; exact e
    · rw [h1] at e; cases e
  refine ⟨fun a b e => h.out a b (hz a b e), fun a b e => ?_⟩
  obtain ⟨s, hs, hp⟩ := h.stuck a b (hz a b e)
  exact ⟨s, hs, pickF_neg st g f f' s b hp he.le⟩
theorem Inv.sub {st : Bool} {g : List GN} {f : F2} (h : Inv st g f) {a b : Nat} (hs : Sub st g a b) : Nz f a b := fun e => h.out a b e hs
/-- A pair that does not hold is taken away. -/
theorem Inv.away {st : Bool} {g : List GN} {f : F2} (h : Inv st g f) {a b : Nat} (hk : f a b = some true) {s : Int} (hs : s ∈ membersP g a) (hp : pickF st g f s b = (-2, f)) : Inv st g (f.put a b false) := by
  have hl := le_put hk
  refine ⟨fun x y e => ?_, fun x y e => ?_⟩
  · by_cases hxy : x = a ∧ y = b
    · obtain ⟨rfl, rfl⟩ := hxy
      exact fun hsub => not_stands_of_pick hs hp (hsub.post.mono (fun _ _ e => h.sub e))
    · rw [put_other _ _ _ _ hxy] at e
      exact h.out x y e
  · by_cases hxy : x = a ∧ y = b
    · obtain ⟨rfl, rfl⟩ := hxy
      exact ⟨s, hs, pickF_neg st g f _ s y hp hl⟩
    · rw [put_other _ _ _ _ hxy] at e
      obtain ⟨s', hs', hp'⟩ := h.stuck x y e
      exact ⟨s', hs', pickF_neg st g f _ s' y hp' hl⟩
def wt : Option Bool → Nat | none => 2 | some true => 1 | some false => 0
theorem mu_eq (N : Nat) (f : F2) : mu N f = sum2 N fun a b => wt (f a b) := rfl
theorem Ext.mu {f f' : F2} (h : Ext f f') (N : Nat) : mu N f' ≤ mu N f := by
  rw [mu_eq, mu_eq]
  refine sum2_le fun a b _ _ => ?_
  rcases h a b with e | ⟨e1, e2⟩
  · rw [e]; exact Nat.le_refl _
  · rw [e1, e2]; decide
theorem Ext.card {f f' : F2} (h : Ext f f') (N : Nat) : card N f ≤ card N f' := by
  unfold S0.card
  refine sum2_le fun a b _ _ => ?_
  rcases h a b with e | ⟨e1, e2⟩
  · rw [e]; exact Nat.le_refl _
  · rw [e1, e2]; decide
theorem Ext.same {f f' : F2} (h : Ext f f') {N : Nat} (hc : S0.card N f = S0.card N f') (ho : ∀ a b, ¬ (a < N ∧ b < N) → f' a b = none) : f' = f := by
  funext a b
  by_cases hab : a < N ∧ b < N
  · have := sum2_eq (N := N) (h := fun a b => if (f a b).isSome then 1 else 0) (k := fun a b => if (f' a b).isSome then 1 else 0) (fun a b _ _ => by
      rcases h a b with e | ⟨e1, e2⟩
      · rw [e]; exact Nat.le_refl _
      · rw [e1, e2]; decide) hc a b hab.1 hab.2
    rcases h a b with e | ⟨e1, e2⟩
    · exact e
    · rw [e1, e2] at this
      simp at this
  · rcases h a b with e | ⟨e1, e2⟩
    · exact e
    · rw [ho a b hab] at e2; cases e2
theorem Ext.mu_lt {f f' : F2} (h : Ext f f') {N : Nat} (hc : S0.card N f ≠ S0.card N f') : S0.mu N f' < S0.mu N f := by
  refine Nat.lt_of_le_of_ne (h.mu N) (fun e => hc ?_)
  rw [mu_eq, mu_eq] at e
  have := sum2_eq (N := N) (h := fun a b => wt (f' a b)) (k := fun a b => wt (f a b)) (fun a b _ _ => by
    rcases h a b with e | ⟨e1, e2⟩
    · rw [e]; exact Nat.le_refl _
    · rw [e1, e2]; decide) e
  unfold S0.card
  have he : ∀ a b, a < N → b < N → (if (f a b).isSome then 1 else 0) = (if (f' a b).isSome then 1 else 0) := fun a b ha hb => by
    rcases h a b with e | ⟨e1, e2⟩
    · rw [e]
    · have := this a b ha hb
      rw [e1, e2] at this
      simp [wt] at this
  exact Nat.le_antisymm (sum2_le fun a b ha hb => Nat.le_of_eq (he a b ha hb)) (sum2_le fun a b ha hb => Nat.le_of_eq (he a b ha hb).symm)
theorem mu_away {f : F2} {N a b : Nat} (ha : a < N) (hb : b < N) (hk : f a b = some true) : mu N (f.put a b false) < mu N f := by
  have := sum2_set (N := N) (h := fun a b => wt (f a b)) (k := fun x y => wt (f.put a b false x y)) ha hb (fun x y hxy => by rw [put_other _ _ _ _ hxy])
  rw [put_same, hk] at this
  show sum2 N (fun a b => wt (f a b) |> fun z => z) > sum2 N (fun x y => wt (f.put a b false x y))
  have h0 : wt (some false) = 0 := rfl
  have h1 : wt (some true) = 1 := rfl
  rw [h0, h1] at this
  show sum2 N (fun x y => wt (f.put a b false x y)) < sum2 N (fun a b => wt (f a b))
  omega
structure Rd (st : Bool) (g : List GN) (N : Nat) (f0 : F2) (L : List (Nat × Nat)) (j : Nat) (many : Int) (f : F2) : Prop where
  inv : Inv st g f
  known : ∀ a b, f0 a b ≠ none → f a b ≠ none
  still : (many = (card N f0 : Int) ∧ Ext f0 f ∧ ∀ i, i < j → ∀ p, L[i]? = some p → f0 p.1 p.2 = some true → ∃ fi, Ext f0 fi ∧ (holdsF st g fi p.1 p.2).1 = true ∧ Ext (holdsF st g fi p.1 p.2).2 f) ∨ (many = -1 ∧ mu N f < mu N f0)
theorem Rd.start {st : Bool} {g : List GN} {f0 : F2} (N : Nat) (L : List (Nat × Nat)) (h : Inv st g f0) : Rd st g N f0 L 0 (card N f0 : Int) f0 := ⟨h, fun _ _ e => e, .inl ⟨rfl, Ext.refl _, fun i hi => by omega⟩⟩
theorem Rd.skip {st : Bool} {g : List GN} {N : Nat} {f0 f : F2} {L : List (Nat × Nat)} {j : Nat} {many : Int} {p : Nat × Nat} (h : Rd st g N f0 L j many f) (hp : L[j]? = some p) (hk : f p.1 p.2 ≠ some true) : Rd st g N f0 L (j + 1) many f := by
  refine ⟨h.inv, h.known, ?_⟩
  rcases h.still with ⟨h1, h2, h3⟩ | h4
  · refine .inl ⟨h1, h2, fun i hi q hq hq2 => ?_⟩
    by_cases e : i = j
    · subst e
      rw [hp] at hq
      cases hq
      exact absurd (h2.some hq2) hk
    · exact h3 i (by omega) q hq hq2
  · exact .inr h4
theorem Rd.good {st : Bool} {g : List GN} {N : Nat} {f0 f : F2} {L : List (Nat × Nat)} {j : Nat} {many : Int} {p : Nat × Nat} (h : Rd st g N f0 L j many f) (hp : L[j]? = some p) (hh : (holdsF st g f p.1 p.2).1 = true) : Rd st g N f0 L (j + 1) many (holdsF st g f p.1 p.2).2 := by
  have he : Ext f (holdsF st g f p.1 p.2).2 := holdsL_ext _ _ _ _ _
  refine ⟨h.inv.ext he, fun a b e e2 => ?_, ?_⟩
  · have := h.known a b e
    cases hf : f a b with
    | none => exact this hf
    | some v => rw [he.some hf] at e2; cases e2
  · rcases h.still with ⟨h1, h2, h3⟩ | ⟨h4, h5⟩
    · refine .inl ⟨h1, h2.trans he, fun i hi q hq hq2 => ?_⟩
      by_cases e : i = j
      · subst e
        rw [hp] at hq
        cases hq
        exact ⟨f, h2, hh, Ext.refl _⟩
      · obtain ⟨fi, e1, e2, e3⟩ := h3 i (by omega) q hq hq2
        exact ⟨fi, e1, e2, e3.trans he⟩
    · exact .inr ⟨h4, Nat.lt_of_le_of_lt (he.mu N) h5⟩
theorem Rd.bad {st : Bool} {g : List GN} {N : Nat} {f0 f : F2} {L : List (Nat × Nat)} {j : Nat} {many : Int} {p : Nat × Nat} (h : Rd st g N f0 L j many f) (ha : p.1 < N) (hb : p.2 < N) (hk : f p.1 p.2 = some true) (hh : (holdsF st g f p.1 p.2).1 = false) : Rd st g N f0 L (j + 1) (-1) ((holdsF st g f p.1 p.2).2.put p.1 p.2 false) := by
  have he : Ext f (holdsF st g f p.1 p.2).2 := holdsL_ext _ _ _ _ _
  obtain ⟨s, hs, hp⟩ := holdsL_false st g p.2 _ f hh
  have hk2 := he.some hk
  refine ⟨(h.inv.ext he).away hk2 hs hp, fun a b e e2 => ?_, .inr ⟨rfl, ?_⟩⟩
  · have := h.known a b e
    by_cases hab : a = p.1 ∧ b = p.2
    · obtain ⟨rfl, rfl⟩ := hab
      rw [put_same] at e2; cases e2
    · rw [put_other _ _ _ _ hab] at e2
      cases hf : f a b with
      | none => exact this hf
      | some v => rw [he.some hf] at e2; cases e2
  · have h1 := mu_away ha hb hk2
    have h2 := he.mu N
    rcases h.still with ⟨_, h3, _⟩ | ⟨_, h3⟩
    · have := h3.mu N; omega
    · omega
/-- What the solver ends with. -/
structure Ends (st : Bool) (g : List GN) (f : F2) : Prop where
  inv : Inv st g f
  hold : ∀ a b, f a b = some true → ∀ s ∈ membersP g a, (pickF st g f s b).1 ≠ -2 ∧ (pickF st g f s b).2 = f
theorem Ends.sub {st : Bool} {g : List GN} {f : F2} (h : Ends st g f) {a b : Nat} (hk : f a b ≠ none) : f a b = some true ↔ Sub st g a b := by
  refine ⟨fun e => Sub.of_post (R := Ps f) (fun x y hxy => stands_of_picks (h.hold x y hxy)) e, fun e => ?_⟩
  cases hf : f a b with
  | none => exact absurd hf hk
  | some v => cases v with
    | true => rfl
    | false => exact absurd e (h.inv.out a b hf)
theorem Ends.ps {st : Bool} {g : List GN} {f : F2} (h : Ends st g f) {a b : Nat} (hp : Ps f a b) : Sub st g a b := (h.sub (by rw [hp]; simp)).1 hp
theorem Rd.ends {st : Bool} {g : List GN} {N : Nat} {f0 f : F2} {L : List (Nat × Nat)} {many : Int} (h : Rd st g N f0 L L.length many f) (hall : ∀ a b, f0 a b ≠ none → (a, b) ∈ L) (ho : ∀ a b, ¬ (a < N ∧ b < N) → f a b = none) (hm : many = (card N f : Int)) : Ends st g f := by
  rcases h.still with ⟨h1, h2, h3⟩ | ⟨h4, _⟩
  · obtain rfl : f = f0 := h2.same (by omega) ho
    refine ⟨h.inv, fun a b e s hs => ?_⟩
    obtain ⟨i, hi, hl⟩ := List.getElem_of_mem (hall a b (by rw [e]; simp))
    obtain ⟨fi, e1, e2, e3⟩ := h3 i hi (a, b) (by rw [List.getElem?_eq_getElem hi, hl]) e
    exact holdsL_true st g b _ fi e2 f e3 s hs
  · omega
theorem Rd.less {st : Bool} {g : List GN} {N : Nat} {f0 f : F2} {L : List (Nat × Nat)} {j : Nat} {many : Int} (h : Rd st g N f0 L j many f) (hm : many ≠ (card N f : Int)) : mu N f < mu N f0 := by
  rcases h.still with ⟨h1, h2, _⟩ | ⟨_, h5⟩
  · exact h2.mu_lt (by omega)
  · exact h5
/-- What pick then says. -/
theorem Ends.picks {st : Bool} {g : List GN} {f : F2} (h : Ends st g f) {a b : Nat} (hk : f a b ≠ none) (hm : membersP g a = [(a : Int)]) : Picks st g (Sub st g) (Sub st g) a b (pickF st g f a b).1 ∧ ((pickF st g f a b).1 = -2 ↔ ¬ Sub st g a b) := by
  have hs : (a : Int) ∈ membersP g a := by rw [hm]; simp
  have h2 : (pickF st g f a b).2 = f ∧ ((pickF st g f a b).1 = -2 ↔ ¬ Sub st g a b) := by
    cases hf : f a b with
    | none => exact absurd hf hk
    | some v => cases v with
      | true =>
        obtain ⟨h1, h2⟩ := h.hold a b hf a hs
        exact ⟨h2, fun e => absurd e h1, fun e => absurd ((h.sub hk).1 hf) e⟩
      | false =>
        obtain ⟨s, hs, hp⟩ := h.inv.stuck a b hf
        rw [hm, List.mem_singleton] at hs
        subst hs
        rw [hp]
        exact ⟨rfl, fun _ => h.inv.out a b hf, fun _ => rfl⟩
  refine ⟨?_, h2.2⟩
  have hsp := pickF_spec st g f a b
  rw [h2.1] at hsp
  have hnz : ∀ y, ¬ Does st (Nz f) (nd g a) (nd g y) → ¬ Does st (Sub st g) (nd g a) (nd g y) := fun y hn hd => hn (hd.mono fun _ _ e => h.inv.sub e)
  rcases hsp with ⟨e, h3, h4⟩ | ⟨e, h3, h4, h5⟩ | ⟨j, hj, e, h3, h4⟩
  · exact .inl ⟨e, fun y hy => hnz y (h3 y hy), fun hb => h4 ⟨hb.1, h.inv.sub hb.2⟩⟩
  · exact .inr (.inl ⟨e, fun y hy => hnz y (h3 y hy), h4, h.ps h5⟩)
  · exact .inr (.inr ⟨j, hj, e, h3.mono fun _ _ e => h.ps e, fun j' hj' y hy => hnz y (h4 j' hj' y hy)⟩)
end Go.Proofs.YtgppcpghpeenhaaDoor.S7

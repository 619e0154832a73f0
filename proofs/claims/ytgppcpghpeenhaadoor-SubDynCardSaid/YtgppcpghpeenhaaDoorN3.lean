/- Orders: of numbers, texts, lists, forms; sorted lists without repeats: plain law, no program. -/
/- The next ranks, out of what is sorted: plain law, no program. -/
import Derived.Test.YtgppcpghpeenhaaDoorProg
import Derived.Test.YtgppcpghpeenhaaDoorWWords
import Derived.Test.YtgppcpghpeenhaaDoorWLast
import Derived.Test.YtgppcpghpeenhaaDoorN1
namespace Go.Proofs.YtgppcpghpeenhaaDoor.N2
open Go.RowKit Go.Proofs.YtgppcpghpeenhaaDoorW.PrintWords Go.Proofs.YtgppcpghpeenhaaDoor L1 L4 G1 G2 S3 S4 S5 N1
set_option linter.unusedVariables false
set_option linter.unusedSimpArgs false
/-- A comparison that is a total order: -1, 0, 1. -/
structure TO {α : Type} (c : α → α → Int) : Prop where
  val : ∀ a b, c a b = -1 ∨ c a b = 0 ∨ c a b = 1
  eq : ∀ a b, c a b = 0 ↔ a = b
  anti : ∀ a b, c b a = -(c a b)
  trans : ∀ a b d, c a b = -1 → c b d = -1 → c a d = -1
def cmpI (a b : Int) : Int := if a < b then -1 else if b < a then 1 else 0
theorem cmpI_lt {a b : Int} (h : a < b) : cmpI a b = -1 := if_pos h
theorem cmpI_gt {a b : Int} (h : b < a) : cmpI a b = 1 := by
  unfold cmpI
  rw [if_neg (by omega), if_pos h]
theorem cmpI_self (a : Int) : cmpI a a = 0 := by
  unfold cmpI
  rw [if_neg (Int.lt_irrefl a), if_neg (Int.lt_irrefl a)]
theorem cmpI_to : TO cmpI := by
  refine ⟨fun a b => ?_, fun a b => ?_, fun a b => ?_, fun a b d h1 h2 => ?_⟩
  · rcases Int.lt_trichotomy a b with h | h | h
    · exact .inl (cmpI_lt h)
    · rw [h, cmpI_self]; exact .inr (.inl rfl)
    · exact .inr (.inr (cmpI_gt h))
  · rcases Int.lt_trichotomy a b with h | h | h
    · rw [cmpI_lt h]
      constructor
      · intro e; cases e
      · intro e; omega
    · rw [h, cmpI_self]; simp
    · rw [cmpI_gt h]
      constructor
      · intro e; cases e
      · intro e; omega
  · rcases Int.lt_trichotomy a b with h | h | h
    · rw [cmpI_lt h, cmpI_gt h]; rfl
    · rw [h, cmpI_self]; rfl
    · rw [cmpI_lt h, cmpI_gt h]
  · have ha : a < b := by
      rcases Int.lt_trichotomy a b with h | h | h
      · exact h
      · rw [h, cmpI_self] at h1; cases h1
      · rw [cmpI_gt h] at h1; cases h1
    have hb : b < d := by
      rcases Int.lt_trichotomy b d with h | h | h
      · exact h
      · rw [h, cmpI_self] at h2; cases h2
      · rw [cmpI_gt h] at h2; cases h2
    exact cmpI_lt (by omega)
/-- Lists, by their first unlike elements, then by their lengths. -/
def cmpL {α : Type} (c : α → α → Int) : List α → List α → Int
  | [], [] => 0
  | [], _ :: _ => -1
  | _ :: _, [] => 1
  | a :: l, b :: m => if c a b = 0 then cmpL c l m else c a b
theorem cmpL_to {α : Type} {c : α → α → Int} (h : TO c) : TO (cmpL c) := by
  refine ⟨fun a => ?_, fun a => ?_, fun a => ?_, fun a => ?_⟩
  · induction a with
    | nil => intro b; cases b <;> simp [cmpL]
    | cons x l ih =>
      intro b
      cases b with
      | nil => simp [cmpL]
      | cons y m =>
        unfold cmpL
        split
        · exact ih m
        · exact h.val x y
  · induction a with
    | nil => intro b; cases b <;> simp [cmpL]
    | cons x l ih =>
      intro b
      cases b with
      | nil => simp [cmpL]
      | cons y m =>
        unfold cmpL
        split
        · rename_i hxy
          rw [ih m, List.cons.injEq, (h.eq x y).1 hxy]
          simp
        · rename_i hxy
          constructor
          · intro e; exact absurd e hxy
          · intro e
            rw [List.cons.injEq] at e
            exact absurd ((h.eq x y).2 e.1) hxy
  · induction a with
    | nil => intro b; cases b <;> simp [cmpL]
    | cons x l ih =>
      intro b
      cases b with
      | nil => simp [cmpL]
      | cons y m =>
        unfold cmpL
        have h1 := h.anti x y
        by_cases hxy : c x y = 0
        · rw [if_pos hxy, if_pos (by rw [h1, hxy]; rfl)]
          exact ih m
        · rw [if_neg hxy, if_neg (by rw [h1]; omega)]
          exact h1
  · induction a with
    | nil =>
      intro b d h1 h2
      cases b with
      | nil => simp [cmpL] at h1
      | cons y m =>
        cases d with
        | nil => simp [cmpL] at h2
        | cons z n => simp [cmpL]
    | cons x l ih =>
      intro b d h1 h2
      cases b with
      | nil => simp [cmpL] at h1
      | cons y m =>
        cases d with
        | nil => simp [cmpL] at h2
        | cons z n =>
          unfold cmpL at h1 h2 ⊢
          by_cases hxy : c x y = 0
          · rw [if_pos hxy] at h1
            rw [(h.eq x y).1 hxy]
            by_cases hyz : c y z = 0
            · rw [if_pos hyz] at h2 ⊢
              exact ih m n h1 h2
            · rw [if_neg hyz] at h2 ⊢
              exact h2
          · rw [if_neg hxy] at h1
            by_cases hyz : c y z = 0
            · rw [← (h.eq y z).1 hyz, if_neg hxy]
              exact h1
            · rw [if_neg hyz] at h2
              have := h.trans x y z h1 h2
              rw [if_neg (by rw [this]; decide)]
              exact this
/-- One comparison, and where it finds no difference another one. -/
theorem then_val {a b : Int} (ha : a = -1 ∨ a = 0 ∨ a = 1) (hb : b = -1 ∨ b = 0 ∨ b = 1) : (if a = 0 then b else a) = -1 ∨ (if a = 0 then b else a) = 0 ∨ (if a = 0 then b else a) = 1 := by
  split
  · exact hb
  · exact ha
/-- A comparison by what is told of things. -/
structure PO {α : Type} (c : α → α → Int) : Prop where
  val : ∀ a b, c a b = -1 ∨ c a b = 0 ∨ c a b = 1
  anti : ∀ a b, c b a = -(c a b)
  trans : ∀ a b d, c a b = -1 → c b d = -1 → c a d = -1
  eql : ∀ a b d, c a b = 0 → c b d = c a d
  eqr : ∀ a b d, c a b = 0 → c d b = c d a
theorem PO.of {α β : Type} {c : α → α → Int} (h : TO c) (f : β → α) : PO (fun x y => c (f x) (f y)) :=
  ⟨fun a b => h.val _ _, fun a b => h.anti _ _, fun a b d => h.trans _ _ _, fun a b d e => by
    have := (h.eq _ _).1 e
    show c (f b) (f d) = c (f a) (f d)
    rw [this], fun a b d e => by
    have := (h.eq _ _).1 e
    show c (f d) (f b) = c (f d) (f a)
    rw [this]⟩
theorem PO.then {α : Type} {c c' : α → α → Int} (h : PO c) (h' : PO c') : PO (fun x y => if c x y = 0 then c' x y else c x y) := by
  refine ⟨fun a b => then_val (h.val a b) (h'.val a b), fun a b => ?_, fun a b d h1 h2 => ?_, fun a b d e => ?_, fun a b d e => ?_⟩
  · have h1 := h.anti a b
    by_cases e : c a b = 0
    · simp only [e, h1, if_pos]
      simpa using h'.anti a b
    · simp only [h1]
      rw [if_neg (by omega), if_neg e]
  · by_cases e : c a b = 0
    · rw [if_pos e] at h1
      rw [h.eql a b d e] at h2
      by_cases e2 : c a d = 0
      · rw [if_pos e2] at h2 ⊢
        exact h'.trans a b d h1 h2
      · rw [if_neg e2] at h2 ⊢
        exact h2
    · rw [if_neg e] at h1
      by_cases e2 : c b d = 0
      · have := h.eqr b d a e2
        rw [this, if_neg e]
        exact h1
      · rw [if_neg e2] at h2
        have := h.trans a b d h1 h2
        rw [if_neg (by rw [this]; decide)]
        exact this
  · by_cases e1 : c a b = 0
    · rw [if_pos e1] at e
      rw [h.eql a b d e1, h'.eql a b d e]
    · rw [if_neg e1] at e
      exact absurd e e1
  · by_cases e1 : c a b = 0
    · rw [if_pos e1] at e
      rw [h.eqr a b d e1, h'.eqr a b d e]
    · rw [if_neg e1] at e
      exact absurd e e1
def Srt (l : List Int) : Prop := l.Pairwise (· < ·)
theorem srt_eq : ∀ {l m : List Int}, Srt l → Srt m → (∀ x, x ∈ l ↔ x ∈ m) → l = m
  | [], [], _, _, _ => rfl
  | [], b :: m, _, _, h => by have := (h b).2 (by simp); cases this
  | a :: l, [], _, _, h => by have := (h a).1 (by simp); cases this
  | a :: l, b :: m, hl, hm, h => by
    have hl1 := List.pairwise_cons.1 hl
    have hm1 := List.pairwise_cons.1 hm
    have hab : a = b := by
      have h1 := (h a).1 (by simp)
      have h2 := (h b).2 (by simp)
      rcases List.mem_cons.1 h1 with e | h1
      · exact e
      · rcases List.mem_cons.1 h2 with e | h2
        · exact e.symm
        · have := hm1.1 a h1
          have := hl1.1 b h2
          omega
    subst hab
    congr 1
    refine srt_eq hl1.2 hm1.2 fun x => ?_
    constructor
    · intro hx
      have := hl1.1 x hx
      rcases List.mem_cons.1 ((h x).1 (List.mem_cons_of_mem _ hx)) with e | h1
      · omega
      · exact h1
    · intro hx
      have := hm1.1 x hx
      rcases List.mem_cons.1 ((h x).2 (List.mem_cons_of_mem _ hx)) with e | h1
      · omega
      · exact h1
end Go.Proofs.YtgppcpghpeenhaaDoor.N2
namespace Go.Proofs.YtgppcpghpeenhaaDoor.N3
open Go.RowKit Go.Proofs.YtgppcpghpeenhaaDoorW.PrintWords Go.Proofs.YtgppcpghpeenhaaDoor L1 L4 G1 G2 S3 S4 S5 N1 N2
set_option linter.unusedVariables false
set_option linter.unusedSimpArgs false
/-- How many steps there are up to the i-th of a row. -/
def lv (c : Int → Int → Int) (P : List Int) : Nat → Nat
  | 0 => 0
  | i + 1 => lv c P i + (if c (P.getD i 0) (P.getD (i + 1) 0) = 0 then 0 else 1)
/-- A row that rises, by a comparison. -/
def Up (c : Int → Int → Int) (P : List Int) : Prop := ∀ i j, i < j → j < P.length → c (P.getD i 0) (P.getD j 0) ≠ 1
theorem lv_mono {c : Int → Int → Int} {P : List Int} : ∀ {i j : Nat}, i ≤ j → lv c P i ≤ lv c P j := by
  intro i j h
  induction j with
  | zero => obtain rfl : i = 0 := by omega
            exact Nat.le_refl _
  | succ j ih =>
    rcases Nat.lt_or_ge i (j + 1) with h1 | h1
    · refine Nat.le_trans (ih (by omega)) ?_
      show lv c P j ≤ lv c P j + _
      omega
    · obtain rfl : i = j + 1 := by omega
      exact Nat.le_refl _
theorem lv_iff {c : Int → Int → Int} (hc : PO c) {P : List Int} (hu : Up c P) : ∀ {i j : Nat}, i ≤ j → j < P.length → (lv c P i = lv c P j ↔ c (P.getD i 0) (P.getD j 0) = 0) := by
  intro i j hij hj
  induction j with
  | zero =>
    obtain rfl : i = 0 := by omega
    have h0 := hc.anti (P.getD 0 0) (P.getD 0 0)
    constructor
    · intro _; omega
    · intro _; rfl
  | succ j ih =>
    rcases Nat.lt_or_ge i (j + 1) with h1 | h1
    · have h2 := ih (by omega) (by omega)
      have hm := lv_mono (c := c) (P := P) (i := i) (j := j) (by omega)
      show lv c P i = lv c P j + _ ↔ _
      by_cases hs : c (P.getD j 0) (P.getD (j + 1) 0) = 0
      · rw [if_pos hs, Nat.add_zero, h2]
        rw [hc.eqr _ _ (P.getD i 0) hs]
      · rw [if_neg hs]
        constructor
        · intro e; omega
        · intro e
          exfalso
          have hlt : c (P.getD j 0) (P.getD (j + 1) 0) = -1 := by
            have := hu j (j + 1) (by omega) hj
            rcases hc.val (P.getD j 0) (P.getD (j + 1) 0) with h | h | h
            · exact h
            · exact absurd h hs
            · exact absurd h this
          by_cases he : c (P.getD i 0) (P.getD j 0) = 0
          · have h3 := hc.eql _ _ (P.getD (j + 1) 0) he
            rw [h3] at hlt
            omega
          · have hlt2 : c (P.getD i 0) (P.getD j 0) = -1 := by
              rcases Nat.lt_or_ge i j with h | h
              · have := hu i j h (by omega)
                rcases hc.val (P.getD i 0) (P.getD j 0) with h' | h' | h'
                · exact h'
                · exact absurd h' he
                · exact absurd h' this
              · obtain rfl : i = j := by omega
                have := hc.anti (P.getD i 0) (P.getD i 0)
                omega
            have := hc.trans _ _ _ hlt2 hlt
            omega
    · obtain rfl : i = j + 1 := by omega
      have h0 := hc.anti (P.getD (j + 1) 0) (P.getD (j + 1) 0)
      constructor
      · intro _; omega
      · intro _; rfl
/-- Each number up to the last one is there. -/
theorem lv_all {c : Int → Int → Int} {P : List Int} : ∀ {j v : Nat}, v ≤ lv c P j → ∃ i, i ≤ j ∧ lv c P i = v := by
  intro j
  induction j with
  | zero =>
    intro v h
    have h0 : v ≤ 0 := h
    exact ⟨0, Nat.le_refl _, by show 0 = v; omega⟩
  | succ j ih =>
    intro v h
    by_cases hv : v ≤ lv c P j
    · obtain ⟨i, hi, e⟩ := ih hv
      exact ⟨i, by omega, e⟩
    · refine ⟨j + 1, Nat.le_refl _, ?_⟩
      have h1 : v ≤ lv c P j + (if c (P.getD j 0) (P.getD (j + 1) 0) = 0 then 0 else 1) := h
      show lv c P j + (if c (P.getD j 0) (P.getD (j + 1) 0) = 0 then 0 else 1) = v
      split at h1 <;> split <;> omega
/-- What is told of nodes: ranks are next, if they are the places in a row of all of them that rises. -/
theorem next_of {g : List GN} {c : Int → Int → Int} (hc : PO c) {r : Int → Int} (hcr : ∀ a b, Pl g a → Pl g b → (c a b = 0 ↔ r a = r b ∧ Near g (fun x y => r x = r y) a b)) {P : List Int} (hu : Up c P) (hP : ∀ a, Pl g a ↔ a ∈ P) {r' : Int → Int}
    (hr : ∀ i, i < P.length → r' (P.getD i 0) = (lv c P i : Int)) (hp : 0 < P.length) : Nxt g r r' ∧ Rk g r' (lv c P (P.length - 1) + 1) := by
  have idx : ∀ a, Pl g a → ∃ i, i < P.length ∧ P.getD i 0 = a := fun a ha => by
    obtain ⟨i, hi, e⟩ := List.getElem_of_mem ((hP a).1 ha)
    exact ⟨i, hi, by rw [List.getD_eq_getElem?_getD, List.getElem?_eq_getElem hi]; exact e⟩
  refine ⟨fun a b ha hb => ?_, fun a ha => ?_, fun v hv => ?_⟩
  · rw [← hcr a b ha hb]
    obtain ⟨i, hi, rfl⟩ := idx a ha
    obtain ⟨j, hj, rfl⟩ := idx b hb
    rw [hr i hi, hr j hj]
    rcases Nat.le_total i j with h | h
    · rw [← lv_iff hc hu h hj]
      omega
    · have h1 := lv_iff hc hu h hi
      have h2 := hc.anti (P.getD j 0) (P.getD i 0)
      constructor
      · intro e
        have := h1.1 (by omega)
        omega
      · intro e
        have := h1.2 (by omega)
        omega
  · obtain ⟨i, hi, rfl⟩ := idx a ha
    rw [hr i hi]
    have := lv_mono (c := c) (P := P) (i := i) (j := P.length - 1) (by omega)
    omega
  · obtain ⟨i, hi, e⟩ := lv_all (c := c) (P := P) (j := P.length - 1) (v := v) (by omega)
    have hil : i < P.length := by omega
    refine ⟨P.getD i 0, (hP _).2 ?_, ?_⟩
    · rw [List.getD_eq_getElem?_getD, List.getElem?_eq_getElem hil]
      exact List.getElem_mem hil
    · rw [hr i hil, e]
end Go.Proofs.YtgppcpghpeenhaaDoor.N3

/- What is found: it holds, each once, all come to: plain law, no program. -/
import Derived.Test.YthkoockcfnbpiaaDoorProg
import Derived.Test.YthkoockcfnbpiaaDoorWWords
import Derived.Test.YthkoockcfnbpiaaDoorWLast
import Derived.Test.YthkoockcfnbpiaaDoorS11
import Derived.Test.YthkoockcfnbpiaaDoorFK
namespace Go.Proofs.YthkoockcfnbpiaaDoor.F1
open Go.RowKit Go.Proofs.YthkoockcfnbpiaaDoor G1 G2 S0 S1 S2 S3 S4 S5 S6 S7 S8 S9 S10 S11
set_option linter.unusedVariables false
set_option linter.unusedSimpArgs false
/-- A fact. -/
abbrev FC := P.S37
def zF : FC := P.z37
/-- The node that does for a fact's first one. -/
def chosenN (g : List GN) (f : FC) : GN := nd g ((membersP g f.f1).getD (f.f2.getD 0 0).toNat 0)
/-- The pairs of two records' fields. -/
def recP (s t : GN) : List ByteArray → Nat → Option (List (Int × Int))
  | [], _ => some []
  | key :: r, i => match idxF key s.f3 0 with
    | none => none
    | some k => (recP s t r (i + 1)).map fun l => (s.f4.getD k 0, t.f4.getD i 0) :: l
def plainP (s t : GN) : List (Int × Int) × Bool :=
  if s.f0 = t.f0 ∧ s.f2 = t.f2 ∧ s.f1 = t.f1 then
    if s.f0 = 9 then ([(s.f4.getD 0 0, t.f4.getD 0 0)], true)
    else match recP s t t.f3 0 with
      | none => ([], false)
      | some l => (l, true)
  else ([], false)
/-- What a fact's rule says: the pairs to which it goes on, whether it holds by itself. -/
def byP (g : List GN) (f : FC) : List (Int × Int) × Bool :=
  if (nd g f.f0).f0 = 8 then ((nd g f.f0).f4.map fun m => (m, f.f1), true)
  else if (nd g f.f0).f0 = 9 ∧ f.f2.getD 0 0 = -1 then ([((nd g f.f0).f4.getD 0 0, f.f1)], true)
  else if (nd g f.f0).f0 = 1 ∨ (chosenN g f).f0 = 1 then ([], true)
  else plainP (nd g f.f0) (chosenN g f)
/-- The numbers of facts to which a fact goes on. -/
def onP (g : List GN) (f : FC) : List Int := if (nd g f.f0).f0 = 8 then f.f2 else f.f2.drop 1
def inP (n : Nat) (k : Int) : Bool := decide (0 ≤ k) && decide (k < n)
/-- Has a fact a form? -/
def frmP (g : List GN) (n : Nat) (f : FC) : Bool :=
  inP g.length f.f0 && inP g.length f.f1 &&
  (if (nd g f.f0).f0 = 8 then decide (f.f2.length = (nd g f.f0).f4.length) && (onP g f).all (inP n)
   else if f.f2.length = 0 then false
   else if (nd g f.f0).f0 = 9 ∧ f.f2.getD 0 0 = -1 then decide (f.f2.length = 2) && (onP g f).all (inP n)
   else if f.f2.getD 0 0 < 0 ∨ ((membersP g f.f1).length : Int) ≤ f.f2.getD 0 0 then false
   else decide (f.f2.length = if (nd g f.f0).f0 = 7 ∧ (chosenN g f).f0 = 7 then 1 + (chosenN g f).f3.length else if (nd g f.f0).f0 = 9 ∧ (chosenN g f).f0 = 9 then 2 else 1) && (onP g f).all (inP n))
def checkFP (g : List GN) (l : List FC) : Int :=
  if checkP g ≠ 0 then checkP g else if 8000 < l.length then 5 else if l.all (frmP g l.length) then 0 else 2
def pairOf (l : List FC) (k : Int) : Int × Int := ((l.getD k.toNat zF).f0, (l.getD k.toNat zF).f1)
/-- Does a fact hold? -/
def holdsP (g : List GN) (l : List FC) (f : FC) : Bool := (byP g f).2 && decide ((onP g f).map (pairOf l) = (byP g f).1)
/-- The first one that does not hold. -/
def firstP (g : List GN) (l : List FC) : Int × Int :=
  if checkFP g l ≠ 0 then (0, checkFP g l) else ((match l.findIdx? (fun f => !holdsP g l f) with | none => -1 | some k => (k : Int)), 0)
def hasFP (g : List GN) (l : List FC) (k : Int) : Bool := decide (checkFP g l = 0) && inP l.length k
def holdsAtP (g : List GN) (l : List FC) (k : Int) : Bool := hasFP g l k && holdsP g l (l.getD k.toNat zF)
/-- One fact goes on to another one. -/
def EdgeF (g : List GN) (l : List FC) (i j : Int) : Prop := ∃ f, l[i.toNat]? = some f ∧ j ∈ onP g f
inductive Rch (g : List GN) (l : List FC) (k : Int) : Int → Prop
  | refl : Rch g l k k
  | step (i j : Int) : Rch g l k i → EdgeF g l i j → Rch g l k j
def dynP (g : List GN) (n : Int) : Bool := decide ((nd g n).f0 = 1)
/-- Does a fact cast by itself? -/
def castB (g : List GN) (f : FC) : Bool := dynP g f.f0 && !(membersP g f.f1).any (dynP g)
def CastsP (g : List GN) (l : List FC) (k : Int) : Prop := hasFP g l k = true ∧ ∃ i, Rch g l k i ∧ ∃ f, l[i.toNat]? = some f ∧ castB g f = true
noncomputable def castsP (g : List GN) (l : List FC) (k : Int) : Bool := @decide (CastsP g l k) (Classical.propDecidable _)
theorem castsP_iff {g : List GN} {l : List FC} {k : Int} : castsP g l k = true ↔ CastsP g l k := by
  unfold castsP
  exact @decide_eq_true_iff _ (Classical.propDecidable _)
/-- The fact of a pair, ahead of what it goes on to. -/
def mk0 (pk : Int → Int → Int) (g : List GN) (p : Int × Int) : FC := ⟨p.1, p.2, if (nd g p.1).f0 = 8 then [] else [pk p.1 p.2]⟩
/-- A pair's fact that is not all there yet. -/
def openF (p : Int × Int) : FC := ⟨p.1, p.2, []⟩
def isP (p : Int × Int) (f : FC) : Bool := decide (f.f0 = p.1) && decide (f.f1 = p.2)
def idxP (p : Int × Int) (l : List FC) : Option Nat := l.findIdx? (isP p)
def findL (F : Int × Int → List FC → Int × List FC) : List (Int × Int) → List FC → List Int × List FC
  | [], l => ([], l)
  | q :: r, l => ((F q l).1 :: (findL F r (F q l).2).1, (findL F r (F q l).2).2)
/-- The number of a pair's fact, which is there then. -/
def findP (pk : Int → Int → Int) (g : List GN) : Nat → Int × Int → List FC → Int × List FC
  | 0, _, l => (0, l)
  | n + 1, p, l => match idxP p l with
    | some k => (k, l)
    | none =>
      ((l.length : Int), (findL (findP pk g n) (byP g (mk0 pk g p)).1 (l ++ [openF p])).2.set l.length
        ⟨p.1, p.2, (mk0 pk g p).f2 ++ (findL (findP pk g n) (byP g (mk0 pk g p)).1 (l ++ [openF p])).1⟩)
/-- What the pick is. -/
noncomputable def pickN (g : List GN) (a b : Int) : Int := @Classical.epsilon Int ⟨0⟩ (PickP g a b)
theorem picks_uniq {g : List GN} {R : Nat → Nat → Prop} {a : Int} {b : Nat} {k k' : Int} (h : Picks false g R R a b k) (h' : Picks false g R R a b k') : k = k' := by
  rcases h with ⟨e, h1, h2⟩ | ⟨e, h1, h2, h3⟩ | ⟨j, hj, e, h1, h2⟩ <;> rcases h' with ⟨e', h1', h2'⟩ | ⟨e', h1', h2', h3'⟩ | ⟨j', hj', e', h1', h2'⟩
  · omega
  · exact absurd ⟨h2', h3'⟩ h2
  · exact absurd h1' (h1 _ (List.getElem_mem hj'))
  · exact absurd ⟨h2, h3⟩ h2'
  · omega
  · exact absurd h1' (h1 _ (List.getElem_mem hj'))
  · exact absurd h1 (h1' _ (List.getElem_mem hj))
  · exact absurd h1 (h1' _ (List.getElem_mem hj))
  · rcases Nat.lt_trichotomy j j' with hlt | rfl | hlt
    · exact absurd h1 (h2' j hlt _ (List.getElem?_eq_getElem hj))
    · omega
    · exact absurd h1' (h2 j' hlt _ (List.getElem?_eq_getElem hj'))
theorem pickP_uniq {g : List GN} {a b k k' : Int} (h : PickP g a b k) (h' : PickP g a b k') : k = k' := by
  unfold PickP at h h'
  split at h
  · rename_i hc
    rw [if_pos hc] at h'
    exact picks_uniq h.1 h'.1
  · rename_i hc
    rw [if_neg hc] at h'
    omega
theorem pickN_eq {g : List GN} {a b k : Int} (h : PickP g a b k) : k = pickN g a b := pickP_uniq h (Classical.epsilon_spec (p := PickP g a b) ⟨k, h⟩)
end Go.Proofs.YthkoockcfnbpiaaDoor.F1
namespace Go.Proofs.YthkoockcfnbpiaaDoor.F2
open Go.RowKit Go.Proofs.YthkoockcfnbpiaaDoor L1 L4 G1 G2 S0 S1 S2 S3 S4 S5 S6 S7 S8 S9 S10 S11 F1
set_option linter.unusedVariables false
set_option linter.unusedSimpArgs false
/-- A pair of places of which the first may stand for the second. -/
structure Pr (g : List GN) (p : Int × Int) : Prop where
  a0 : 0 ≤ p.1
  a1 : p.1 < g.length
  b0 : 0 ≤ p.2
  b1 : p.2 < g.length
  sub : Sub false g p.1.toNat p.2.toNat
theorem members_union {g : List GN} {a : Int} (h0 : 0 ≤ a) (h1 : a < g.length) (h8 : (nd g a).f0 = 8) : membersP g a = (nd g a).f4 := by
  unfold membersP
  rw [if_neg (by omega), if_neg (by omega)]
  exact if_pos h8
theorem ofP_in {g : List GN} (hc : checkP g = 0) {a b : Int} (h0 : 0 ≤ a) (h1 : a < g.length) (h2 : 0 ≤ b) (h3 : b < g.length) : ofP g [a, b] = true := by
  unfold ofP outP
  rw [decide_eq_true hc]
  simp
  omega
theorem sub_one {g : List GN} {a b : Nat} (ha : a < g.length) (h8 : (nd g a).f0 ≠ 8) :
    Sub false g a b ↔ (∃ y ∈ membersP g b, Does false (Sub false g) (nd g a) (nd g y)) ∨ ((nd g a).f0 = 9 ∧ Sub false g (at_ (nd g a).f4 0) b) := by
  rw [Sub.iff]
  unfold Stands
  rw [members_self (by omega) (by omega) h8]
  simp
theorem pickP_ex {g : List GN} (a b : Int) : ∃ k, PickP g a b k := by
  unfold PickP
  split
  · rename_i hc
    obtain ⟨h1, h2, h3⟩ := ofP_two hc.1
    obtain ⟨x, rfl⟩ := Int.eq_ofNat_of_zero_le h2.1
    obtain ⟨y, rfl⟩ := Int.eq_ofNat_of_zero_le h3.1
    have hs := sub_one (g := g) (a := x) (b := y) (by omega) hc.2
    rw [Int.toNat_natCast, Int.toNat_natCast]
    by_cases hd : ∃ z ∈ membersP g y, Does false (Sub false g) (nd g x) (nd g z)
    · have : ∃ j : Nat, ∃ z, (membersP g y)[j]? = some z ∧ Does false (Sub false g) (nd g x) (nd g z) := by
        obtain ⟨z, hz, hd⟩ := hd
        obtain ⟨j, hj, e⟩ := List.getElem_of_mem hz
        exact ⟨j, z, by rw [List.getElem?_eq_getElem hj, e], hd⟩
      have hP : ∃ j : Nat, ∃ z, (membersP g y)[j]? = some z ∧ Does false (Sub false g) (nd g x) (nd g z) := this
      obtain ⟨j, ⟨z, hz, hdz⟩, hmin⟩ : ∃ j : Nat, (∃ z, (membersP g y)[j]? = some z ∧ Does false (Sub false g) (nd g x) (nd g z)) ∧ ∀ j' : Nat, j' < j → ¬ ∃ z, (membersP g y)[j']? = some z ∧ Does false (Sub false g) (nd g x) (nd g z) := by
        obtain ⟨j, hj⟩ := hP
        revert hj
        induction j using Nat.strongRecOn with
        | ind j ih =>
          intro hj
          by_cases hl : ∃ j' : Nat, j' < j ∧ ∃ z, (membersP g y)[j']? = some z ∧ Does false (Sub false g) (nd g x) (nd g z)
          · obtain ⟨j', hlt, hz⟩ := hl
            exact ih j' hlt hz
          · exact ⟨j, hj, fun j' hlt hz => hl ⟨j', hlt, hz⟩⟩
      obtain ⟨hjl, hje⟩ := List.getElem?_eq_some_iff.1 hz
      refine ⟨(j : Int), .inr (.inr ⟨j, hjl, rfl, by rw [hje]; exact hdz, fun j' hlt z hz hdz => hmin j' hlt ⟨z, hz, hdz⟩⟩), ⟨fun h => by omega, fun h => absurd (hs.2 (.inl hd)) h⟩⟩
    · have hn : ∀ z ∈ membersP g y, ¬ Does false (Sub false g) (nd g x) (nd g z) := fun z hz h => hd ⟨z, hz, h⟩
      by_cases hb : (nd g x).f0 = 9 ∧ Sub false g (at_ (nd g x).f4 0) y
      · exact ⟨-1, .inr (.inl ⟨rfl, hn, hb.1, hb.2⟩), ⟨fun h => by omega, fun h => absurd (hs.2 (.inr hb)) h⟩⟩
      · exact ⟨-2, .inl ⟨rfl, hn, hb⟩, ⟨fun _ h => (hs.1 h).elim hd hb, fun _ => rfl⟩⟩
  · exact ⟨-2, rfl⟩
theorem pickN_ok (g : List GN) (a b : Int) : PickP g a b (pickN g a b) := by
  obtain ⟨k, h⟩ := pickP_ex (g := g) a b
  rw [← pickN_eq h]
  exact h
theorem idxF_bound {s : ByteArray} {l : List ByteArray} {k : Nat} (h : idxF s l 0 = some k) : k < l.length := by
  have := (idxF_lt h).2.1
  omega
theorem recP_of (g : List GN) (s t : GN) (hs : ∀ y ∈ s.f4, 0 ≤ y ∧ y < (g.length : Int)) (ht : ∀ y ∈ t.f4, 0 ≤ y ∧ y < (g.length : Int)) (hsl : s.f4.length = s.f3.length) :
    ∀ (l : List ByteArray) (i : Nat), i + l.length = t.f4.length → RecFrom (Sub false g) s t l i → ∃ m, recP s t l i = some m ∧ m.length = l.length ∧ ∀ q ∈ m, Pr g q
  | [], i, _, _ => ⟨[], rfl, rfl, fun q hq => by simp at hq⟩
  | key :: r, i, hl, h => by
    unfold RecFrom at h
    obtain ⟨⟨k, hk, hsub⟩, h2⟩ := h
    simp at hl
    obtain ⟨m, hm, hml, hmp⟩ := recP_of g s t hs ht hsl r (i + 1) (by omega) h2
    refine ⟨(s.f4.getD k 0, t.f4.getD i 0) :: m, ?_, by simp [hml], fun q hq => ?_⟩
    · unfold recP
      rw [hk]
      simp [hm]
    · rcases List.mem_cons.1 hq with rfl | hq
      · have h1 := at_eq hs (i := k) (by rw [hsl]; exact idxF_bound hk)
        have h2 := at_eq ht (i := i) (by omega)
        refine ⟨?_, ?_, ?_, ?_, ?_⟩ <;> dsimp only
        · rw [h1.1]; omega
        · rw [h1.1]; omega
        · rw [h2.1]; omega
        · rw [h2.1]; omega
        · rw [h1.1, h2.1, Int.toNat_natCast, Int.toNat_natCast]; exact hsub
      · exact hmp q hq
/-- The step of what is found: what a pair's fact goes on to. -/
theorem step_ok {g : List GN} (hc : checkP g = 0) {p : Int × Int} (hp : Pr g p) :
    (byP g (mk0 (pickN g) g p)).2 = true ∧ (∀ q ∈ (byP g (mk0 (pickN g) g p)).1, Pr g q) ∧
    ∀ ks : List Int, byP g ⟨p.1, p.2, (mk0 (pickN g) g p).f2 ++ ks⟩ = byP g (mk0 (pickN g) g p) ∧ onP g ⟨p.1, p.2, (mk0 (pickN g) g p).f2 ++ ks⟩ = ks ∧
      ∀ n, ks.length = (byP g (mk0 (pickN g) g p)).1.length → ks.all (inP n) = true → frmP g n ⟨p.1, p.2, (mk0 (pickN g) g p).f2 ++ ks⟩ = true := by
  obtain ⟨a, b⟩ := p
  obtain ⟨ha0, ha1, hb0, hb1, hsub⟩ := hp
  dsimp only at ha0 ha1 hb0 hb1 hsub ⊢
  obtain ⟨x, rfl⟩ := Int.eq_ofNat_of_zero_le ha0
  obtain ⟨y, rfl⟩ := Int.eq_ofNat_of_zero_le hb0
  rw [Int.toNat_natCast, Int.toNat_natCast] at hsub
  have ho := (check_ok hc).2 _ (nd_mem ha0 ha1)
  have hin : (inP g.length (x : Int) && inP g.length (y : Int)) = true := by unfold inP; simp; omega
  by_cases h8 : (nd g x).f0 = 8
  · have hf2 : (mk0 (pickN g) g ((x : Int), (y : Int))).f2 = [] := if_pos h8
    have hby : byP g (mk0 (pickN g) g ((x : Int), (y : Int))) = ((nd g x).f4.map fun m => (m, (y : Int)), true) := if_pos h8
    have hby' : ∀ ks, byP g ⟨x, y, ks⟩ = ((nd g x).f4.map fun m => (m, (y : Int)), true) := fun ks => if_pos h8
    have hon : ∀ ks, onP g ⟨x, y, ks⟩ = ks := fun ks => if_pos h8
    rw [hby, hf2]
    refine ⟨rfl, fun q hq => ?_, fun ks => ⟨hby' _, hon _, fun n hn hall => ?_⟩⟩
    · simp only [List.mem_map] at hq
      obtain ⟨m, hm, rfl⟩ := hq
      have hr := ho.range m hm
      have hm8 : (nd g m).f0 ≠ 8 := ho.union h8 m hm
      refine ⟨hr.1, hr.2, hb0, hb1, ?_⟩
      dsimp only
      rw [Sub.iff]
      intro s hs
      rw [Int.toNat_of_nonneg hr.1, members_self hr.1 hr.2 hm8] at hs
      simp at hs
      subst hs
      rw [Int.toNat_natCast]
      exact Sub.post hsub s (by rw [members_union ha0 ha1 h8]; exact hm)
    · unfold frmP
      rw [hon]
      dsimp only
      rw [hin, if_pos h8, List.nil_append, hall]
      simp at hn
      simp [hn]
  · have hf2 : (mk0 (pickN g) g ((x : Int), (y : Int))).f2 = [pickN g x y] := if_neg h8
    have hpk := pickN_ok g x y
    unfold PickP at hpk
    rw [if_pos ⟨ofP_in hc ha0 ha1 hb0 hb1, h8⟩] at hpk
    obtain ⟨hpk, hne⟩ := hpk
    rw [Int.toNat_natCast] at hpk
    rw [Int.toNat_natCast, Int.toNat_natCast] at hne
    have hon : ∀ ks, onP g ⟨x, y, pickN g x y :: ks⟩ = ks := fun ks => by
      show (if (nd g x).f0 = 8 then _ else _) = _
      rw [if_neg h8]
      rfl
    have hmk : mk0 (pickN g) g ((x : Int), (y : Int)) = ⟨x, y, [pickN g x y]⟩ := by
      show P.S37.mk _ _ _ = _
      rw [if_neg h8]
    rw [hf2]
    have happ : ∀ ks, [pickN g x y] ++ ks = pickN g x y :: ks := fun _ => rfl
    simp only [happ]
    rcases hpk with ⟨e, _⟩ | ⟨e, h1, h9, hs⟩ | ⟨j, hj, e, hd, _⟩
    · exact absurd hsub (hne.1 e)
    · have hby : ∀ ks, byP g ⟨x, y, pickN g x y :: ks⟩ = ([((nd g x).f4.getD 0 0, (y : Int))], true) := fun ks => by
        unfold byP
        dsimp only
        rw [if_neg h8]
        exact if_pos ⟨h9, e⟩
      rw [hmk, hby []]
      have hl := ho.var h9
      have h0 := at_eq ho.range (i := 0) (by omega)
      refine ⟨rfl, fun q hq => ?_, fun ks => ⟨hby ks, hon ks, fun n hn hall => ?_⟩⟩
      · simp only [List.mem_singleton] at hq
        subst hq
        refine ⟨?_, ?_, hb0, hb1, ?_⟩
        · show 0 ≤ (nd g x).f4.getD 0 0
          rw [h0.1]; omega
        · show (nd g x).f4.getD 0 0 < _
          rw [h0.1]; omega
        · show Sub false g ((nd g x).f4.getD 0 0).toNat _
          rw [h0.1, Int.toNat_natCast, Int.toNat_natCast]; exact hs
      · unfold frmP
        rw [hon ks, hall]
        dsimp only
        rw [hin, if_neg h8, if_neg (by simp), List.getD_cons_zero, if_pos ⟨h9, e⟩]
        simp at hn
        simp [hn]
    · have hmj : (membersP g y).getD (pickN g x y).toNat 0 = (membersP g y)[j] := by
        rw [e, Int.toNat_natCast, List.getD_eq_getElem?_getD, List.getElem?_eq_getElem hj]
        rfl
      have hz := members_in hc hb0 hb1 _ (List.getElem_mem hj)
      generalize (membersP g y)[j] = z at hmj hz hd
      have hoz := (check_ok hc).2 _ (nd_mem hz.1 hz.2.1)
      have hcho : ∀ ks, chosenN g ⟨x, y, pickN g x y :: ks⟩ = nd g z := fun ks => by
        show nd g ((membersP g y).getD (pickN g x y).toNat 0) = _
        rw [hmj]
      have hnb : ¬ ((nd g x).f0 = 9 ∧ pickN g x y = -1) := fun h => by omega
      have hform : ∀ ks n, ks.all (inP n) = true → (ks.length + 1 = if (nd g x).f0 = 7 ∧ (nd g z).f0 = 7 then 1 + (nd g z).f3.length else if (nd g x).f0 = 9 ∧ (nd g z).f0 = 9 then 2 else 1) → frmP g n ⟨x, y, pickN g x y :: ks⟩ = true := fun ks n hall hlen => by
        unfold frmP
        rw [hon ks, hall, hcho]
        dsimp only
        rw [hin, if_neg h8, if_neg (by simp), List.getD_cons_zero, if_neg hnb, if_neg (by omega)]
        simp only [List.length_cons]
        rw [decide_eq_true hlen]
        rfl
      unfold Does at hd
      by_cases h1 : (nd g x).f0 = 1 ∨ (nd g z).f0 = 1
      · have hby : ∀ ks, byP g ⟨x, y, pickN g x y :: ks⟩ = ([], true) := fun ks => by
          unfold byP
          rw [hcho]
          dsimp only
          rw [if_neg h8, List.getD_cons_zero, if_neg hnb, if_pos h1]
        rw [hmk, hby []]
        refine ⟨rfl, fun q hq => by simp at hq, fun ks => ⟨hby ks, hon ks, fun n hn hall => hform ks n hall ?_⟩⟩
        simp at hn
        rw [if_neg (by omega), if_neg (by omega), hn]
        rfl
      · rw [if_neg h1] at hd
        obtain ⟨hk, h5, h7, h9⟩ := hd
        have hby : ∀ ks, byP g ⟨x, y, pickN g x y :: ks⟩ = plainP (nd g x) (nd g z) := fun ks => by
          unfold byP
          rw [hcho]
          dsimp only
          rw [if_neg h8, List.getD_cons_zero, if_neg hnb, if_neg h1]
        have hname : (nd g x).f2 = (nd g z).f2 := by
          by_cases h : (nd g x).f0 = 5
          · exact toList_inj (h5 h)
          · exact toList_inj (by rw [ho.name h, hoz.name (by omega)])
        have hnum : (nd g x).f1 = (nd g z).f1 := by
          by_cases h : (nd g x).f0 = 9
          · exact (h9 h).1
          · rw [ho.num h, hoz.num (by omega)]
        have hpl : ∃ m, plainP (nd g x) (nd g z) = (m, true) ∧ (∀ q ∈ m, Pr g q) ∧ m.length + 1 = if (nd g x).f0 = 7 ∧ (nd g z).f0 = 7 then 1 + (nd g z).f3.length else if (nd g x).f0 = 9 ∧ (nd g z).f0 = 9 then 2 else 1 := by
          unfold plainP
          rw [if_pos ⟨hk, hname, hnum⟩]
          by_cases h : (nd g x).f0 = 9
          · rw [if_pos h]
            have hl := ho.var h
            have hlz := hoz.var (by omega)
            have e1 := at_eq ho.range (i := 0) (by omega)
            have e2 := at_eq hoz.range (i := 0) (by omega)
            refine ⟨_, rfl, fun q hq => ?_, ?_⟩
            · simp only [List.mem_singleton] at hq
              subst hq
              refine ⟨?_, ?_, ?_, ?_, ?_⟩ <;> dsimp only
              · rw [e1.1]; omega
              · rw [e1.1]; omega
              · rw [e2.1]; omega
              · rw [e2.1]; omega
              · rw [e1.1, e2.1, Int.toNat_natCast, Int.toNat_natCast]; exact (h9 h).2
            · rw [if_neg (by omega), if_pos (by omega)]
              rfl
          · rw [if_neg h]
            by_cases h' : (nd g x).f0 = 7
            · obtain ⟨m, hm, hml, hmp⟩ := recP_of g (nd g x) (nd g z) ho.range hoz.range (ho.recd h').1 (nd g z).f3 0 (by have := (hoz.recd (by omega)).1; omega) (h7 h')
              rw [hm]
              refine ⟨m, rfl, hmp, ?_⟩
              rw [if_pos (by omega), hml]
              omega
            · rw [hoz.keys (by omega)]
              refine ⟨[], rfl, fun q hq => by simp at hq, ?_⟩
              rw [if_neg (by omega), if_neg (by omega)]
              rfl
        obtain ⟨m, hm, hmp, hml⟩ := hpl
        rw [hmk, hby [], hm]
        refine ⟨rfl, hmp, fun ks => ⟨(hby ks).trans hm, hon ks, fun n hn hall => hform ks n hall ?_⟩⟩
        dsimp only at hn
        rw [hn]
        exact hml
end Go.Proofs.YthkoockcfnbpiaaDoor.F2
namespace Go.Proofs.YthkoockcfnbpiaaDoor.F3
open Go.RowKit Go.Proofs.YthkoockcfnbpiaaDoor G1 G2 S0 S5 S7 S10 S11 F1 F2
set_option linter.unusedVariables false
set_option linter.unusedSimpArgs false
theorem inP_iff {n : Nat} {k : Int} : inP n k = true ↔ 0 ≤ k ∧ k < n := by unfold inP; simp
theorem inP_mono {n m : Nat} {k : Int} (h : inP n k = true) (hm : n ≤ m) : inP m k = true := by
  rw [inP_iff] at h ⊢
  omega
theorem all_mono {n m : Nat} {ks : List Int} (h : ks.all (inP n) = true) (hm : n ≤ m) : ks.all (inP m) = true := by
  rw [List.all_eq_true] at h ⊢
  exact fun k hk => inP_mono (h k hk) hm
theorem getD_of_lt {l : List FC} {i : Nat} (h : i < l.length) : l.getD i zF = l[i] := by
  rw [List.getD_eq_getElem?_getD, List.getElem?_eq_getElem h]
  rfl
theorem pairOf_app {l more : List FC} {k : Int} (h : inP l.length k = true) : pairOf (l ++ more) k = pairOf l k := by
  rw [inP_iff] at h
  unfold pairOf
  rw [List.getD_eq_getElem?_getD, List.getD_eq_getElem?_getD, List.getElem?_append_left (by omega)]
theorem map_app {l more : List FC} {ks : List Int} (h : ks.all (inP l.length) = true) : ks.map (pairOf (l ++ more)) = ks.map (pairOf l) := by
  rw [List.all_eq_true] at h
  exact List.map_congr_left fun k hk => pairOf_app (h k hk)
theorem nodup_len {α : Type} [DecidableEq α] : ∀ (l r : List α), l.Nodup → (∀ x ∈ l, x ∈ r) → l.length ≤ r.length
  | [], r, _, _ => by simp
  | x :: l, r, hn, h => by
    rw [List.nodup_cons] at hn
    have hx := h x (by simp)
    have := nodup_len l (r.erase x) hn.2 (fun y hy => by
      refine (List.mem_erase_of_ne ?_).2 (h y (List.mem_cons_of_mem _ hy))
      rintro rfl
      exact hn.1 hy)
    rw [List.length_erase_of_mem hx] at this
    have : 0 < r.length := List.length_pos_of_mem hx
    simp
    omega
/-- Each pair once, and of each the first may stand for the second. -/
structure Good (g : List GN) (l : List FC) : Prop where
  nodup : (l.map fun f => (f.f0, f.f1)).Nodup
  pr : ∀ f ∈ l, Pr g (f.f0, f.f1)
theorem Good.nil (g : List GN) : Good g [] := ⟨List.nodup_nil, fun f hf => by simp at hf⟩
def allP (n : Nat) : List (Int × Int) := (List.range n).flatMap fun (a : Nat) => (List.range n).map fun (b : Nat) => ((a : Int), (b : Int))
theorem allP_len (n : Nat) : (allP n).length = n * n := by
  unfold allP
  rw [List.length_flatMap]
  simp [List.map_const', List.sum_replicate_nat]
theorem Good.len {g : List GN} {l : List FC} (h : Good g l) : l.length ≤ g.length * g.length := by
  have hle : (l.map fun f => (f.f0, f.f1)).length ≤ (allP g.length).length := nodup_len _ _ h.nodup fun x hx => ?_
  · rw [List.length_map, allP_len] at hle
    exact hle
  obtain ⟨f, hf, rfl⟩ := List.mem_map.1 hx
  have hp := h.pr f hf
  obtain ⟨a, ha⟩ := Int.eq_ofNat_of_zero_le hp.a0
  obtain ⟨b, hb⟩ := Int.eq_ofNat_of_zero_le hp.b0
  have ha1 := hp.a1
  have hb1 := hp.b1
  dsimp only at ha hb ha1 hb1
  unfold allP
  rw [List.mem_flatMap]
  refine ⟨a, List.mem_range.2 (by omega), ?_⟩
  rw [List.mem_map]
  exact ⟨b, List.mem_range.2 (by omega), by rw [ha, hb]⟩
/-- A fact that is all there. -/
structure Done (g : List GN) (l : List FC) (f : FC) : Prop where
  pr : Pr g (f.f0, f.f1)
  why : f.f2 = (mk0 (pickN g) g (f.f0, f.f1)).f2 ++ onP g f
  inn : (onP g f).all (inP l.length) = true
  tgt : (onP g f).map (pairOf l) = (byP g (mk0 (pickN g) g (f.f0, f.f1))).1
theorem Done.app {g : List GN} {l : List FC} {f : FC} (h : Done g l f) (more : List FC) : Done g (l ++ more) f :=
  ⟨h.pr, h.why, all_mono h.inn (by simp), by rw [map_app h.inn]; exact h.tgt⟩
theorem Done.by_ {g : List GN} {l : List FC} {f : FC} (hc : checkP g = 0) (h : Done g l f) : byP g f = byP g (mk0 (pickN g) g (f.f0, f.f1)) ∧ frmP g l.length f = true ∧ holdsP g l f = true := by
  obtain ⟨h1, h2, h3⟩ := step_ok hc h.pr
  obtain ⟨h4, h5, h6⟩ := h3 (onP g f)
  dsimp only at h4 h5 h6
  rw [← h.why] at h4 h6
  refine ⟨h4, h6 _ (by rw [← h.tgt, List.length_map]) h.inn, ?_⟩
  unfold holdsP
  have h4' : byP g f = byP g (mk0 (pickN g) g (f.f0, f.f1)) := h4
  rw [h4', h1, h.tgt]
  simp
theorem edge_app {g : List GN} {l : List FC} {i j : Int} (h : EdgeF g l i j) (more : List FC) : EdgeF g (l ++ more) i j := by
  obtain ⟨f, hf, hj⟩ := h
  exact ⟨f, by rw [List.getElem?_append_left (List.getElem?_eq_some_iff.1 hf).1]; exact hf, hj⟩
theorem rch_mono {g : List GN} {l l' : List FC} (he : ∀ i j, EdgeF g l i j → EdgeF g l' i j) {k i : Int} (h : Rch g l k i) : Rch g l' k i := by
  induction h with
  | refl => exact .refl
  | step i j _ h2 ih => exact .step i j ih (he _ _ h2)
theorem rch_trans {g : List GN} {l : List FC} {k i j : Int} (h : Rch g l k i) (h' : Rch g l i j) : Rch g l k j := by
  induction h' with
  | refl => exact h
  | step a b _ h2 ih => exact .step a b ih h2
theorem rch_app {g : List GN} {l : List FC} {k i : Int} (h : Rch g l k i) (more : List FC) : Rch g (l ++ more) k i := rch_mono (fun _ _ e => edge_app e more) h
/-- What comes of finding facts for pairs. -/
structure Fnd (g : List GN) (l l' : List FC) (ks : List Int) (ps : List (Int × Int)) : Prop where
  ext : ∃ more, l' = l ++ more
  tgt : ks.map (pairOf l') = ps
  inn : ks.all (inP l'.length) = true
  good : Good g l'
  done : ∀ i f, l.length ≤ i → l'[i]? = some f → Done g l' f
  rch : ∀ i : Nat, l.length ≤ i → i < l'.length → ∃ k ∈ ks, Rch g l' k i
theorem Fnd.nil {g : List GN} {l : List FC} (h : Good g l) : Fnd g l l [] [] :=
  ⟨⟨[], by simp⟩, rfl, rfl, h, fun i f hi hf => by have := (List.getElem?_eq_some_iff.1 hf).1; omega, fun i h1 h2 => by omega⟩
theorem Fnd.cons {g : List GN} {l la lb : List FC} {k : Int} {q : Int × Int} {ks : List Int} {r : List (Int × Int)} (h : Fnd g l la [k] [q]) (h' : Fnd g la lb ks r) : Fnd g l lb (k :: ks) (q :: r) := by
  obtain ⟨m1, e1⟩ := h.ext
  obtain ⟨m2, rfl⟩ := h'.ext
  refine ⟨⟨m1 ++ m2, by rw [e1, List.append_assoc]⟩, ?_, ?_, h'.good, fun i f hi hf => ?_, fun i h1 h2 => ?_⟩
  · have hk := map_app (more := m2) h.inn
    rw [h.tgt] at hk
    rw [List.map_cons, h'.tgt]
    exact congrArg (· ++ r) hk
  · rw [List.all_cons, h'.inn]
    have := all_mono (m := (la ++ m2).length) h.inn (by simp)
    simpa using this
  · by_cases hl : la.length ≤ i
    · exact h'.done i f hl hf
    · rw [List.getElem?_append_left (by omega)] at hf
      exact (h.done i f hi hf).app m2
  · by_cases hl : la.length ≤ i
    · obtain ⟨k', hk', hr⟩ := h'.rch i hl h2
      exact ⟨k', List.mem_cons_of_mem _ hk', hr⟩
    · obtain ⟨k', hk', hr⟩ := h.rch i h1 (by omega)
      simp at hk'
      subst hk'
      exact ⟨k', by simp, rch_app hr m2⟩
theorem Fnd.le {g : List GN} {l l' : List FC} {ks : List Int} {ps : List (Int × Int)} (h : Fnd g l l' ks ps) : l.length ≤ l'.length := by
  obtain ⟨m, rfl⟩ := h.ext
  simp
theorem findL_ok {g : List GN} {F : Int × Int → List FC → Int × List FC} {b : Nat} (hF : ∀ p l, Pr g p → Good g l → b ≤ l.length → Fnd g l (F p l).2 [(F p l).1] [p]) :
    ∀ (ps : List (Int × Int)) (l : List FC), (∀ p ∈ ps, Pr g p) → Good g l → b ≤ l.length → Fnd g l (findL F ps l).2 (findL F ps l).1 ps
  | [], l, _, hg, _ => Fnd.nil hg
  | q :: r, l, hp, hg, hb => by
    have h1 := hF q l (hp q (by simp)) hg hb
    exact h1.cons (findL_ok hF r _ (fun p hp' => hp p (List.mem_cons_of_mem _ hp')) h1.good (Nat.le_trans hb h1.le))
theorem isP_iff {p : Int × Int} {f : FC} : isP p f = true ↔ (f.f0, f.f1) = p := by
  obtain ⟨a, b⟩ := p
  unfold isP
  simp
theorem idxP_some {p : Int × Int} {l : List FC} {k : Nat} (h : idxP p l = some k) : k < l.length ∧ pairOf l k = p := by
  unfold idxP at h
  rw [List.findIdx?_eq_some_iff_getElem] at h
  obtain ⟨hk, h1, _⟩ := h
  refine ⟨hk, ?_⟩
  unfold pairOf
  rw [Int.toNat_natCast, getD_of_lt hk]
  exact isP_iff.1 h1
theorem idxP_none {p : Int × Int} {l : List FC} (h : idxP p l = none) : p ∉ l.map fun f => (f.f0, f.f1) := by
  unfold idxP at h
  rw [List.findIdx?_eq_none_iff] at h
  intro hm
  obtain ⟨f, hf, e⟩ := List.mem_map.1 hm
  have := h f hf
  rw [isP_iff.2 e] at this
  cases this
theorem open_on (g : List GN) (p : Int × Int) : onP g (openF p) = [] := by
  unfold onP
  show (if (nd g p.1).f0 = 8 then ([] : List Int) else ([] : List Int).drop 1) = []
  split <;> rfl
theorem Good.snoc {g : List GN} {l : List FC} {f : FC} (h : Good g l) (hp : Pr g (f.f0, f.f1)) (hn : (f.f0, f.f1) ∉ l.map fun f => (f.f0, f.f1)) : Good g (l ++ [f]) := by
  refine ⟨?_, fun x hx => ?_⟩
  · rw [List.map_append, List.nodup_append]
    refine ⟨h.nodup, by simp, fun a ha b hb e => ?_⟩
    simp at hb
    subst hb
    subst e
    exact hn ha
  · rcases List.mem_append.1 hx with hx | hx
    · exact h.pr x hx
    · simp at hx
      subst hx
      exact hp
theorem set_mid (l more : List FC) (a b : FC) : (l ++ [a] ++ more).set l.length b = l ++ b :: more := by
  rw [List.append_assoc, List.set_append_right _ _ (Nat.le_refl _)]
  simp
theorem pairOf_mid (l more : List FC) (a b : FC) (h : (a.f0, a.f1) = (b.f0, b.f1)) (k : Int) : pairOf (l ++ b :: more) k = pairOf (l ++ [a] ++ more) k := by
  have h1 : a.f0 = b.f0 := congrArg Prod.fst h
  have h2 : a.f1 = b.f1 := congrArg Prod.snd h
  unfold pairOf
  rw [List.append_assoc, List.getD_eq_getElem?_getD, List.getD_eq_getElem?_getD]
  rcases Nat.lt_trichotomy k.toNat l.length with hk | hk | hk
  · rw [List.getElem?_append_left hk, List.getElem?_append_left hk]
  · rw [List.getElem?_append_right (by omega), List.getElem?_append_right (by omega), hk]
    simp [h1, h2]
  · rw [List.getElem?_append_right (by omega), List.getElem?_append_right (by omega)]
    obtain ⟨m, hm⟩ : ∃ m, k.toNat - l.length = m + 1 := ⟨k.toNat - l.length - 1, by omega⟩
    rw [hm]
    simp
theorem findP_ok {g : List GN} (hc : checkP g = 0) : ∀ (n : Nat) (p : Int × Int) (l : List FC), Pr g p → Good g l → g.length * g.length < n + l.length →
    Fnd g l (findP (pickN g) g n p l).2 [(findP (pickN g) g n p l).1] [p]
  | 0, p, l, hp, hg, hb => by
    have := hg.len
    omega
  | n + 1, p, l, hp, hg, hb => by
    unfold findP
    cases hi : idxP p l with
    | some k =>
      obtain ⟨hk, e⟩ := idxP_some hi
      refine ⟨⟨[], by simp⟩, ?_, ?_, hg, fun i f h1 hf => ?_, fun i h1 h2 => ?_⟩
      · simp [e]
      · dsimp only
        simp [inP_iff]
        omega
      · have := (List.getElem?_eq_some_iff.1 hf).1
        dsimp only at this
        omega
      · dsimp only at h2
        omega
    | none =>
      have hn := idxP_none hi
      have hg1 : Good g (l ++ [openF p]) := hg.snoc hp hn
      obtain ⟨s1, s2, s3⟩ := step_ok hc hp
      have hL := findL_ok (b := l.length + 1) (F := findP (pickN g) g n) (fun p l hp hg hb => findP_ok hc n p l hp hg (by omega)) (byP g (mk0 (pickN g) g p)).1 (l ++ [openF p]) s2 hg1 (by simp)
      dsimp only
      generalize findL (findP (pickN g) g n) (byP g (mk0 (pickN g) g p)).1 (l ++ [openF p]) = R at hL
      obtain ⟨ks, l2⟩ := R
      dsimp only at hL ⊢
      obtain ⟨⟨more, rfl⟩, hto, hinn, hgood, hdone, hrch⟩ := hL
      rw [set_mid]
      obtain ⟨k1, k2, k3⟩ := s3 ks
      generalize hf' : (⟨p.1, p.2, (mk0 (pickN g) g p).f2 ++ ks⟩ : FC) = f' at k1 k2 k3 ⊢
      have hpf : (f'.f0, f'.f1) = p := by rw [← hf']
      have hpe : ((openF p).f0, (openF p).f1) = (f'.f0, f'.f1) := by rw [hpf]; rfl
      have hPO : ∀ k, pairOf (l ++ f' :: more) k = pairOf (l ++ [openF p] ++ more) k := pairOf_mid l more _ _ hpe
      have hlen : (l ++ f' :: more).length = (l ++ [openF p] ++ more).length := by simp
      have hget : ∀ i, i ≠ l.length → (l ++ f' :: more)[i]? = (l ++ [openF p] ++ more)[i]? := fun i hi => by
        rw [List.append_assoc]
        rcases Nat.lt_or_ge i l.length with h | h
        · rw [List.getElem?_append_left h, List.getElem?_append_left h]
        · rw [List.getElem?_append_right h, List.getElem?_append_right h]
          obtain ⟨m, hm⟩ : ∃ m, i - l.length = m + 1 := ⟨i - l.length - 1, by omega⟩
          rw [hm]
          rfl
      have hmid : (l ++ f' :: more)[l.length]? = some f' := by simp
      have hmid0 : (l ++ [openF p] ++ more)[l.length]? = some (openF p) := by simp
      have hedge : ∀ i j, EdgeF g (l ++ [openF p] ++ more) i j → EdgeF g (l ++ f' :: more) i j := fun i j he => by
        obtain ⟨f, hf, hj⟩ := he
        by_cases hi : i.toNat = l.length
        · rw [hi, hmid0] at hf
          cases hf
          rw [open_on] at hj
          simp at hj
        · exact ⟨f, by rw [hget _ hi]; exact hf, hj⟩
      have hDm : ∀ f, Done g (l ++ [openF p] ++ more) f → Done g (l ++ f' :: more) f := fun f h =>
        ⟨h.pr, h.why, by rw [hlen]; exact h.inn, by rw [List.map_congr_left fun k _ => hPO k]; exact h.tgt⟩
      refine ⟨⟨f' :: more, rfl⟩, ?_, ?_, ?_, fun i f h1 hf => ?_, fun i h1 h2 => ?_⟩
      · simp only [List.map_cons, List.map_nil]
        unfold pairOf
        rw [Int.toNat_natCast, List.getD_eq_getElem?_getD, hmid]
        exact congrArg (· :: []) hpf
      · simp [inP_iff]
        omega
      · refine ⟨?_, fun f hf => ?_⟩
        · have := hgood.nodup
          simp only [List.map_append, List.map_cons, List.map_nil, List.append_assoc, List.cons_append, List.nil_append] at this ⊢
          rw [← hpe]
          exact this
        · rcases List.mem_append.1 hf with hf | hf
          · exact hgood.pr f (by simp [hf])
          · rcases List.mem_cons.1 hf with rfl | hf
            · rw [hpf]; exact hp
            · exact hgood.pr f (by simp [hf])
      · by_cases hi : i = l.length
        · subst hi
          rw [hmid] at hf
          cases hf
          refine ⟨by rw [hpf]; exact hp, ?_, ?_, ?_⟩
          · rw [k2, hpf, ← hf']
          · rw [k2, hlen]; exact hinn
          · rw [k2, hpf, List.map_congr_left fun k _ => hPO k]; exact hto
        · rw [hget i hi] at hf
          refine hDm f (hdone i f ?_ hf)
          simp
          omega
      · refine ⟨(l.length : Int), by simp, ?_⟩
        by_cases hi : i = l.length
        · subst hi
          exact .refl
        · obtain ⟨k, hk, hr⟩ := hrch i (by simp; omega) (by rw [← hlen]; exact h2)
          refine rch_trans (.step _ _ .refl ⟨f', by rw [Int.toNat_natCast]; exact hmid, ?_⟩) (rch_mono hedge hr)
          rw [k2]
          exact hk
/-- What Find finds. -/
def findsP (pk : Int → Int → Int) (g : List GN) (ps : List (Int × Int)) : List Int × List FC := findL (findP pk g (g.length * g.length + 1)) ps []
theorem finds_ok {g : List GN} (hc : checkP g = 0) {ps : List (Int × Int)} (hp : ∀ p ∈ ps, Pr g p) : Fnd g [] (findsP (pickN g) g ps).2 (findsP (pickN g) g ps).1 ps :=
  findL_ok (b := 0) (fun p l hp hg hb => findP_ok hc _ p l hp hg (by omega)) ps [] hp (Good.nil g) (Nat.le_refl _)
theorem findL_app (F : Int × Int → List FC → Int × List FC) : ∀ (a b : List (Int × Int)) (l : List FC), findL F (a ++ b) l = ((findL F a l).1 ++ (findL F b (findL F a l).2).1, (findL F b (findL F a l).2).2)
  | [], b, l => rfl
  | q :: r, b, l => by
    have ih := findL_app F r b (F q l).2
    simp only [List.cons_append, findL, ih]
theorem Fnd.all {g : List GN} (hc : checkP g = 0) {l : List FC} {ks : List Int} {ps : List (Int × Int)} (h : Fnd g [] l ks ps) {f : FC} (hf : f ∈ l) : Done g l f := by
  obtain ⟨i, hi, rfl⟩ := List.getElem_of_mem hf
  exact h.done i _ (Nat.zero_le _) (List.getElem?_eq_getElem hi)
theorem Fnd.check {g : List GN} (hc : checkP g = 0) (hl : g.length ≤ 16) {l : List FC} {ks : List Int} {ps : List (Int × Int)} (h : Fnd g [] l ks ps) : checkFP g l = 0 := by
  have h1 := h.good.len
  have h2 : g.length * g.length ≤ 16 * 16 := Nat.mul_le_mul hl hl
  unfold checkFP
  rw [if_neg (by omega), if_neg (by omega), if_pos]
  rw [List.all_eq_true]
  exact fun f hf => ((h.all hc hf).by_ hc).2.1
theorem Fnd.first {g : List GN} (hc : checkP g = 0) (hl : g.length ≤ 16) {l : List FC} {ks : List Int} {ps : List (Int × Int)} (h : Fnd g [] l ks ps) : firstP g l = (-1, 0) := by
  unfold firstP
  rw [if_neg (by rw [h.check hc hl]; simp)]
  have : l.findIdx? (fun f => !holdsP g l f) = none := by
    rw [List.findIdx?_eq_none_iff]
    intro f hf
    rw [((h.all hc hf).by_ hc).2.2]
    rfl
  rw [this]
end Go.Proofs.YthkoockcfnbpiaaDoor.F3

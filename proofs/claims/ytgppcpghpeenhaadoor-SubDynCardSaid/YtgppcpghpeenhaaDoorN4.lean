/- Forms, compared: plain law, no program. -/
import Derived.Test.YtgppcpghpeenhaaDoorProg
import Derived.Test.YtgppcpghpeenhaaDoorWWords
import Derived.Test.YtgppcpghpeenhaaDoorWLast
import Derived.Test.YtgppcpghpeenhaaDoorN3
namespace Go.Proofs.YtgppcpghpeenhaaDoor.N4
open Go.RowKit Go.Proofs.YtgppcpghpeenhaaDoorW.PrintWords Go.Proofs.YtgppcpghpeenhaaDoor L1 L4 G1 G2 S3 S4 S5 N1 N2 N3
set_option linter.unusedVariables false
set_option linter.unusedSimpArgs false
def cmpB (a b : UInt8) : Int := cmpI (a.toNat : Int) (b.toNat : Int)
theorem cmpB_to : TO cmpB := by
  refine ⟨fun a b => cmpI_to.val _ _, fun a b => ?_, fun a b => cmpI_to.anti _ _, fun a b d => cmpI_to.trans _ _ _⟩
  unfold cmpB
  rw [cmpI_to.eq, Int.ofNat_inj, UInt8.toNat_inj]
def cmpS (a b : ByteArray) : Int := cmpL cmpB a.toList b.toList
theorem less_iff : ∀ (a b : List UInt8), Op.bytesLess a b = true ↔ cmpL cmpB a b = -1
  | [], [] => by simp [Op.bytesLess, cmpL]
  | a :: l, [] => by simp [Op.bytesLess, cmpL]
  | [], b :: m => by simp [Op.bytesLess, cmpL]
  | a :: l, b :: m => by
    unfold Op.bytesLess cmpL
    rw [Bool.or_eq_true, Bool.and_eq_true, decide_eq_true_eq, beq_iff_eq, less_iff l m]
    by_cases h : a = b
    · subst h
      rw [if_pos ((cmpB_to.eq a a).2 rfl)]
      have : ¬ a < a := UInt8.lt_irrefl a
      simp [this]
    · have hne : cmpB a b ≠ 0 := fun e => h ((cmpB_to.eq a b).1 e)
      rw [if_neg hne]
      constructor
      · rintro (h1 | h1)
        · unfold cmpB cmpI
          have : a.toNat < b.toNat := UInt8.lt_iff_toNat_lt.1 h1
          rw [if_pos (by omega)]
        · exact absurd h1.1 h
      · intro h1
        left
        unfold cmpB cmpI at h1
        split at h1
        · exact UInt8.lt_iff_toNat_lt.2 (by omega)
        · split at h1 <;> cases h1
theorem toList_inj_ {a b : ByteArray} (h : a.toList = b.toList) : a = b := by
  rw [toList_data, toList_data] at h
  cases a; cases b
  simp at h
  rw [h]
theorem cmpS_to : TO cmpS :=
  ⟨fun a b => (cmpL_to cmpB_to).val _ _, fun a b => by
    unfold cmpS
    rw [(cmpL_to cmpB_to).eq]
    exact ⟨toList_inj_, fun e => by rw [e]⟩, fun a b => (cmpL_to cmpB_to).anti _ _, fun a b d => (cmpL_to cmpB_to).trans _ _ _⟩
/-- What cmp.Compare of texts answers. -/
theorem cmpS_eq (a b : ByteArray) : cmpS a b = if Op.bytesLess a.toList b.toList then -1 else if Op.bytesLess b.toList a.toList then 1 else 0 := by
  have h1 := less_iff a.toList b.toList
  have h2 := less_iff b.toList a.toList
  have ha := cmpS_to.anti a b
  unfold cmpS at *
  split
  · rename_i h; exact h1.1 h
  · rename_i h
    split
    · rename_i h'
      have := h2.1 h'
      omega
    · rename_i h'
      rcases (cmpL_to cmpB_to).val a.toList b.toList with e | e | e
      · exact absurd (h1.2 e) h
      · exact e
      · exact absurd (h2.2 (by omega)) h'
/-- A node's form: its rank, itself, of each place that it has the ranks of what that is of. -/
structure Fm where
  node : GN
  rank : Int
  sets : List (List Int)
/-- Which of two forms comes ahead. -/
def cmpF (a b : Fm) : Int :=
  if cmpI a.rank b.rank = 0 then
    if cmpI a.node.f0 b.node.f0 = 0 then
      if cmpI a.node.f1 b.node.f1 = 0 then
        if cmpS a.node.f2 b.node.f2 = 0 then
          if cmpI (a.node.f3.length : Int) (b.node.f3.length : Int) = 0 then
            if cmpL cmpS a.node.f3 b.node.f3 = 0 then cmpL (cmpL cmpI) a.sets b.sets
            else cmpL cmpS a.node.f3 b.node.f3
          else cmpI (a.node.f3.length : Int) (b.node.f3.length : Int)
        else cmpS a.node.f2 b.node.f2
      else cmpI a.node.f1 b.node.f1
    else cmpI a.node.f0 b.node.f0
  else cmpI a.rank b.rank
theorem cmpF_po : PO cmpF :=
  (PO.of cmpI_to Fm.rank).then ((PO.of cmpI_to (fun x : Fm => x.node.f0)).then ((PO.of cmpI_to (fun x : Fm => x.node.f1)).then ((PO.of cmpS_to (fun x : Fm => x.node.f2)).then
    ((PO.of cmpI_to (fun x : Fm => (x.node.f3.length : Int))).then ((PO.of (cmpL_to cmpS_to) (fun x : Fm => x.node.f3)).then (PO.of (cmpL_to (cmpL_to cmpI_to)) Fm.sets))))))
theorem cmpF_zero (a b : Fm) : cmpF a b = 0 ↔ a.rank = b.rank ∧ a.node.f0 = b.node.f0 ∧ a.node.f1 = b.node.f1 ∧ a.node.f2 = b.node.f2 ∧ a.node.f3 = b.node.f3 ∧ a.sets = b.sets := by
  unfold cmpF
  have e1 := cmpI_to.eq a.rank b.rank
  have e2 := cmpI_to.eq a.node.f0 b.node.f0
  have e3 := cmpI_to.eq a.node.f1 b.node.f1
  have e4 := cmpS_to.eq a.node.f2 b.node.f2
  have e5 := cmpI_to.eq (a.node.f3.length : Int) (b.node.f3.length : Int)
  have e6 := (cmpL_to cmpS_to).eq a.node.f3 b.node.f3
  have e7 := (cmpL_to (cmpL_to cmpI_to)).eq a.sets b.sets
  by_cases h1 : cmpI a.rank b.rank = 0
  · rw [if_pos h1]
    by_cases h2 : cmpI a.node.f0 b.node.f0 = 0
    · rw [if_pos h2]
      by_cases h3 : cmpI a.node.f1 b.node.f1 = 0
      · rw [if_pos h3]
        by_cases h4 : cmpS a.node.f2 b.node.f2 = 0
        · rw [if_pos h4]
          by_cases h5 : cmpI (a.node.f3.length : Int) (b.node.f3.length : Int) = 0
          · rw [if_pos h5]
            by_cases h6 : cmpL cmpS a.node.f3 b.node.f3 = 0
            · rw [if_pos h6, e7]
              exact ⟨fun h => ⟨e1.1 h1, e2.1 h2, e3.1 h3, e4.1 h4, e6.1 h6, h⟩, fun h => h.2.2.2.2.2⟩
            · rw [if_neg h6]
              exact ⟨fun h => absurd h h6, fun h => absurd (e6.2 h.2.2.2.2.1) h6⟩
          · rw [if_neg h5]
            exact ⟨fun h => absurd h h5, fun h => absurd (e5.2 (by rw [h.2.2.2.2.1])) h5⟩
        · rw [if_neg h4]
          exact ⟨fun h => absurd h h4, fun h => absurd (e4.2 h.2.2.2.1) h4⟩
      · rw [if_neg h3]
        exact ⟨fun h => absurd h h3, fun h => absurd (e3.2 h.2.2.1) h3⟩
    · rw [if_neg h2]
      exact ⟨fun h => absurd h h2, fun h => absurd (e2.2 h.2.1) h2⟩
  · rw [if_neg h1]
    exact ⟨fun h => absurd h h1, fun h => absurd (e1.2 h.1) h1⟩
/-- The ranks of what a place is of, rising, each once. -/
def SetOf (g : List GN) (r : Int → Int) (n : Int) (s : List Int) : Prop := Srt s ∧ ∀ v, v ∈ s ↔ v ∈ (membersP g n).map r
theorem setOf_iff {g : List GN} {r : Int → Int} {m n : Int} {s t : List Int} (hs : SetOf g r m s) (ht : SetOf g r n t) : s = t ↔ Mt g (fun x y => r x = r y) m n := by
  constructor
  · rintro rfl
    refine ⟨fun x hx => ?_, fun y hy => ?_⟩
    · obtain ⟨y, hy, e⟩ := List.mem_map.1 ((ht.2 (r x)).1 ((hs.2 (r x)).2 (List.mem_map.2 ⟨x, hx, rfl⟩)))
      exact ⟨y, hy, e.symm⟩
    · obtain ⟨x, hx, e⟩ := List.mem_map.1 ((hs.2 (r y)).1 ((ht.2 (r y)).2 (List.mem_map.2 ⟨y, hy, rfl⟩)))
      exact ⟨x, hx, e⟩
  · intro h
    refine srt_eq hs.1 ht.1 fun v => ?_
    rw [hs.2, ht.2]
    constructor
    · intro hv
      obtain ⟨x, hx, rfl⟩ := List.mem_map.1 hv
      obtain ⟨y, hy, e⟩ := h.1 x hx
      exact List.mem_map.2 ⟨y, hy, e.symm⟩
    · intro hv
      obtain ⟨y, hy, rfl⟩ := List.mem_map.1 hv
      obtain ⟨x, hx, e⟩ := h.2 y hy
      exact List.mem_map.2 ⟨x, hx, e⟩
/-- What a node's form is. -/
structure FmOf (g : List GN) (r : Int → Int) (a : Int) (f : Fm) : Prop where
  node : f.node = nd g a
  rank : f.rank = r a
  len : f.sets.length = (nd g a).f4.length
  sets : ∀ (i : Nat) (s : List Int), f.sets[i]? = some s → SetOf g r (rd (nd g a).f4 (i : Int)) s
theorem form_zero {g : List GN} (hc : checkP g = 0) {r : Int → Int} {a b : Int} {x y : Fm} (hx : FmOf g r a x) (hy : FmOf g r b y) : cmpF x y = 0 ↔ r a = r b ∧ Near g (fun x y => r x = r y) a b := by
  rw [cmpF_zero, hx.rank, hy.rank, hx.node, hy.node]
  unfold Near Lab
  constructor
  · rintro ⟨h1, h2, h3, h4, h5, h6⟩
    have hl : (nd g a).f4.length = (nd g b).f4.length := by rw [← hx.len, ← hy.len, h6]
    refine ⟨h1, ⟨h2, h3, h4, h5, hl⟩, fun i hi => ?_⟩
    have hi2 : i < x.sets.length := by rw [hx.len]; exact hi
    have e1 := hx.sets i _ (List.getElem?_eq_getElem hi2)
    have e2 := hy.sets i x.sets[i] (by rw [← h6]; exact List.getElem?_eq_getElem hi2)
    exact (setOf_iff e1 e2).1 rfl
  · rintro ⟨h1, ⟨h2, h3, h4, h5, hl⟩, hm⟩
    refine ⟨h1, h2, h3, h4, h5, ?_⟩
    have hll : x.sets.length = y.sets.length := by rw [hx.len, hy.len, hl]
    apply List.ext_getElem hll
    intro i hi hi2
    have hi3 : i < (nd g a).f4.length := by rw [← hx.len]; exact hi
    exact (setOf_iff (hx.sets i _ (List.getElem?_eq_getElem hi)) (hy.sets i _ (List.getElem?_eq_getElem hi2))).2 (hm i hi3)
end Go.Proofs.YtgppcpghpeenhaaDoor.N4

/- A square table whose rows lie in blocks of their own, and are written. -/
import Derived.Test.YtgllcpimkjlklaaDoorProg
import Derived.Below
import Derived.Deep.Draws
import Derived.Deep.AppendLies
import Derived.Maps.AppendAt
import Derived.OwnWalk
import Derived.Laws.BytesArg
import Derived.Laws.MakeOwn
import Derived.Laws.OwnMore
import Derived.Deep.OwnRows
import Derived.Tactics
import Derived.Lib.ConvBytes
import Derived.Laws.Slices
import Derived.WalkKit
import Derived.KernelRfl
import Derived.RowKit3
import Derived.Deep.LoopGhost
import Derived.Deep.QuietTactic
import Derived.BigQuiet
import Derived.WideLaws
import Derived.Deep.DeepCutAuto
import Derived.Deep.CutBlock
import Derived.Deep.RegionHeld3
import Derived.Laws.Rows
import Derived.Lib.AppendStr
import Derived.ArgAppend
import Derived.Laws.IdiomCopy
import Derived.OrdersHeld
import Derived.Laws.BitsLemmas
import Derived.RowKit
import Derived.WalkSpells
import Derived.Laws.CopyOwn
import Derived.Test.YtgllcpimkjlklaaDoorWWords
import Derived.Test.YtgllcpimkjlklaaDoorWLast
import Derived.Test.YtgllcpimkjlklaaDoorR5
namespace Go.Proofs.YtgllcpimkjlklaaDoor.V2
open Go.RowKit Go.Proofs.YtgllcpimkjlklaaDoorW.PrintWords Go.Proofs.YtgllcpimkjlklaaDoorW.PrintLast Go.Proofs.YtgllcpimkjlklaaDoorW.PrintMore Go.Proofs.YtgllcpimkjlklaaDoor Go.Proofs.YtgllcpimkjlklaaDoor.R5
set_option linter.unusedVariables false
set_option linter.unusedSimpArgs false
structure TB (w : World) (qi N n : Nat) (blk cap : Nat → Nat) (f : Nat → Nat → Bool) (base : Nat) : Prop where
  hq : ∃ ci : Array Value, w.heap[qi]? = some (.cells ci 45 (0, 0)) ∧ N ≤ ci.size ∧ ∀ a, a < n → ci[a]? = some (.slice (some ⟨blk a, 0, none⟩) N (cap a))
  hb : base ≤ qi
  hr : ∀ a, a < n → base ≤ blk a ∧ N ≤ cap a ∧ ∃ cs : Array Value, w.heap[blk a]? = some (.cells cs 4 (0, 0)) ∧ N ≤ cs.size ∧ ∀ b, b < N → cs[b]? = some (.bool (f a b))
  inj : ∀ a b, a < n → b < n → blk a = blk b → a = b
variable {w w' : World} {qi N n base : Nat} {blk cap : Nat → Nat} {f : Nat → Nat → Bool}
theorem ty_ne : (4 : TypeId) ≠ 45 := by decide
theorem TB.below (h : TB w qi N n blk cap f base) (hb : Below w.heap.size w w') : TB w' qi N n blk cap f base := by
  obtain ⟨ci, h1, h2, h3⟩ := h.hq
  refine ⟨⟨ci, (hb.block qi (blk_lt h1)).trans h1, h2, h3⟩, h.hb, fun a ha => ?_, h.inj⟩
  obtain ⟨k1, k2, cs, k3, k4, k5⟩ := h.hr a ha
  exact ⟨k1, k2, cs, (hb.block _ (blk_lt k3)).trans k3, k4, k5⟩
theorem TB.row (h : TB w qi N n blk cap f base) {a : Nat} (ha : a < n) : w.cell? ⟨qi, a, none⟩ = some (.slice (some ⟨blk a, 0, none⟩) N (cap a)) := by
  obtain ⟨ci, h1, _, h3⟩ := h.hq
  exact (blk_cell h1 a).trans (h3 a ha)
theorem TB.slot (h : TB w qi N n blk cap f base) {a : Nat} (ha : a < N) : ∃ v, w.cell? ⟨qi, a, none⟩ = some v ∧ w.frozen? ⟨qi, a, none⟩ = false := by
  obtain ⟨ci, h1, h2, _⟩ := h.hq
  exact ⟨ci[a]'(by omega), (blk_cell h1 a).trans (Array.getElem?_eq_getElem _), blk_frozen h1 a⟩
theorem TB.cell (h : TB w qi N n blk cap f base) {a b : Nat} (ha : a < n) (hb : b < N) : w.cell? ⟨blk a, b, none⟩ = some (.bool (f a b)) ∧ w.frozen? ⟨blk a, b, none⟩ = false := by
  obtain ⟨_, _, cs, k3, _, k5⟩ := h.hr a ha
  exact ⟨(blk_cell k3 b).trans (k5 b hb), blk_frozen k3 b⟩
def fput (f : Nat → Nat → Bool) (a b : Nat) (v : Bool) : Nat → Nat → Bool := fun x y => if x = a ∧ y = b then v else f x y
theorem TB.put (h : TB w qi N n blk cap f base) {a b : Nat} (ha : a < n) (hb : b < N) (v : Bool) : TB (w.setCell ⟨blk a, b, none⟩ (.bool v)) qi N n blk cap (fput f a b v) base := by
  obtain ⟨ci, h1, h2, h3⟩ := h.hq
  obtain ⟨_, _, ca, ka, _, _⟩ := h.hr a ha
  have hne : qi ≠ blk a := fun e => by
    rw [← e] at ka
    exact blk_ne ka h1 ty_ne rfl
  refine ⟨⟨ci, blk_far h1 hne _, h2, h3⟩, h.hb, fun x hx => ?_, h.inj⟩
  obtain ⟨k1, k2, cs, k3, k4, k5⟩ := h.hr x hx
  by_cases e : x = a
  · subst e
    refine ⟨k1, k2, _, blk_set k3 b _, by simp; exact k4, fun y hy => ?_⟩
    unfold fput
    by_cases e2 : y = b
    · subst e2
      rw [if_pos ⟨rfl, rfl⟩, Array.getElem?_setIfInBounds_self_of_lt (by omega)]
    · rw [if_neg (fun h => e2 h.2), Array.getElem?_setIfInBounds_ne (fun h => e2 h.symm)]
      exact k5 y hy
  · have hb2 : blk x ≠ blk a := fun e2 => e (h.inj x a hx ha e2)
    refine ⟨k1, k2, cs, blk_far k3 hb2 _, k4, fun y hy => ?_⟩
    unfold fput
    rw [if_neg (fun h => e h.1)]
    exact k5 y hy
theorem TB.add (h : TB w qi N n blk cap f base) (hn : n < N) {g c : Nat} {cs : Array Value} {f' : Nat → Nat → Bool} (hg : w.heap[g]? = some (.cells cs 4 (0, 0))) (hbase : base ≤ g) (hc : N ≤ c) (hs : N ≤ cs.size) (hnew : ∀ a, a < n → blk a ≠ g)
    (hf : ∀ a, a < n → ∀ b, b < N → f' a b = f a b) (hf' : ∀ b, b < N → cs[b]? = some (.bool (f' n b))) :
    TB (w.setCell ⟨qi, n, none⟩ (.slice (some ⟨g, 0, none⟩) N c)) qi N (n + 1) (fun a => if a = n then g else blk a) (fun a => if a = n then c else cap a) f' base := by
  obtain ⟨ci, h1, h2, h3⟩ := h.hq
  refine ⟨⟨_, blk_set h1 n _, by simp; exact h2, fun a ha => ?_⟩, h.hb, fun a ha => ?_, fun a b ha hb e => ?_⟩
  · by_cases e : a = n
    · subst e
      rw [if_pos rfl, if_pos rfl, Array.getElem?_setIfInBounds_self_of_lt (by omega)]
    · rw [if_neg e, if_neg e, Array.getElem?_setIfInBounds_ne (fun h => e h.symm)]
      exact h3 a (by omega)
  · by_cases e : a = n
    · subst e
      rw [if_pos rfl, if_pos rfl]
      have hne : g ≠ qi := fun e => by
        rw [e] at hg
        exact blk_ne hg h1 ty_ne rfl
      exact ⟨hbase, hc, cs, blk_far hg hne _, hs, hf'⟩
    · rw [if_neg e, if_neg e]
      obtain ⟨k1, k2, ca, k3, k4, k5⟩ := h.hr a (by omega)
      have hne : blk a ≠ qi := fun e => by
        rw [e] at k3
        exact blk_ne k3 h1 ty_ne rfl
      exact ⟨k1, k2, ca, blk_far k3 hne _, k4, fun b hb => by rw [hf a (by omega) b hb]; exact k5 b hb⟩
  · by_cases e1 : a = n
    · by_cases e2 : b = n
      · omega
      · simp only [if_pos e1, if_neg e2] at e
        exact absurd e.symm (hnew b (by omega))
    · by_cases e2 : b = n
      · simp only [if_neg e1, if_pos e2] at e
        exact absurd e (hnew a (by omega))
      · simp only [if_neg e1, if_neg e2] at e
        exact h.inj a b (by omega) (by omega) e
/-- The table as a list. -/
def tabF (f : Nat → Nat → Bool) (N : Nat) : List (List Bool) := (List.range N).map fun a => (List.range N).map (f a)
theorem tabF_len (f : Nat → Nat → Bool) (N : Nat) : (tabF f N).length = N := by simp [tabF]
theorem TB.C (h : TB w qi N N blk cap f base) (hN : N ≤ 1000) : Kd.C (Kd.slice 4 Kd.bool) w (some ⟨qi, 0, none⟩) N (tabF f N) := by
  refine ⟨tabF_len f N, by omega, fun _ => ⟨_, rfl, fun a r ha => ?_⟩⟩
  have hal : a < N := by
    have := (List.getElem?_eq_some_iff.1 ha).1
    rwa [tabF_len] at this
  have hr : r = (List.range N).map (f a) := by
    unfold tabF at ha
    rw [List.getElem?_map, List.getElem?_range hal] at ha
    simpa using ha.symm
  subst hr
  have hlen : ((List.range N).map (f a)).length = N := by simp
  refine ⟨[.slice (some ⟨blk a, 0, none⟩) N (cap a)], rfl, ?_, fun i u hu => ?_⟩
  · refine ⟨some ⟨blk a, 0, none⟩, cap a, by rw [hlen], by rw [hlen]; exact (h.hr a hal).2.1, ?_⟩
    rw [hlen]
    refine ⟨hlen, by omega, fun _ => ⟨_, rfl, fun b v hb => ⟨[.bool v], rfl, rfl, fun i u hu => ?_⟩⟩⟩
    have hbl : b < N := by
      have := (List.getElem?_eq_some_iff.1 hb).1
      rwa [hlen] at this
    have hv : v = f a b := by
      rw [List.getElem?_map, List.getElem?_range hbl] at hb
      simpa using hb.symm
    rcases i with _ | i
    · simp at hu
      subst hu
      rw [hv, add_plain, show b * Kd.bool.sz + 0 = b by show b * 1 + 0 = b; omega]
      exact (h.cell hal hbl).1
    · simp at hu
  · rcases i with _ | i
    · simp at hu
      subst hu
      rw [add_plain, show a * (Kd.slice 4 Kd.bool).sz + 0 = a by show a * 1 + 0 = a; omega]
      exact h.row hal
    · simp at hu
end Go.Proofs.YtgllcpimkjlklaaDoor.V2

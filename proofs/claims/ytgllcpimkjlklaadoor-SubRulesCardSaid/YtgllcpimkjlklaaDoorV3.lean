/- The plain law of taking away: what is left is the greatest relation. -/
import Derived.Test.YtgllcpimkjlklaaDoorProg
import Derived.Below
import Derived.Deep.Draws
import Derived.Deep.AppendLies
import Derived.Maps.AppendAt
import Derived.OwnWalk
import Derived.Laws.BytesArg
import Derived.Laws.MakeOwn
import Derived.Laws.OwnMore
import Derived.Deep.OwnRows
import Derived.Tactics
import Derived.Lib.ConvBytes
import Derived.Laws.Slices
import Derived.WalkKit
import Derived.KernelRfl
import Derived.RowKit3
import Derived.Deep.LoopGhost
import Derived.Deep.QuietTactic
import Derived.BigQuiet
import Derived.WideLaws
import Derived.Deep.DeepCutAuto
import Derived.Deep.CutBlock
import Derived.Deep.RegionHeld3
import Derived.Laws.Rows
import Derived.Lib.AppendStr
import Derived.ArgAppend
import Derived.Laws.IdiomCopy
import Derived.OrdersHeld
import Derived.Laws.BitsLemmas
import Derived.RowKit
import Derived.WalkSpells
import Derived.Laws.CopyOwn
import Derived.Test.YtgllcpimkjlklaaDoorWWords
import Derived.Test.YtgllcpimkjlklaaDoorWLast
import Derived.Test.YtgllcpimkjlklaaDoorV1
import Derived.Test.YtgllcpimkjlklaaDoorV2
namespace Go.Proofs.YtgllcpimkjlklaaDoor.V3
open Go.RowKit Go.Proofs.YtgllcpimkjlklaaDoorW.PrintWords Go.Proofs.YtgllcpimkjlklaaDoorW.PrintLast Go.Proofs.YtgllcpimkjlklaaDoorW.PrintMore Go.Proofs.YtgllcpimkjlklaaDoor Go.Proofs.YtgllcpimkjlklaaDoor.L1 Go.Proofs.YtgllcpimkjlklaaDoor.L2 Go.Proofs.YtgllcpimkjlklaaDoor.L4 Go.Proofs.YtgllcpimkjlklaaDoor.G1 Go.Proofs.YtgllcpimkjlklaaDoor.G2 Go.Proofs.YtgllcpimkjlklaaDoor.S0 Go.Proofs.YtgllcpimkjlklaaDoor.S2 Go.Proofs.YtgllcpimkjlklaaDoor.S3 Go.Proofs.YtgllcpimkjlklaaDoor.S4 Go.Proofs.YtgllcpimkjlklaaDoor.S5 Go.Proofs.YtgllcpimkjlklaaDoor.S7 Go.Proofs.YtgllcpimkjlklaaDoor.R1 Go.Proofs.YtgllcpimkjlklaaDoor.R3 Go.Proofs.YtgllcpimkjlklaaDoor.R5 Go.Proofs.YtgllcpimkjlklaaDoor.R6 Go.Proofs.YtgllcpimkjlklaaDoor.R7 Go.Proofs.YtgllcpimkjlklaaDoor.V1 Go.Proofs.YtgllcpimkjlklaaDoor.V2
set_option linter.unusedVariables false
set_option linter.unusedSimpArgs false
theorem tb_tabF {f : Nat → Nat → Bool} {N a b : Nat} (ha : a < N) (hb : b < N) : tb (tabF f N) a b = f a b := by
  unfold tb tabF
  rw [List.getD_eq_getElem?_getD (l := (List.range N).map _), List.getElem?_map, List.getElem?_range ha]
  simp only [Option.map_some, Option.getD_some]
  rw [List.getD_eq_getElem?_getD, List.getElem?_map, List.getElem?_range hb]
  rfl
theorem tb_in {f : Nat → Nat → Bool} {N a b : Nat} (h : tb (tabF f N) a b = true) : a < N ∧ b < N ∧ f a b = true := by
  by_cases ha : a < N
  · by_cases hb : b < N
    · rw [tb_tabF ha hb] at h
      exact ⟨ha, hb, h⟩
    · unfold tb tabF at h
      rw [List.getD_eq_getElem?_getD (l := (List.range N).map _), List.getElem?_map, List.getElem?_range ha] at h
      simp only [Option.map_some, Option.getD_some] at h
      rw [List.getD_eq_getElem?_getD, List.getElem?_eq_none (by simp; omega)] at h
      cases h
  · unfold tb tabF at h
    rw [List.getD_eq_getElem?_getD (l := (List.range N).map _), List.getElem?_eq_none (by simp; omega)] at h
    simp at h
theorem sq_tabF (f : Nat → Nat → Bool) (N : Nat) : Sq N (tabF f N) := by
  refine ⟨tabF_len f N, fun r hr => ?_⟩
  unfold tabF at hr
  obtain ⟨a, _, rfl⟩ := List.mem_map.1 hr
  simp
theorem at_lt {l : List Int} {N i : Nat} (h : ∀ y ∈ l, 0 ≤ y ∧ y < (N : Int)) (hi : i < l.length) : at_ l i < N := (at_eq h hi).2
/-- The rule asks of places of the graph alone. -/
theorem does_in {g : List GN} {st : Bool} {R : Nat → Nat → Prop} {s t : GN} (hs : Okn g s) (ht : Okn g t) (h : Does st R s t) : Does st (fun x y => R x y ∧ x < g.length ∧ y < g.length) s t := by
  unfold Does at h ⊢
  split
  · rename_i hc
    rw [if_pos hc] at h
    exact h
  · rename_i hc
    rw [if_neg hc] at h
    refine ⟨h.1, h.2.1, fun e => ?_, fun e => ?_⟩
    · have h7 := h.2.2.1 e
      rw [recFrom_iff] at h7 ⊢
      intro i key hi
      obtain ⟨k, hk, hr⟩ := h7 i key hi
      obtain ⟨_, h2, _⟩ := idxF_lt hk
      have h3 := (List.getElem?_eq_some_iff.1 hi).1
      exact ⟨k, hk, hr, at_lt hs.range (by rw [(hs.recd e).1]; omega), at_lt ht.range (by rw [(ht.recd (by omega)).1]; omega)⟩
    · obtain ⟨h1, h2⟩ := h.2.2.2 e
      exact ⟨h1, h2, at_lt hs.range (by rw [hs.var e]; omega), at_lt ht.range (by rw [ht.var (by omega)]; omega)⟩
theorem stands_in {g : List GN} {st : Bool} {R : Nat → Nat → Prop} (hc : checkP g = 0) {a b : Nat} (ha : a < g.length) (hb : b < g.length) (h : Stands st g R a b) : Stands st g (fun x y => R x y ∧ x < g.length ∧ y < g.length) a b := fun s hs => by
  have hok := (check_ok hc).2
  obtain ⟨s0, s1, _⟩ := members_in hc (n := (a : Int)) (by omega) (by omega) s hs
  have hso := hok _ (nd_mem s0 s1)
  rcases h s hs with ⟨y, hy, hd⟩ | ⟨h9, hr⟩
  · obtain ⟨y0, y1, _⟩ := members_in hc (n := (b : Int)) (by omega) (by omega) y hy
    exact .inl ⟨y, hy, does_in hso (hok _ (nd_mem y0 y1)) hd⟩
  · exact .inr ⟨h9, hr, at_lt hso.range (by rw [hso.var h9]; omega), hb⟩
/-- All that holds is still there. -/
def Above (st : Bool) (g : List GN) (f : Nat → Nat → Bool) : Prop := ∀ a b, a < g.length → b < g.length → Sub st g a b → f a b = true
theorem Above.away {st : Bool} {g : List GN} {f : Nat → Nat → Bool} (h : Above st g f) (hc : checkP g = 0) {a b : Nat} (ha : a < g.length) (hb : b < g.length) (hs : standsB st g (tb (tabF f g.length)) a b = false) : Above st g (fput f a b false) := fun x y hx hy hxy => by
  unfold fput
  by_cases e : x = a ∧ y = b
  · obtain ⟨rfl, rfl⟩ := e
    have h1 := (stands_in hc ha hb hxy.post).mono (R' := fun x y => tb (tabF f g.length) x y = true) (fun u v ⟨h1, h2, h3⟩ => by
      show tb (tabF f g.length) u v = true
      rw [tb_tabF h2 h3]
      exact h u v h2 h3 h1)
    rw [(standsB_iff _ _ _ _ _).2 h1] at hs
    cases hs
  · rw [if_neg e]
    exact h x y hx hy hxy
/-- What is left when nothing more goes. -/
theorem left_is {st : Bool} {g : List GN} {f : Nat → Nat → Bool} (h : Above st g f) (hp : ∀ a b, a < g.length → b < g.length → f a b = true → standsB st g (tb (tabF f g.length)) a b = true) {a b : Nat} (ha : a < g.length) (hb : b < g.length) : f a b = subB st g a b := by
  rw [Bool.eq_iff_iff, subB_iff]
  refine ⟨fun hf => ?_, fun hs => h a b ha hb hs⟩
  refine Sub.of_post (R := fun x y => x < g.length ∧ y < g.length ∧ f x y = true) ?_ ⟨ha, hb, hf⟩
  rintro x y ⟨hx, hy, hxy⟩
  exact ((standsB_iff _ _ _ _ _).1 (hp x y hx hy hxy)).mono (fun u v huv => tb_in huv)
/-- How many pairs are left. -/
def cnt (N : Nat) (f : Nat → Nat → Bool) : Nat := sum2 N fun a b => if f a b then 1 else 0
theorem cnt_away {N : Nat} {f : Nat → Nat → Bool} {a b : Nat} (ha : a < N) (hb : b < N) (h : f a b = true) : cnt N (fput f a b false) + 1 = cnt N f := by
  have := sum2_set (N := N) (h := fun a b => if f a b then 1 else 0) (k := fun x y => if fput f a b false x y then 1 else 0) ha hb (fun x y hxy => by
    unfold fput
    rw [if_neg hxy])
  have h1 : (if fput f a b false a b then 1 else 0) = 0 := by unfold fput; simp
  have h2 : (if f a b then 1 else 0) = 1 := by rw [h]; rfl
  simp only [h1, h2] at this
  unfold cnt
  omega
theorem tabN_is (st : Bool) (g : List GN) : tabN st g g.length = tabF (subB st g) g.length := rfl
/-- Each pair of the table stands by its rule. -/
theorem table_holds {st : Bool} {g : List GN} (hc : checkP g = 0) {a b : Nat} (ha : a < g.length) (hb : b < g.length) (h : subB st g a b = true) : standsB st g (tb (tabN st g g.length)) a b = true := by
  rw [standsB_iff]
  refine (stands_in hc ha hb ((subB_iff _ _ _ _).1 h).post).mono (fun x y ⟨h1, h2, h3⟩ => ?_)
  show tb (tabN st g g.length) x y = true
  rw [tabN_is, tb_tabF h2 h3]
  exact (subB_iff _ _ _ _).2 h1
end Go.Proofs.YtgllcpimkjlklaaDoor.V3

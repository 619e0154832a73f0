/- The plain law of graphs that made makes, and of what may stand for what: that it is an order. -/
import Derived.Test.YtgllcpimkjlklaaDoorProg
import Derived.Below
import Derived.Deep.Draws
import Derived.Deep.AppendLies
import Derived.Maps.AppendAt
import Derived.OwnWalk
import Derived.Laws.BytesArg
import Derived.Laws.MakeOwn
import Derived.Laws.OwnMore
import Derived.Deep.OwnRows
import Derived.Tactics
import Derived.Lib.ConvBytes
import Derived.Laws.Slices
import Derived.WalkKit
import Derived.KernelRfl
import Derived.RowKit3
import Derived.Deep.LoopGhost
import Derived.Deep.QuietTactic
import Derived.BigQuiet
import Derived.WideLaws
import Derived.Deep.DeepCutAuto
import Derived.Deep.CutBlock
import Derived.Deep.RegionHeld3
import Derived.Laws.Rows
import Derived.Lib.AppendStr
import Derived.ArgAppend
import Derived.Laws.IdiomCopy
import Derived.OrdersHeld
import Derived.Laws.BitsLemmas
import Derived.RowKit
import Derived.WalkSpells
import Derived.Laws.CopyOwn
import Derived.Test.YtgllcpimkjlklaaDoorWWords
import Derived.Test.YtgllcpimkjlklaaDoorWLast
import Derived.Test.YtgllcpimkjlklaaDoorR6
namespace Go.Proofs.YtgllcpimkjlklaaDoor.R7
open Go.RowKit Go.Proofs.YtgllcpimkjlklaaDoorW.PrintWords Go.Proofs.YtgllcpimkjlklaaDoorW.PrintLast Go.Proofs.YtgllcpimkjlklaaDoorW.PrintMore Go.Proofs.YtgllcpimkjlklaaDoor Go.Proofs.YtgllcpimkjlklaaDoor.L1 Go.Proofs.YtgllcpimkjlklaaDoor.L2 Go.Proofs.YtgllcpimkjlklaaDoor.L4 Go.Proofs.YtgllcpimkjlklaaDoor.G1 Go.Proofs.YtgllcpimkjlklaaDoor.G2 Go.Proofs.YtgllcpimkjlklaaDoor.S0 Go.Proofs.YtgllcpimkjlklaaDoor.S1 Go.Proofs.YtgllcpimkjlklaaDoor.S2 Go.Proofs.YtgllcpimkjlklaaDoor.S3 Go.Proofs.YtgllcpimkjlklaaDoor.S4 Go.Proofs.YtgllcpimkjlklaaDoor.S5 Go.Proofs.YtgllcpimkjlklaaDoor.S7 Go.Proofs.YtgllcpimkjlklaaDoor.R1 Go.Proofs.YtgllcpimkjlklaaDoor.R4 Go.Proofs.YtgllcpimkjlklaaDoor.R6
set_option linter.unusedVariables false
set_option linter.unusedSimpArgs false
theorem toList_emp : emp.toList = [] := by rw [toList_data]; rfl
theorem toList_emp' : (⟨#[]⟩ : ByteArray).toList = [] := toList_emp
theorem plain_le (n : Nat) : plainN n ≤ n := by unfold plainN; omega
theorem isName_a : isNameP kA = true := by kernel_rfl
theorem isName_b : isNameP kB = true := by kernel_rfl
theorem rise_k (n : Nat) (h : n ≤ 2) : RiseP (recK n) := by
  have : n = 0 ∨ n = 1 ∨ n = 2 := by omega
  rcases this with rfl | rfl | rfl
  · intro i hi; simp [recK] at hi
  · intro i hi; simp [recK] at hi
  · intro i hi
    have hi2 : i + 1 < 2 := hi
    have : i = 0 := by omega
    subst this
    show 0 ≤ cmp2P kB kA
    exact of_decide_eq_true (by kernel_rfl)
theorem names_k (n : Nat) (h : n ≤ 2) : (recK n).any (fun s => !isNameP s) = false := by
  have : n = 0 ∨ n = 1 ∨ n = 2 := by omega
  rcases this with rfl | rfl | rfl
  · rfl
  · show (!isNameP kA || false) = false
    rw [isName_a]; rfl
  · show (!isNameP kA || (!isNameP kB || false)) = false
    rw [isName_a, isName_b]; rfl
theorem outs_no {n : Nat} {l : List Int} (h : In n l) : l.any (outP n) = false := by
  refine List.any_eq_false.2 fun y hy => ?_
  have := h y hy
  unfold outP
  simp
  omega
theorem may_of {dyn : Bool} {g : List GN} {p i : Nat} {x : GN} (hp : p ≤ g.length) (h8 : ∀ z : Int, 0 ≤ z → z < p → kindU g z ≠ 8) (h : NodeP dyn g.length p i x) : mayP g x = true := by
  rcases h with ⟨k, h1, h2, _, rfl⟩ | ⟨s, hs, rfl⟩ | ⟨m, y, m0, m1, y0, y1, rfl⟩ | ⟨l, hl, hin, rfl⟩ | ⟨_, u, hu, hnd, hin, rfl⟩
  · have : k = 1 ∨ k = 2 ∨ k = 3 ∨ k = 4 := by omega
    unfold mayP byKind
    simp [this, toList_emp, toList_emp']
  · unfold mayP byKind
    rcases hs with rfl | rfl
    · simp [isName_a]
    · simp [isName_b]
  · unfold mayP byKind
    have h1 : outP g.length y = false := by unfold outP; simp; omega
    simp [h1, toList_emp, toList_emp']
    omega
  · unfold mayP byKind
    have h1 : (recG l).f4.any (outP g.length) = false := outs_no hin
    have h2 : (recG l).f3.any (fun s => !isNameP s) = false := names_k _ hl
    have h3 : RiseP (recG l).f3 := rise_k _ hl
    have h4 : (recG l).f3.length = l.length := recK_len (by omega)
    rw [h1, h2, h4]
    simp [recG, toList_emp']
    refine ⟨by omega, ?_⟩
    exact decide_eq_true h3
  · unfold mayP byKind
    have h1 : u.any (outP g.length) = false := outs_no (fun y hy => by have := hin y hy; omega)
    have h2 : u.all (fun k => decide (kindU g k ≠ 8)) = true := List.all_eq_true.2 fun y hy => decide_eq_true (h8 y (hin y hy).1 (hin y hy).2)
    rw [h1]
    simp only [h2]
    simp [toList_emp, toList_emp', hu, hnd]
theorem kindU_at {g : List GN} {z : Int} {x : GN} (h0 : 0 ≤ z) (h : g[z.toNat]? = some x) : kindU g z = x.f0 := by
  unfold kindU
  rw [List.getD_eq_getElem?_getD, h]
  rfl
theorem graph_plain {dyn : Bool} {g : List GN} {p : Nat} (hp : p ≤ g.length) (h : GraphP dyn g.length p g) : ∀ z : Int, 0 ≤ z → z < p → kindU g z ≠ 8 := fun z h0 h1 e => by
  have hz : z.toNat < g.length := by omega
  have hx := List.getElem?_eq_getElem hz
  rw [kindU_at h0 hx] at e
  have := (h _ _ hx).eight e
  omega
theorem graph_check {dyn : Bool} {g : List GN} {p : Nat} (hp : p ≤ g.length) (hn : g.length ≤ 2000) (h : GraphP dyn g.length p g) : checkP g = 0 := by
  unfold checkP
  rw [if_neg (by omega), if_pos]
  refine List.all_eq_true.2 fun x hx => ?_
  obtain ⟨i, hi, rfl⟩ := List.getElem_of_mem hx
  exact may_of hp (graph_plain hp h) (h i _ (List.getElem?_eq_getElem hi))
/-! what may stand for what, strictly: an order -/
theorem recFrom_iff {R : Nat → Nat → Prop} {s t : GN} : ∀ {l : List ByteArray} {j : Nat}, RecFrom R s t l j ↔ ∀ i key, l[i]? = some key → ∃ k, idxF key s.f3 0 = some k ∧ R (at_ s.f4 k) (at_ t.f4 (j + i))
  | [], j => by simp [RecFrom]
  | key :: r, j => by
    unfold RecFrom
    rw [recFrom_iff (l := r) (j := j + 1)]
    constructor
    · rintro ⟨h1, h2⟩ i key' hi
      rcases i with _ | i
      · simp at hi; subst hi; exact h1
      · have := h2 i key' (by simpa using hi)
        rw [show j + (i + 1) = j + 1 + i by omega]
        exact this
    · intro h
      refine ⟨h 0 key rfl, fun i key' hi => ?_⟩
      have := h (i + 1) key' (by simpa using hi)
      rw [show j + (i + 1) = j + 1 + i by omega] at this
      exact this
theorem recFrom_comp {R1 R2 : Nat → Nat → Prop} {s t u : GN} (h1 : RecFrom R1 s t t.f3 0) (h2 : RecFrom R2 t u u.f3 0) : RecFrom (fun a c => ∃ b, R1 a b ∧ R2 b c) s u u.f3 0 := by
  rw [recFrom_iff] at h1 h2 ⊢
  intro i key hi
  obtain ⟨k, hk, hr⟩ := h2 i key hi
  obtain ⟨_, _, ht⟩ := idxF_lt hk
  rw [Nat.sub_zero] at ht
  obtain ⟨k', hk', hr'⟩ := h1 k key ht
  rw [Nat.zero_add] at hr'
  exact ⟨k', hk', _, hr', hr⟩
theorem does_comp {R1 R2 : Nat → Nat → Prop} {s t u : GN} (h1 : Does true R1 s t) (h2 : Does true R2 t u) : Does true (fun a c => ∃ b, R1 a b ∧ R2 b c) s u := by
  unfold Does at h1 h2 ⊢
  by_cases hs : s.f0 = 1 ∨ t.f0 = 1
  · rw [if_pos hs] at h1
    have e := h1 rfl
    have ht : t.f0 = 1 := by omega
    rw [if_pos (.inl ht)] at h2
    have e2 := h2 rfl
    rw [if_pos (.inl (by omega))]
    intro _; omega
  · rw [if_neg hs] at h1
    by_cases hu : u.f0 = 1
    · rw [if_pos (.inr hu)] at h2
      have := h2 rfl
      omega
    · rw [if_neg (by omega)] at h2 ⊢
      refine ⟨by omega, fun e => ?_, fun e => ?_, fun e => ?_⟩
      · rw [h1.2.1 e, h2.2.1 (by omega)]
      · exact recFrom_comp (h1.2.2.1 e) (h2.2.2.1 (by omega))
      · obtain ⟨a1, a2⟩ := h1.2.2.2 e
        obtain ⟨b1, b2⟩ := h2.2.2.2 (by omega)
        exact ⟨by rw [a1, b1], _, a2, b2⟩
theorem sub_trans {g : List GN} {a b c : Nat} (h1 : Sub true g a b) (h2 : Sub true g b c) : Sub true g a c := by
  refine Sub.of_post (R := fun a c => ∃ b, Sub true g a b ∧ Sub true g b c) ?_ ⟨b, h1, h2⟩
  rintro x z ⟨y, hxy, hyz⟩ s hs
  rcases hxy.post s hs with ⟨t, ht, hd⟩ | ⟨h9, hb⟩
  · rcases hyz.post t ht with ⟨u, hu, hd2⟩ | ⟨h9, hb⟩
    · exact .inl ⟨u, hu, does_comp hd hd2⟩
    · have h0 : (nd g s).f0 = 9 ∧ Sub true g (at_ (nd g s).f4 0) (at_ (nd g t).f4 0) := by
        unfold Does at hd
        by_cases hc : (nd g s).f0 = 1 ∨ (nd g t).f0 = 1
        · rw [if_pos hc] at hd
          have := hd rfl
          omega
        · rw [if_neg hc] at hd
          exact ⟨by omega, (hd.2.2.2 (by omega)).2⟩
      exact .inr ⟨h0.1, _, h0.2, hb⟩
  · exact .inr ⟨h9, y, hb, hyz⟩
theorem nd_at {g : List GN} {z : Int} (h0 : 0 ≤ z) (h1 : z < g.length) : g[z.toNat]? = some (nd g z) := by
  unfold nd
  rw [List.getD_eq_getElem?_getD, List.getElem?_eq_getElem (by omega)]
  rfl
theorem idx1 : idxF kA [kA] 0 = some 0 := by decide
theorem idx2 : idxF kA [kA, kB] 0 = some 0 := by decide
theorem idx3 : idxF kB [kA, kB] 0 = some 1 := by decide
theorem does_same {dyn st : Bool} {n p i : Nat} {x : GN} (h : NodeP dyn n p i x) (h8 : x.f0 ≠ 8) : Does st (fun a b => a = b ∧ a < n) x x := by
  rcases h with ⟨k, h1, h2, _, rfl⟩ | ⟨s, _, rfl⟩ | ⟨m, y, _, _, y0, y1, rfl⟩ | ⟨l, hl, hin, rfl⟩ | ⟨_, u, _, _, _, rfl⟩
  · unfold Does
    split
    · exact fun _ => rfl
    · refine ⟨rfl, fun e => by dsimp only at e; omega, fun e => by dsimp only at e; omega, fun e => by dsimp only at e; omega⟩
  · unfold Does
    simp
  · unfold Does
    simp [at_]
    omega
  · unfold Does
    rw [if_neg (by simp [recG])]
    refine ⟨rfl, fun e => by simp [recG] at e, fun _ => ?_, fun e => by simp [recG] at e⟩
    have h2 : l = [] ∨ (∃ a, l = [a]) ∨ ∃ a b, l = [a, b] := by
      rcases l with _ | ⟨a, _ | ⟨b, _ | ⟨c, r⟩⟩⟩
      · exact .inl rfl
      · exact .inr (.inl ⟨a, rfl⟩)
      · exact .inr (.inr ⟨a, b, rfl⟩)
      · simp at hl
    rcases h2 with rfl | ⟨a, rfl⟩ | ⟨a, b, rfl⟩
    · trivial
    · have ha := hin a (by simp)
      refine ⟨⟨0, idx1, rfl, ?_⟩, trivial⟩
      show a.toNat < n
      omega
    · have ha := hin a (by simp)
      have hb := hin b (by simp)
      refine ⟨⟨0, idx2, rfl, ?_⟩, ⟨1, idx3, rfl, ?_⟩, trivial⟩
      · show a.toNat < n
        omega
      · show b.toNat < n
        omega
  · exact absurd rfl h8
theorem sub_same {dyn st : Bool} {g : List GN} {p : Nat} (hp : p ≤ g.length) (hn : g.length ≤ 2000) (h : GraphP dyn g.length p g) {a : Nat} (ha : a < g.length) : Sub st g a a := by
  refine Sub.of_post (R := fun a b => a = b ∧ a < g.length) ?_ ⟨rfl, ha⟩
  rintro x _ ⟨rfl, hx⟩ s hs
  obtain ⟨h0, h1, h8⟩ := members_in (graph_check hp hn h) (n := (x : Int)) (by omega) (by omega) s hs
  exact .inl ⟨s, hs, does_same (h _ _ (nd_at h0 h1)) h8⟩
end Go.Proofs.YtgllcpimkjlklaaDoor.R7

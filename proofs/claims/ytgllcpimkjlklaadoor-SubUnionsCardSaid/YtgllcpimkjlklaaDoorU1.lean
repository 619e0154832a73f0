/- The plain law of a union laid behind a graph. -/
import Derived.Test.YtgllcpimkjlklaaDoorProg
import Derived.Below
import Derived.Deep.Draws
import Derived.Deep.AppendLies
import Derived.Maps.AppendAt
import Derived.OwnWalk
import Derived.Laws.BytesArg
import Derived.Laws.MakeOwn
import Derived.Laws.OwnMore
import Derived.Deep.OwnRows
import Derived.Tactics
import Derived.Lib.ConvBytes
import Derived.Laws.Slices
import Derived.WalkKit
import Derived.KernelRfl
import Derived.RowKit3
import Derived.Deep.LoopGhost
import Derived.Deep.QuietTactic
import Derived.BigQuiet
import Derived.WideLaws
import Derived.Deep.DeepCutAuto
import Derived.Deep.CutBlock
import Derived.Deep.RegionHeld3
import Derived.Laws.Rows
import Derived.Lib.AppendStr
import Derived.ArgAppend
import Derived.Laws.IdiomCopy
import Derived.OrdersHeld
import Derived.Laws.BitsLemmas
import Derived.RowKit
import Derived.WalkSpells
import Derived.Laws.CopyOwn
import Derived.Test.YtgllcpimkjlklaaDoorWWords
import Derived.Test.YtgllcpimkjlklaaDoorWLast
import Derived.Test.YtgllcpimkjlklaaDoorR7
import Derived.Test.YtgllcpimkjlklaaDoorS11
namespace Go.Proofs.YtgllcpimkjlklaaDoor.U1
open Go.RowKit Go.Proofs.YtgllcpimkjlklaaDoorW.PrintWords Go.Proofs.YtgllcpimkjlklaaDoorW.PrintLast Go.Proofs.YtgllcpimkjlklaaDoorW.PrintMore Go.Proofs.YtgllcpimkjlklaaDoor Go.Proofs.YtgllcpimkjlklaaDoor.L1 Go.Proofs.YtgllcpimkjlklaaDoor.L2 Go.Proofs.YtgllcpimkjlklaaDoor.L4 Go.Proofs.YtgllcpimkjlklaaDoor.G1 Go.Proofs.YtgllcpimkjlklaaDoor.G2 Go.Proofs.YtgllcpimkjlklaaDoor.S2 Go.Proofs.YtgllcpimkjlklaaDoor.S3 Go.Proofs.YtgllcpimkjlklaaDoor.S4 Go.Proofs.YtgllcpimkjlklaaDoor.S5 Go.Proofs.YtgllcpimkjlklaaDoor.S7 Go.Proofs.YtgllcpimkjlklaaDoor.S11 Go.Proofs.YtgllcpimkjlklaaDoor.R1 Go.Proofs.YtgllcpimkjlklaaDoor.R4 Go.Proofs.YtgllcpimkjlklaaDoor.R6 Go.Proofs.YtgllcpimkjlklaaDoor.R7
set_option linter.unusedVariables false
set_option linter.unusedSimpArgs false
theorem NodeP.more {dyn : Bool} {n n' p i : Nat} {x : GN} (h : NodeP dyn n p i x) (hn : n ≤ n') : NodeP dyn n' p i x := by
  rcases h with h | h | ⟨m, y, h1, h2, h3, h4, h5⟩ | ⟨l, h1, h2, h3⟩ | h
  · exact .inl h
  · exact .inr (.inl h)
  · exact .inr (.inr (.inl ⟨m, y, h1, h2, h3, by omega, h5⟩))
  · exact .inr (.inr (.inr (.inl ⟨l, h1, fun y hy => by have := h2 y hy; omega, h3⟩)))
  · exact .inr (.inr (.inr (.inr h)))
theorem same_gen {st : Bool} {g : List GN} (hc : checkP g = 0) (h : ∀ z : Int, 0 ≤ z → z < g.length → (nd g z).f0 ≠ 8 → ∃ dyn p i, NodeP dyn g.length p i (nd g z)) {a : Nat} (ha : a < g.length) : Sub st g a a := by
  refine Sub.of_post (R := fun a b => a = b ∧ a < g.length) ?_ ⟨rfl, ha⟩
  rintro x _ ⟨rfl, hx⟩ s hs
  obtain ⟨h0, h1, h8⟩ := members_in hc (n := (x : Int)) (by omega) (by omega) s hs
  obtain ⟨dyn, p, i, hn⟩ := h s h0 h1 h8
  exact .inl ⟨s, hs, does_same hn h8⟩
theorem idx_no : idxF kB [kA] 0 = none := by decide
section
variable {g : List GN} {a b : Nat} {u : List Int}
/-- The graph with two records and a union behind. -/
def ext2 (g : List GN) (a b : Nat) : List GN := g ++ [recG [(a : Int), (b : Int)], recG [(a : Int)]]
def ext3 (g : List GN) (a b : Nat) (u : List Int) : List GN := ext2 g a b ++ [⟨8, 0, emp, [], u⟩]
theorem ext3_len : (ext3 g a b u).length = g.length + 3 := by simp [ext3, ext2]
theorem ext2_len : (ext2 g a b).length = g.length + 2 := by simp [ext2]
theorem nd_old {z : Int} (h0 : 0 ≤ z) (h1 : z < g.length) : nd (ext3 g a b u) z = nd g z := by
  unfold nd ext3 ext2
  rw [List.getD_eq_getElem?_getD, List.getD_eq_getElem?_getD, List.getElem?_append_left (by simp; omega), List.getElem?_append_left (by omega)]
theorem nd_old2 {z : Int} (h0 : 0 ≤ z) (h1 : z < g.length) : nd (ext2 g a b) z = nd g z := by
  unfold nd ext2
  rw [List.getD_eq_getElem?_getD, List.getD_eq_getElem?_getD, List.getElem?_append_left (by omega)]
theorem nd_r2 : nd (ext3 g a b u) (g.length : Int) = recG [(a : Int), (b : Int)] := by
  unfold nd ext3 ext2
  rw [Int.toNat_natCast, List.getD_eq_getElem?_getD, List.getElem?_append_left (by simp), List.getElem?_append_right (by omega)]
  simp
theorem nd_r1 : nd (ext3 g a b u) ((g.length : Int) + 1) = recG [(a : Int)] := by
  unfold nd ext3 ext2
  rw [show ((g.length : Int) + 1).toNat = g.length + 1 by omega, List.getD_eq_getElem?_getD, List.getElem?_append_left (by simp), List.getElem?_append_right (by omega)]
  simp
theorem nd_u : nd (ext3 g a b u) ((g.length : Int) + 2) = ⟨8, 0, emp, [], u⟩ := by
  unfold nd ext3
  rw [show ((g.length : Int) + 2).toNat = (ext2 g a b).length by rw [ext2_len]; omega, List.getD_eq_getElem?_getD, List.getElem?_append_right (by omega)]
  simp
theorem members_of {g : List GN} {z : Int} (h0 : 0 ≤ z) (h1 : z < g.length) : membersP g z = if (nd g z).f0 = 8 then (nd g z).f4 else [z] := by
  unfold membersP
  rw [if_neg (by omega), if_neg (by omega)]
  rfl
theorem mem_old {z : Int} (h0 : 0 ≤ z) (h1 : z < g.length) : membersP (ext3 g a b u) z = membersP g z := by
  rw [members_of h0 (by rw [ext3_len]; omega), members_of h0 h1, nd_old h0 h1]
theorem mem_old2 {z : Int} (h0 : 0 ≤ z) (h1 : z < g.length) : membersP (ext2 g a b) z = membersP g z := by
  rw [members_of h0 (by rw [ext2_len]; omega), members_of h0 h1, nd_old2 h0 h1]
theorem mem_u : membersP (ext3 g a b u) ((g.length : Int) + 2) = u := by
  rw [members_of (by omega) (by rw [ext3_len]; omega), nd_u, if_pos rfl]
/-- What is laid behind may be. -/
theorem ext_check {dyn : Bool} {p : Nat} (hp : p ≤ g.length) (hn : g.length ≤ 1000) (h : GraphP dyn g.length p g) (ha : a < g.length) (hb : b < g.length) (hu : Once (membersP g a ++ membersP g b) u) (hu2 : 2 ≤ u.length) : checkP (ext3 g a b u) = 0 := by
  have hc0 := graph_check hp (by omega) h
  have hin : ∀ y ∈ u, 0 ≤ y ∧ y < (g.length : Int) ∧ (nd g y).f0 ≠ 8 := fun y hy => by
    rcases List.mem_append.1 (hu.2.1 y hy) with hm | hm
    · exact members_in hc0 (by omega) (by omega) y hm
    · exact members_in hc0 (by omega) (by omega) y hm
  have hk : ∀ z : Int, 0 ≤ z → z < g.length → kindU (ext3 g a b u) z = (nd g z).f0 := fun z h0 h1 => by
    show (nd (ext3 g a b u) z).f0 = _
    rw [nd_old h0 h1]
  have h8 : ∀ z : Int, 0 ≤ z → z < p → kindU (ext3 g a b u) z ≠ 8 := fun z h0 h1 => by
    rw [hk z h0 (by omega)]
    exact graph_plain hp h z h0 h1
  have hrec : ∀ l : List Int, l.length ≤ 2 → In g.length l → mayP (ext3 g a b u) (recG l) = true := fun l h1 h2 =>
    may_of (dyn := dyn) (p := p) (i := 0) (by rw [ext3_len]; omega) h8 (.inr (.inr (.inr (.inl ⟨l, h1, fun y hy => by have := h2 y hy; rw [ext3_len]; omega, rfl⟩))))
  unfold checkP
  rw [if_neg (by rw [ext3_len]; omega), if_pos]
  refine List.all_eq_true.2 fun x hx => ?_
  have hx' : x ∈ g ∨ x = recG [(a : Int), (b : Int)] ∨ x = recG [(a : Int)] ∨ x = ⟨8, 0, emp, [], u⟩ := by
    unfold ext3 ext2 at hx
    simp at hx
    rcases hx with hx | hx | hx | hx
    · exact .inl hx
    · exact .inr (.inl hx)
    · exact .inr (.inr (.inl hx))
    · exact .inr (.inr (.inr hx))
  rcases hx' with hx | rfl | rfl | rfl
  · obtain ⟨i, hi, rfl⟩ := List.getElem_of_mem hx
    exact may_of (by rw [ext3_len]; omega) h8 (NodeP.more (h i _ (List.getElem?_eq_getElem hi)) (by rw [ext3_len]; omega))
  · exact hrec _ (by simp) (in_two ⟨by omega, by omega⟩ ⟨by omega, by omega⟩)
  · exact hrec _ (by simp) (fun y hy => by rw [List.mem_singleton] at hy; subst hy; omega)
  · have h1 : u.any (outP (ext3 g a b u).length) = false := outs_no (fun y hy => by have := hin y hy; rw [ext3_len]; omega)
    have h2 : u.all (fun k => decide (kindU (ext3 g a b u) k ≠ 8)) = true := List.all_eq_true.2 fun y hy => decide_eq_true (by rw [hk y (hin y hy).1 (hin y hy).2.1]; exact (hin y hy).2.2)
    unfold mayP byKind
    rw [h1]
    simp only [h2]
    simp [toList_emp, hu2, hu.1]
/-- What it says. -/
theorem ext_law {dyn st : Bool} {p : Nat} (hp : p ≤ g.length) (hn : g.length ≤ 1000) (h : GraphP dyn g.length p g) (ha : a < g.length) (hb : b < g.length) (hu : Once (membersP g a ++ membersP g b) u) (hu2 : 2 ≤ u.length) :
    (∀ c, Sub st (ext3 g a b u) (g.length + 2) c ↔ (Sub st (ext3 g a b u) a c ∧ Sub st (ext3 g a b u) b c)) ∧
    (∀ c, Sub st (ext3 g a b u) c a → Sub st (ext3 g a b u) c (g.length + 2)) ∧
    Sub st (ext3 g a b u) g.length (g.length + 1) ∧ ¬ Sub st (ext3 g a b u) (g.length + 1) g.length := by
  have hc := ext_check hp hn h ha hb hu hu2
  have hmu : membersP (ext3 g a b u) ((g.length + 2 : Nat) : Int) = u := by
    have := mem_u (g := g) (a := a) (b := b) (u := u)
    rw [show ((g.length + 2 : Nat) : Int) = (g.length : Int) + 2 by omega]
    exact this
  have hma : membersP (ext3 g a b u) (a : Int) = membersP g a := mem_old (by omega) (by omega)
  have hmb : membersP (ext3 g a b u) (b : Int) = membersP g b := mem_old (by omega) (by omega)
  have hsame : Sub st (ext3 g a b u) a a := by
    refine same_gen hc (fun z h0 h1 h8 => ?_) (by rw [ext3_len]; omega)
    rw [ext3_len] at h1 ⊢
    by_cases hz : z < g.length
    · rw [nd_old h0 hz] at h8 ⊢
      exact ⟨dyn, p, z.toNat, NodeP.more (h _ _ (nd_at h0 hz)) (by omega)⟩
    · have : z = g.length ∨ z = (g.length : Int) + 1 ∨ z = (g.length : Int) + 2 := by omega
      rcases this with rfl | rfl | rfl
      · rw [nd_r2]
        exact ⟨dyn, p, 0, .inr (.inr (.inr (.inl ⟨_, by simp, in_two ⟨by omega, by omega⟩ ⟨by omega, by omega⟩, rfl⟩)))⟩
      · rw [nd_r1]
        exact ⟨dyn, p, 0, .inr (.inr (.inr (.inl ⟨_, by simp, fun y hy => by rw [List.mem_singleton] at hy; subst hy; omega, rfl⟩)))⟩
      · rw [nd_u] at h8
        exact absurd rfl h8
  refine ⟨fun c => ⟨fun hs => ⟨?_, ?_⟩, fun hs => ?_⟩, fun c hs => ?_, ?_, ?_⟩
  · rw [Sub.iff]
    intro s hm
    rw [hma] at hm
    exact hs.post s (by rw [hmu]; exact hu.2.2.2 s (List.mem_append_left _ hm))
  · rw [Sub.iff]
    intro s hm
    rw [hmb] at hm
    exact hs.post s (by rw [hmu]; exact hu.2.2.2 s (List.mem_append_right _ hm))
  · rw [Sub.iff]
    intro s hm
    rw [hmu] at hm
    rcases List.mem_append.1 (hu.2.1 s hm) with hx | hx
    · exact hs.1.post s (by rw [hma]; exact hx)
    · exact hs.2.post s (by rw [hmb]; exact hx)
  · refine Sub.of_post (R := fun x y => Sub st (ext3 g a b u) x y ∨ (y = g.length + 2 ∧ Sub st (ext3 g a b u) x a)) ?_ (.inr ⟨rfl, hs⟩)
    rintro x y (hxy | ⟨rfl, hxa⟩) s hm
    · rcases hxy.post s hm with ⟨t, ht, hd⟩ | ⟨h9, hr⟩
      · exact .inl ⟨t, ht, hd.mono fun _ _ e => .inl e⟩
      · exact .inr ⟨h9, .inl hr⟩
    · rcases hxa.post s hm with ⟨t, ht, hd⟩ | ⟨h9, hr⟩
      · rw [hma] at ht
        exact .inl ⟨t, by rw [hmu]; exact hu.2.2.2 t (List.mem_append_left _ ht), hd.mono fun _ _ e => .inl e⟩
      · exact .inr ⟨h9, .inr ⟨rfl, hr⟩⟩
  · rw [Sub.iff]
    intro s hm
    have hr2 : (nd (ext3 g a b u) ((g.length : Nat) : Int)).f0 ≠ 8 := by rw [nd_r2]; simp [recG]
    have hr1 : (nd (ext3 g a b u) ((g.length + 1 : Nat) : Int)).f0 ≠ 8 := by
      rw [show ((g.length + 1 : Nat) : Int) = (g.length : Int) + 1 by omega, nd_r1]; simp [recG]
    rw [members_self (by omega) (by rw [ext3_len]; omega) hr2, List.mem_singleton] at hm
    subst hm
    refine .inl ⟨((g.length + 1 : Nat) : Int), by rw [members_self (by omega) (by rw [ext3_len]; omega) hr1]; simp, ?_⟩
    rw [nd_r2, show ((g.length + 1 : Nat) : Int) = (g.length : Int) + 1 by omega, nd_r1]
    unfold Does
    rw [if_neg (by simp [recG])]
    refine ⟨rfl, fun e => by simp [recG] at e, fun _ => ⟨⟨0, idx2, ?_⟩, trivial⟩, fun e => by simp [recG] at e⟩
    exact hsame
  · intro hs
    have hr2 : (nd (ext3 g a b u) ((g.length : Nat) : Int)).f0 ≠ 8 := by rw [nd_r2]; simp [recG]
    have hr1 : (nd (ext3 g a b u) ((g.length + 1 : Nat) : Int)).f0 ≠ 8 := by
      rw [show ((g.length + 1 : Nat) : Int) = (g.length : Int) + 1 by omega, nd_r1]; simp [recG]
    have := hs.post ((g.length + 1 : Nat) : Int) (by rw [members_self (by omega) (by rw [ext3_len]; omega) hr1]; simp)
    rw [members_self (g := ext3 g a b u) (a := ((g.length : Nat) : Int)) (by omega) (by rw [ext3_len]; omega) hr2, show ((g.length + 1 : Nat) : Int) = (g.length : Int) + 1 by omega, nd_r1] at this
    rcases this with ⟨t, ht, hd⟩ | ⟨h9, _⟩
    · rw [List.mem_singleton] at ht
      subst ht
      rw [nd_r2] at hd
      unfold Does at hd
      rw [if_neg (by simp [recG])] at hd
      obtain ⟨_, ⟨k, hk, _⟩, _⟩ := hd.2.2.1 rfl
      exact absurd hk (by rw [show (recG [(a : Int)]).f3 = [kA] from rfl, idx_no]; simp)
    · simp [recG] at h9
end
end Go.Proofs.YtgllcpimkjlklaaDoor.U1

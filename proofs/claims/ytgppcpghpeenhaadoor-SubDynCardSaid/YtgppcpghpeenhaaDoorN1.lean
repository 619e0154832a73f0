/- The plain law of graphs that made makes, and of what may stand for what: that it is an order. -/
/- When two types are one: relations that hold as long as what types are made of does; ranks that are refined until they stand still: plain law, no program. -/
import Derived.Test.YtgppcpghpeenhaaDoorProg
import Derived.Test.YtgppcpghpeenhaaDoorWWords
import Derived.Test.YtgppcpghpeenhaaDoorWLast
import Derived.Test.YtgppcpghpeenhaaDoorR6
import Derived.Test.YtgppcpghpeenhaaDoorS11
namespace Go.Proofs.YtgppcpghpeenhaaDoor.R7
open Go.RowKit Go.Proofs.YtgppcpghpeenhaaDoorW.PrintWords Go.Proofs.YtgppcpghpeenhaaDoorW.PrintLast Go.Proofs.YtgppcpghpeenhaaDoorW.PrintMore Go.Proofs.YtgppcpghpeenhaaDoor L1 L2 L4 G1 G2 S0 S1 S2 S3 S4 S5 S7 R1 R4 R6
set_option linter.unusedVariables false
set_option linter.unusedSimpArgs false
theorem toList_emp : emp.toList = [] := by rw [toList_data]; rfl
theorem toList_emp' : (⟨#[]⟩ : ByteArray).toList = [] := toList_emp
theorem plain_le (n : Nat) : plainN n ≤ n := by unfold plainN; omega
theorem isName_a : isNameP kA = true := by kernel_rfl
theorem isName_b : isNameP kB = true := by kernel_rfl
theorem rise_k (n : Nat) (h : n ≤ 2) : RiseP (recK n) := by
  have : n = 0 ∨ n = 1 ∨ n = 2 := by omega
  rcases this with rfl | rfl | rfl
  · intro i hi; simp [recK] at hi
  · intro i hi; simp [recK] at hi
  · intro i hi
    have hi2 : i + 1 < 2 := hi
    have : i = 0 := by omega
    subst this
    show 0 ≤ cmp2P kB kA
    exact of_decide_eq_true (by kernel_rfl)
theorem names_k (n : Nat) (h : n ≤ 2) : (recK n).any (fun s => !isNameP s) = false := by
  have : n = 0 ∨ n = 1 ∨ n = 2 := by omega
  rcases this with rfl | rfl | rfl
  · rfl
  · show (!isNameP kA || false) = false
    rw [isName_a]; rfl
  · show (!isNameP kA || (!isNameP kB || false)) = false
    rw [isName_a, isName_b]; rfl
theorem outs_no {n : Nat} {l : List Int} (h : In n l) : l.any (outP n) = false := by
  refine List.any_eq_false.2 fun y hy => ?_
  have := h y hy
  unfold outP
  simp
  omega
theorem may_of {dyn : Bool} {g : List GN} {p i : Nat} {x : GN} (hp : p ≤ g.length) (h8 : ∀ z : Int, 0 ≤ z → z < p → kindU g z ≠ 8) (h : NodeP dyn g.length p i x) : mayP g x = true := by
  rcases h with ⟨k, h1, h2, _, rfl⟩ | ⟨s, hs, rfl⟩ | ⟨m, y, m0, m1, y0, y1, rfl⟩ | ⟨l, hl, hin, rfl⟩ | ⟨_, u, hu, hnd, hin, rfl⟩
  · have : k = 1 ∨ k = 2 ∨ k = 3 ∨ k = 4 := by omega
    unfold mayP byKind
    simp [this, toList_emp, toList_emp']
  · unfold mayP byKind
    rcases hs with rfl | rfl
    · simp [isName_a]
    · simp [isName_b]
  · unfold mayP byKind
    have h1 : outP g.length y = false := by unfold outP; simp; omega
    simp [h1, toList_emp, toList_emp']
    omega
  · unfold mayP byKind
    have h1 : (recG l).f4.any (outP g.length) = false := outs_no hin
    have h2 : (recG l).f3.any (fun s => !isNameP s) = false := names_k _ hl
    have h3 : RiseP (recG l).f3 := rise_k _ hl
    have h4 : (recG l).f3.length = l.length := recK_len (by omega)
    rw [h1, h2, h4]
    simp [recG, toList_emp']
    refine ⟨by omega, ?_⟩
    exact decide_eq_true h3
  · unfold mayP byKind
    have h1 : u.any (outP g.length) = false := outs_no (fun y hy => by have := hin y hy; omega)
    have h2 : u.all (fun k => decide (kindU g k ≠ 8)) = true := List.all_eq_true.2 fun y hy => decide_eq_true (h8 y (hin y hy).1 (hin y hy).2)
    rw [h1]
    simp only [h2]
    simp [toList_emp, toList_emp', hu, hnd]
theorem kindU_at {g : List GN} {z : Int} {x : GN} (h0 : 0 ≤ z) (h : g[z.toNat]? = some x) : kindU g z = x.f0 := by
  unfold kindU
  rw [List.getD_eq_getElem?_getD, h]
  rfl
theorem graph_plain {dyn : Bool} {g : List GN} {p : Nat} (hp : p ≤ g.length) (h : GraphP dyn g.length p g) : ∀ z : Int, 0 ≤ z → z < p → kindU g z ≠ 8 := fun z h0 h1 e => by
  have hz : z.toNat < g.length := by omega
  have hx := List.getElem?_eq_getElem hz
  rw [kindU_at h0 hx] at e
  have := (h _ _ hx).eight e
  omega
theorem graph_check {dyn : Bool} {g : List GN} {p : Nat} (hp : p ≤ g.length) (hn : g.length ≤ 2000) (h : GraphP dyn g.length p g) : checkP g = 0 := by
  unfold checkP
  rw [if_neg (by omega), if_pos]
  refine List.all_eq_true.2 fun x hx => ?_
  obtain ⟨i, hi, rfl⟩ := List.getElem_of_mem hx
  exact may_of hp (graph_plain hp h) (h i _ (List.getElem?_eq_getElem hi))
theorem recFrom_iff {R : Nat → Nat → Prop} {s t : GN} : ∀ {l : List ByteArray} {j : Nat}, RecFrom R s t l j ↔ ∀ i key, l[i]? = some key → ∃ k, idxF key s.f3 0 = some k ∧ R (at_ s.f4 k) (at_ t.f4 (j + i))
  | [], j => by simp [RecFrom]
  | key :: r, j => by
    unfold RecFrom
    rw [recFrom_iff (l := r) (j := j + 1)]
    constructor
    · rintro ⟨h1, h2⟩ i key' hi
      rcases i with _ | i
      · simp at hi; subst hi; exact h1
      · have := h2 i key' (by simpa using hi)
        rw [show j + (i + 1) = j + 1 + i by omega]
        exact this
    · intro h
      refine ⟨h 0 key rfl, fun i key' hi => ?_⟩
      have := h (i + 1) key' (by simpa using hi)
      rw [show j + (i + 1) = j + 1 + i by omega] at this
      exact this
theorem nd_at {g : List GN} {z : Int} (h0 : 0 ≤ z) (h1 : z < g.length) : g[z.toNat]? = some (nd g z) := by
  unfold nd
  rw [List.getD_eq_getElem?_getD, List.getElem?_eq_getElem (by omega)]
  rfl
theorem idx1 : idxF kA [kA] 0 = some 0 := by decide
theorem idx2 : idxF kA [kA, kB] 0 = some 0 := by decide
theorem idx3 : idxF kB [kA, kB] 0 = some 1 := by decide
end Go.Proofs.YtgppcpghpeenhaaDoor.R7
namespace Go.Proofs.YtgppcpghpeenhaaDoor.N1
open Go.RowKit Go.Proofs.YtgppcpghpeenhaaDoorW.PrintWords Go.Proofs.YtgppcpghpeenhaaDoor L1 L4 G1 G2 S3 S4 S5 S7 S9 S11
set_option linter.unusedVariables false
set_option linter.unusedSimpArgs false
/-- A place that is no union. -/
structure Pl (g : List GN) (a : Int) : Prop where
  lo : 0 ≤ a
  hi : a < g.length
  no : (nd g a).f0 ≠ 8
/-- Are two nodes alike, but for their places? -/
def Lab (x y : GN) : Prop := x.f0 = y.f0 ∧ x.f1 = y.f1 ∧ x.f2 = y.f2 ∧ x.f3 = y.f3 ∧ x.f4.length = y.f4.length
/-- Each member has one among the others. -/
def Mt (g : List GN) (R : Int → Int → Prop) (m n : Int) : Prop := (∀ x ∈ membersP g m, ∃ y ∈ membersP g n, R x y) ∧ (∀ y ∈ membersP g n, ∃ x ∈ membersP g m, R x y)
def Near (g : List GN) (R : Int → Int → Prop) (a b : Int) : Prop := Lab (nd g a) (nd g b) ∧ ∀ i : Nat, i < (nd g a).f4.length → Mt g R (rd (nd g a).f4 (i : Int)) (rd (nd g b).f4 (i : Int))
/-- A relation that holds as long as what nodes are made of does. -/
def Bis (g : List GN) (R : Int → Int → Prop) : Prop := ∀ a b, Pl g a → Pl g b → R a b → Near g R a b
/-- Two types are one. -/
def OneP (g : List GN) (m n : Int) : Prop := ∃ R, Bis g R ∧ Mt g R m n
theorem Mt.mono {g : List GN} {R R' : Int → Int → Prop} {m n : Int} (h : Mt g R m n) (hr : ∀ x ∈ membersP g m, ∀ y ∈ membersP g n, R x y → R' x y) : Mt g R' m n :=
  ⟨fun x hx => by obtain ⟨y, hy, h1⟩ := h.1 x hx; exact ⟨y, hy, hr x hx y hy h1⟩, fun y hy => by obtain ⟨x, hx, h1⟩ := h.2 y hy; exact ⟨x, hx, hr x hx y hy h1⟩⟩
theorem members_pl {g : List GN} (hc : checkP g = 0) {n : Int} (h0 : 0 ≤ n) (h1 : n < g.length) {x : Int} (hx : x ∈ membersP g n) : Pl g x := by
  obtain ⟨a, b, c⟩ := members_in hc h0 h1 x hx
  exact ⟨a, b, c⟩
theorem kid_in {g : List GN} (hc : checkP g = 0) {a : Int} (ha : Pl g a) {i : Nat} (hi : i < (nd g a).f4.length) : 0 ≤ rd (nd g a).f4 (i : Int) ∧ rd (nd g a).f4 (i : Int) < g.length := by
  have ho := (check_ok hc).2 _ (nd_mem ha.lo ha.hi)
  have := ho.range (rd (nd g a).f4 (i : Int)) (by
    unfold rd
    rw [Int.toNat_natCast, List.getD_eq_getElem?_getD, List.getElem?_eq_getElem hi]
    exact List.getElem_mem hi)
  exact this
theorem Bis.id (g : List GN) : Bis g (fun a b => a = b) := by
  intro a b _ _ e
  subst e
  exact ⟨⟨rfl, rfl, rfl, rfl, rfl⟩, fun i _ => ⟨fun x hx => ⟨x, hx, rfl⟩, fun x hx => ⟨x, hx, rfl⟩⟩⟩
theorem OneP.refl (g : List GN) (m : Int) : OneP g m m := ⟨_, Bis.id g, fun x hx => ⟨x, hx, rfl⟩, fun x hx => ⟨x, hx, rfl⟩⟩
/-- Ranks of nodes: how many there are, which ones. -/
structure Rk (g : List GN) (r : Int → Int) (m : Nat) : Prop where
  rng : ∀ a, Pl g a → 0 ≤ r a ∧ r a < m
  all : ∀ v : Nat, v < m → ∃ a, Pl g a ∧ r a = (v : Int)
/-- The next ranks: alike just if they were, and so are the nodes, as far as ranks tell. -/
def Nxt (g : List GN) (r r' : Int → Int) : Prop := ∀ a b, Pl g a → Pl g b → (r' a = r' b ↔ r a = r b ∧ Near g (fun x y => r x = r y) a b)
/-- What stands in a relation has one rank, always. -/
theorem keeps {g : List GN} (hc : checkP g = 0) {r r' : Int → Int} (hn : Nxt g r r') {B : Int → Int → Prop} (hb : Bis g B) (h : ∀ a b, Pl g a → Pl g b → B a b → r a = r b) : ∀ a b, Pl g a → Pl g b → B a b → r' a = r' b := by
  intro a b ha hb' hab
  rw [hn a b ha hb']
  obtain ⟨hl, hm⟩ := hb a b ha hb' hab
  refine ⟨h a b ha hb' hab, hl, fun i hi => ?_⟩
  have hk1 := kid_in hc ha hi
  have hk2 := kid_in hc hb' (show i < (nd g b).f4.length by rw [← hl.2.2.2.2]; exact hi)
  exact (hm i hi).mono fun x hx y hy hxy => h x y (members_pl hc hk1.1 hk1.2 hx) (members_pl hc hk2.1 hk2.2 hy) hxy
theorem nodup_len {α : Type} [DecidableEq α] : ∀ (l r : List α), l.Nodup → (∀ x ∈ l, x ∈ r) → l.length ≤ r.length
  | [], r, _, _ => by simp
  | x :: l, r, hn, h => by
    rw [List.nodup_cons] at hn
    have hx := h x (by simp)
    have := nodup_len l (r.erase x) hn.2 (fun y hy => by
      refine (List.mem_erase_of_ne ?_).2 (h y (List.mem_cons_of_mem _ hy))
      rintro rfl
      exact hn.1 hy)
    rw [List.length_erase_of_mem hx] at this
    have : 0 < r.length := List.length_pos_of_mem hx
    simp
    omega
/-- As many ranks as before: they tell no more. -/
theorem still {g : List GN} {r r' : Int → Int} {m : Nat} (h1 : Rk g r m) (h2 : Rk g r' m) (href : ∀ a b, Pl g a → Pl g b → r' a = r' b → r a = r b) : ∀ a b, Pl g a → Pl g b → r a = r b → r' a = r' b := by
  intro a b ha hb hab
  apply Classical.byContradiction
  intro hne
  -- for each old rank one place; b's new rank is none of theirs, if a is that of its old rank
  have hex : ∀ v : Nat, ∃ x, v < m → Pl g x ∧ r x = (v : Int) ∧ ((v : Int) = r a → x = a) := fun v => by
    by_cases hv : v < m
    · by_cases he : (v : Int) = r a
      · exact ⟨a, fun _ => ⟨ha, he.symm, fun _ => rfl⟩⟩
      · obtain ⟨x, hx, hr⟩ := h1.all v hv
        exact ⟨x, fun _ => ⟨hx, hr, fun e => absurd e he⟩⟩
    · exact ⟨0, fun h => absurd h hv⟩
  have hch : ∃ f : Nat → Int, ∀ v, v < m → Pl g (f v) ∧ r (f v) = (v : Int) ∧ ((v : Int) = r a → f v = a) := ⟨fun v => Classical.choose (hex v), fun v hv => Classical.choose_spec (hex v) hv⟩
  obtain ⟨f, hf⟩ := hch
  have hnd : ((List.range m).map fun v => r' (f v)).Nodup := by
    rw [List.nodup_iff_pairwise_ne, List.pairwise_map]
    refine List.Pairwise.imp_of_mem ?_ (List.nodup_iff_pairwise_ne.1 (List.nodup_range (n := m)))
    intro x y hx hy hxy e
    rw [List.mem_range] at hx hy
    have := href _ _ (hf x hx).1 (hf y hy).1 e
    rw [(hf x hx).2.1, (hf y hy).2.1] at this
    exact hxy (Int.ofNat_inj.1 this)
  have hnb : r' b ∉ (List.range m).map fun v => r' (f v) := by
    intro hm
    obtain ⟨v, hv, e⟩ := List.mem_map.1 hm
    rw [List.mem_range] at hv
    have h3 := href _ _ (hf v hv).1 hb e
    rw [(hf v hv).2.1, ← hab] at h3
    have h4 := (hf v hv).2.2 h3
    rw [h4] at e
    exact hne e
  have hle := nodup_len (r' b :: (List.range m).map fun v => r' (f v)) ((List.range m).map fun (v : Nat) => (v : Int)) (List.nodup_cons.2 ⟨hnb, hnd⟩) (fun x hx => by
    have hin : 0 ≤ x ∧ x < (m : Int) := by
      rcases List.mem_cons.1 hx with rfl | hx
      · exact h2.rng b hb
      · obtain ⟨v, hv, rfl⟩ := List.mem_map.1 hx
        rw [List.mem_range] at hv
        exact h2.rng _ (hf v hv).1
    exact List.mem_map.2 ⟨x.toNat, List.mem_range.2 (by omega), by omega⟩)
  simp at hle
  omega
/-- Ranks that stand still are the greatest relation. -/
structure Fnl (g : List GN) (r : Int → Int) : Prop where
  bis : Bis g (fun a b => r a = r b)
  top : ∀ B, Bis g B → ∀ a b, Pl g a → Pl g b → B a b → r a = r b
theorem fin_of {g : List GN} (hc : checkP g = 0) {r r' : Int → Int} {m : Nat} (h1 : Rk g r m) (h2 : Rk g r' m) (hn : Nxt g r r') (ht : ∀ B, Bis g B → ∀ a b, Pl g a → Pl g b → B a b → r a = r b) : Fnl g r' := by
  have hs := still h1 h2 fun a b ha hb e => ((hn a b ha hb).1 e).1
  refine ⟨fun a b ha hb e => ?_, fun B hB => keeps hc hn hB (ht B hB)⟩
  obtain ⟨_, hl, hm⟩ := (hn a b ha hb).1 e
  refine ⟨hl, fun i hi => ?_⟩
  have hk1 := kid_in hc ha hi
  have hk2 := kid_in hc hb (show i < (nd g b).f4.length by rw [← hl.2.2.2.2]; exact hi)
  exact (hm i hi).mono fun x hx y hy hxy => hs x y (members_pl hc hk1.1 hk1.2 hx) (members_pl hc hk2.1 hk2.2 hy) hxy
/-- One, by ranks that stand still. -/
theorem one_iff {g : List GN} (hc : checkP g = 0) {r : Int → Int} (h : Fnl g r) {m n : Int} (hm0 : 0 ≤ m) (hm1 : m < g.length) (hn0 : 0 ≤ n) (hn1 : n < g.length) :
    OneP g m n ↔ ∀ v, v ∈ (membersP g m).map r ↔ v ∈ (membersP g n).map r := by
  constructor
  · rintro ⟨B, hB, h1, h2⟩ v
    constructor
    · intro hv
      obtain ⟨x, hx, rfl⟩ := List.mem_map.1 hv
      obtain ⟨y, hy, hxy⟩ := h1 x hx
      exact List.mem_map.2 ⟨y, hy, (h.top B hB x y (members_pl hc hm0 hm1 hx) (members_pl hc hn0 hn1 hy) hxy).symm⟩
    · intro hv
      obtain ⟨y, hy, rfl⟩ := List.mem_map.1 hv
      obtain ⟨x, hx, hxy⟩ := h2 y hy
      exact List.mem_map.2 ⟨x, hx, h.top B hB x y (members_pl hc hm0 hm1 hx) (members_pl hc hn0 hn1 hy) hxy⟩
  · intro hv
    refine ⟨_, h.bis, fun x hx => ?_, fun y hy => ?_⟩
    · obtain ⟨y, hy, e⟩ := List.mem_map.1 ((hv (r x)).1 (List.mem_map.2 ⟨x, hx, rfl⟩))
      exact ⟨y, hy, e.symm⟩
    · obtain ⟨x, hx, e⟩ := List.mem_map.1 ((hv (r y)).2 (List.mem_map.2 ⟨y, hy, rfl⟩))
      exact ⟨x, hx, e⟩
end Go.Proofs.YtgppcpghpeenhaaDoor.N1

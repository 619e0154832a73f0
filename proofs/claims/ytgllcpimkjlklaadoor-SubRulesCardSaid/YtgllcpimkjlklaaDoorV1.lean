/- The plain law of one and holds: they tell what the rule says. -/
import Derived.Test.YtgllcpimkjlklaaDoorProg
import Derived.Below
import Derived.Deep.Draws
import Derived.Deep.AppendLies
import Derived.Maps.AppendAt
import Derived.OwnWalk
import Derived.Laws.BytesArg
import Derived.Laws.MakeOwn
import Derived.Laws.OwnMore
import Derived.Deep.OwnRows
import Derived.Tactics
import Derived.Lib.ConvBytes
import Derived.Laws.Slices
import Derived.WalkKit
import Derived.KernelRfl
import Derived.RowKit3
import Derived.Deep.LoopGhost
import Derived.Deep.QuietTactic
import Derived.BigQuiet
import Derived.WideLaws
import Derived.Deep.DeepCutAuto
import Derived.Deep.CutBlock
import Derived.Deep.RegionHeld3
import Derived.Laws.Rows
import Derived.Lib.AppendStr
import Derived.ArgAppend
import Derived.Laws.IdiomCopy
import Derived.OrdersHeld
import Derived.Laws.BitsLemmas
import Derived.RowKit
import Derived.WalkSpells
import Derived.Laws.CopyOwn
import Derived.Test.YtgllcpimkjlklaaDoorWWords
import Derived.Test.YtgllcpimkjlklaaDoorWLast
import Derived.Test.YtgllcpimkjlklaaDoorR3
import Derived.Test.YtgllcpimkjlklaaDoorR7
import Derived.Test.YtgllcpimkjlklaaDoorH2
namespace Go.Proofs.YtgllcpimkjlklaaDoor.V1
open Go.RowKit Go.Proofs.YtgllcpimkjlklaaDoorW.PrintWords Go.Proofs.YtgllcpimkjlklaaDoorW.PrintLast Go.Proofs.YtgllcpimkjlklaaDoorW.PrintMore Go.Proofs.YtgllcpimkjlklaaDoor Go.Proofs.YtgllcpimkjlklaaDoor.L1 Go.Proofs.YtgllcpimkjlklaaDoor.L2 Go.Proofs.YtgllcpimkjlklaaDoor.L4 Go.Proofs.YtgllcpimkjlklaaDoor.G1 Go.Proofs.YtgllcpimkjlklaaDoor.G2 Go.Proofs.YtgllcpimkjlklaaDoor.M0 Go.Proofs.YtgllcpimkjlklaaDoor.S2 Go.Proofs.YtgllcpimkjlklaaDoor.S3 Go.Proofs.YtgllcpimkjlklaaDoor.S4 Go.Proofs.YtgllcpimkjlklaaDoor.S5 Go.Proofs.YtgllcpimkjlklaaDoor.S7 Go.Proofs.YtgllcpimkjlklaaDoor.R1 Go.Proofs.YtgllcpimkjlklaaDoor.R3 Go.Proofs.YtgllcpimkjlklaaDoor.R4 Go.Proofs.YtgllcpimkjlklaaDoor.R6 Go.Proofs.YtgllcpimkjlklaaDoor.R7
set_option linter.unusedVariables false
set_option linter.unusedSimpArgs false
/-- A square table. -/
def Sq (N : Nat) (tab : List (List Bool)) : Prop := tab.length = N ∧ ∀ r ∈ tab, r.length = N
def tb (tab : List (List Bool)) (a b : Nat) : Bool := (tab.getD a []).getD b false
theorem Sq.row {N : Nat} {tab : List (List Bool)} (h : Sq N tab) {a : Int} (h0 : 0 ≤ a) (h1 : a < N) : (P.rd_L6 tab a).length = N := by
  unfold P.rd_L6
  have hl : a.toNat < tab.length := by rw [h.1]; omega
  rw [List.getD_eq_getElem?_getD, List.getElem?_eq_getElem hl]
  exact h.2 _ (List.getElem_mem hl)
theorem tb_eq (tab : List (List Bool)) (a b : Int) : rdOf false (P.rd_L6 tab a) b = tb tab a.toNat b.toNat := rfl
theorem ne_AB : (kA.toList = kB.toList) = False := eq_false (fun h => by have := toList_inj h; exact absurd this (by decide))
theorem ne_BA : (kB.toList = kA.toList) = False := eq_false (fun h => by have := toList_inj h; exact absurd this (by decide))
theorem r1A : rdOf ByteArray.empty [kA] 0 = kA := rfl
theorem r2A : rdOf ByteArray.empty [kA, kB] 0 = kA := rfl
theorem r2B : rdOf ByteArray.empty [kA, kB] 1 = kB := rfl
theorem w1_ : wrap64 1 = 1 := by unfold wrap64; omega
theorem w2_ : wrap64 2 = 2 := by unfold wrap64; omega
theorem w01 : wrap64 (0 + 1) = 1 := by unfold wrap64; omega
theorem w12 : wrap64 (1 + 1) = 2 := by unfold wrap64; omega
theorem l1A : (([kA] : List ByteArray).length : Int) = 1 := rfl
theorem l2A : (([kA, kB] : List ByteArray).length : Int) = 2 := rfl
theorem l0A : (([] : List ByteArray).length : Int) = 0 := rfl
theorem rd1 (a : Int) : rd [a] 0 = a := rfl
theorem rd2 (a b : Int) : rd [a, b] 0 = a := rfl
theorem rd3 (a b : Int) : rd [a, b] 1 = b := rfl
theorem two_of {l : List Int} (h : l.length ≤ 2) : l = [] ∨ (∃ a, l = [a]) ∨ ∃ a b, l = [a, b] := by
  rcases l with _ | ⟨a, _ | ⟨b, _ | ⟨c, r⟩⟩⟩
  · exact .inl rfl
  · exact .inr (.inl ⟨a, rfl⟩)
  · exact .inr (.inr ⟨a, b, rfl⟩)
  · simp at h
theorem two_len {l : List Int} (n : Nat) (h : l.length = n) : (l.length : Int) = n := by rw [h]
/-- An entry read. -/
def ent (tab : List (List Bool)) (x y : Int) {α : Type} (g : Bool → Option α) : Option α := if 0 ≤ x then (if x < (tab.length : Int) then (if 0 ≤ y then (if y < ((P.rd_L6 tab x).length : Int) then g (rdOf false (P.rd_L6 tab x) y) else none) else none) else none) else none
theorem ent_eq {N : Nat} {tab : List (List Bool)} (hq : Sq N tab) {x y : Int} (hx : 0 ≤ x ∧ x < N) (hy : 0 ≤ y ∧ y < N) {α : Type} (g : Bool → Option α) : ent tab x y g = g (tb tab x.toNat y.toNat) := by
  unfold ent
  rw [if_pos hx.1, if_pos (by rw [hq.1]; exact hx.2), if_pos hy.1, if_pos (by rw [hq.row hx.1 hx.2]; exact hy.2), tb_eq]
/-- Two records. -/
theorem recs_ok {N : Nat} {tab : List (List Bool)} (hq : Sq N tab) {l m : List Int} (hl : l.length ≤ 2) (hm : m.length ≤ 2) (il : In N l) (im : In N m) (q : Int) (e : ByteArray) :
    ∃ k, P.armillarylaw08_one.l0 k tab 0 7 q e (recK l.length) l 7 q e (recK m.length) m = some (recB (tb tab) (recG l) (recG m) (recG m).f3 0) := by
  have hlen : (tab.length : Int) = N := by rw [hq.1]
  have hk0 : recK 0 = [] := rfl
  have hk1 : recK 1 = [kA] := rfl
  have hk2 : recK 2 = [kA, kB] := rfl
  have i4 : idxF kB [kA] 0 = none := by decide
  refine ⟨12, ?_⟩
  rcases two_of hl with rfl | ⟨a, rfl⟩ | ⟨a, b, rfl⟩ <;> rcases two_of hm with rfl | ⟨c, rfl⟩ | ⟨c, d, rfl⟩
  · simp [P.armillarylaw08_one.l0, recB, recG, recK]
  · simp [P.armillarylaw08_one.l0, P.armillarylaw08_one.l1, recB, recG, recK, idxF]
  · simp [P.armillarylaw08_one.l0, P.armillarylaw08_one.l1, recB, recG, recK, idxF]
  · simp [P.armillarylaw08_one.l0, recB, recG, recK]
  · have ha := il a (by simp)
    have hc := im c (by simp)
    have ra := hq.row ha.1 ha.2
    simp [P.armillarylaw08_one.l0, P.armillarylaw08_one.l1, recB, recG, hk0, hk1, hk2, idx1, idx2, idx3, i4, r1A, r2A, r2B, rd1, rd2, rd3, w1_, w2_, ne_AB, ne_BA, hlen, tb_eq, at_, ha.1, ha.2, hc.1, hc.2, ra]
    try (cases tb tab a.toNat c.toNat <;> simp)
  · have ha := il a (by simp)
    have hc := im c (by simp)
    have hd := im d (by simp)
    have ra := hq.row ha.1 ha.2
    simp [P.armillarylaw08_one.l0, P.armillarylaw08_one.l1, recB, recG, hk0, hk1, hk2, idx1, idx2, idx3, i4, r1A, r2A, r2B, rd1, rd2, rd3, w1_, w2_, ne_AB, ne_BA, hlen, tb_eq, at_, ha.1, ha.2, hc.1, hc.2, hd.1, hd.2, ra]
    try (cases tb tab a.toNat c.toNat <;> simp)
  · simp [P.armillarylaw08_one.l0, recB, recG, recK]
  · have ha := il a (by simp)
    have hb := il b (by simp)
    have hc := im c (by simp)
    have ra := hq.row ha.1 ha.2
    have rb := hq.row hb.1 hb.2
    simp [P.armillarylaw08_one.l0, P.armillarylaw08_one.l1, recB, recG, hk0, hk1, hk2, idx1, idx2, idx3, i4, r1A, r2A, r2B, rd1, rd2, rd3, w1_, w2_, ne_AB, ne_BA, hlen, tb_eq, at_, ha.1, ha.2, hb.1, hb.2, hc.1, hc.2, ra, rb]
    try (cases tb tab a.toNat c.toNat <;> simp)
  · have ha := il a (by simp)
    have hb := il b (by simp)
    have hc := im c (by simp)
    have hd := im d (by simp)
    have ra := hq.row ha.1 ha.2
    have rb := hq.row hb.1 hb.2
    simp [P.armillarylaw08_one.l0, P.armillarylaw08_one.l1, recB, recG, hk0, hk1, hk2, idx1, idx2, idx3, i4, r1A, r2A, r2B, rd1, rd2, rd3, w1_, w2_, ne_AB, ne_BA, hlen, tb_eq, at_, ha.1, ha.2, hb.1, hb.2, hc.1, hc.2, hd.1, hd.2, ra, rb]
    try (cases tb tab a.toNat c.toNat <;> cases tb tab b.toNat d.toNat <;> simp)
section
variable (k : Nat) (tab : List (List Bool)) (st : Bool) (s0 s1 : Int) (s2 : ByteArray) (s3 : List ByteArray) (s4 : List Int) (t0 t1 : Int) (t2 : ByteArray) (t3 : List ByteArray) (t4 : List Int)
theorem j0_true : P.armillarylaw08_one.j0 (k + 1) tab st true s0 s1 s2 s3 s4 t0 t1 t2 t3 t4 = if s0 = t0 then some true else some (!st) := by rw [P.armillarylaw08_one.j0, if_pos rfl]
theorem j0_false : P.armillarylaw08_one.j0 (k + 1) tab st false s0 s1 s2 s3 s4 t0 t1 t2 t3 t4 = if s0 = t0 then (if s1 = t1 then P.armillarylaw08_one.j1 k tab (s2.toList != t2.toList) s0 s1 s2 s3 s4 t0 t1 t2 t3 t4 else P.armillarylaw08_one.j1 k tab true s0 s1 s2 s3 s4 t0 t1 t2 t3 t4) else P.armillarylaw08_one.j1 k tab true s0 s1 s2 s3 s4 t0 t1 t2 t3 t4 := by rw [P.armillarylaw08_one.j0, if_neg (by simp)]
theorem j1_true : P.armillarylaw08_one.j1 (k + 1) tab true s0 s1 s2 s3 s4 t0 t1 t2 t3 t4 = some false := by rw [P.armillarylaw08_one.j1, if_pos rfl]
theorem j1_false : P.armillarylaw08_one.j1 (k + 1) tab false s0 s1 s2 s3 s4 t0 t1 t2 t3 t4 = P.armillarylaw08_one.l0 k tab 0 s0 s1 s2 s3 s4 t0 t1 t2 t3 t4 := by rw [P.armillarylaw08_one.j1, if_neg (by simp)]
end
/-- The kinds that are no unions. -/
theorem four_of {dyn : Bool} {n p i : Nat} {x : GN} (h : NodeP dyn n p i x) (h8 : x.f0 ≠ 8) :
    (∃ k : Int, 1 ≤ k ∧ k ≤ 4 ∧ x = ⟨k, 0, emp, [], []⟩) ∨ (∃ s, x = ⟨5, 0, s, [], []⟩) ∨ (∃ m y : Int, 0 ≤ y ∧ y < n ∧ x = ⟨9, m, emp, [], [y]⟩) ∨ (∃ l : List Int, l.length ≤ 2 ∧ In n l ∧ x = recG l) := by
  rcases h with ⟨k, h1, h2, _, h3⟩ | ⟨s, _, h⟩ | ⟨m, y, _, _, h1, h2, h3⟩ | h | ⟨_, u, _, _, _, h⟩
  · exact .inl ⟨k, h1, h2, h3⟩
  · exact .inr (.inl ⟨s, h⟩)
  · exact .inr (.inr (.inl ⟨m, y, h1, h2, h3⟩))
  · exact .inr (.inr (.inr h))
  · rw [h] at h8
    exact absurd rfl h8
theorem one_ok {N : Nat} {tab : List (List Bool)} (hq : Sq N tab) {dyn : Bool} {p i j : Nat} {s t : GN} (hs : NodeP dyn N p i s) (ht : NodeP dyn N p j t) (s8 : s.f0 ≠ 8) (t8 : t.f0 ≠ 8) (st : Bool) :
    ∃ k, P.armillarylaw08_one.f k s.f0 s.f1 s.f2 s.f3 s.f4 t.f0 t.f1 t.f2 t.f3 t.f4 tab st = some (doesB st (tb tab) s t) := by
  by_cases hd : s.f0 = 1 ∨ t.f0 = 1
  · refine ⟨1, ?_⟩
    have hv : doesB st (tb tab) s t = (!st || s.f0 == t.f0) := if_pos hd
    rw [hv]
    have hj : P.armillarylaw08_one.f 1 s.f0 s.f1 s.f2 s.f3 s.f4 t.f0 t.f1 t.f2 t.f3 t.f4 tab st = if s.f0 = t.f0 then some true else some (!st) := by
      unfold P.armillarylaw08_one.f
      by_cases h1 : s.f0 = 1
      · rw [if_pos h1]
        exact j0_true 0 tab st _ _ _ _ _ _ _ _ _ _
      · have h2 : (t.f0 == 1) = true := by simp; omega
        rw [if_neg h1, h2]
        exact j0_true 0 tab st _ _ _ _ _ _ _ _ _ _
    rw [hj]
    by_cases e : s.f0 = t.f0
    · rw [if_pos e, e]; simp
    · rw [if_neg e]
      have : (s.f0 == t.f0) = false := by simp [e]
      rw [this, Bool.or_false]
  · have h1 : ¬ s.f0 = 1 := fun h => hd (.inl h)
    have h2 : (t.f0 == 1) = false := by simp; exact fun h => hd (.inr h)
    have hv : doesB st (tb tab) s t = ((s.f0 == t.f0) && (!(s.f0 == 5) || s.f2.toList == t.f2.toList) && (!(s.f0 == 7) || recB (tb tab) s t t.f3 0) && (!(s.f0 == 9) || (s.f1 == t.f1 && tb tab (at_ s.f4 0) (at_ t.f4 0)))) := if_neg hd
    rw [hv]
    clear hv
    by_cases he : s.f0 = t.f0
    · have key : ∀ k v, P.armillarylaw08_one.l0 k tab 0 s.f0 s.f1 s.f2 s.f3 s.f4 t.f0 t.f1 t.f2 t.f3 t.f4 = some v → s.f1 = t.f1 → s.f2.toList = t.f2.toList → P.armillarylaw08_one.f (k + 2) s.f0 s.f1 s.f2 s.f3 s.f4 t.f0 t.f1 t.f2 t.f3 t.f4 tab st = some v := fun k v hk e1 e2 => by
        unfold P.armillarylaw08_one.f
        rw [if_neg h1, h2]
        rw [j0_false, if_pos he, if_pos e1, show (s.f2.toList != t.f2.toList) = false by rw [e2]; simp, j1_false]
        exact hk
      have keyN : ∀ k, (s.f1 ≠ t.f1 ∨ s.f2.toList ≠ t.f2.toList) → P.armillarylaw08_one.f (k + 2) s.f0 s.f1 s.f2 s.f3 s.f4 t.f0 t.f1 t.f2 t.f3 t.f4 tab st = some false := fun k hn => by
        unfold P.armillarylaw08_one.f
        rw [if_neg h1, h2]
        rw [j0_false, if_pos he]
        by_cases e1 : s.f1 = t.f1
        · rw [if_pos e1, show (s.f2.toList != t.f2.toList) = true by simp; exact hn.resolve_left (fun h => h e1), j1_true]
        · rw [if_neg e1, j1_true]
      rcases four_of hs s8 with ⟨k, k1, k2, rfl⟩ | ⟨n, rfl⟩ | ⟨m, y, y0, y1, rfl⟩ | ⟨l, hl, hin, rfl⟩ <;> rcases four_of ht t8 with ⟨k', k1', k2', rfl⟩ | ⟨n', rfl⟩ | ⟨m', y', y0', y1', rfl⟩ | ⟨l', hl', hin', rfl⟩
      · refine ⟨3, key 1 _ ?_ rfl rfl⟩
        have e5 : (k == 5) = false := by simp; omega
        have e7 : (k == 7) = false := by simp; omega
        have e9 : (k == 9) = false := by simp; omega
        have n9 : ¬ k = 9 := by omega
        dsimp only at he
        simp [P.armillarylaw08_one.l0, he.symm, e5, e7, e9, n9]
      · dsimp only at he; omega
      · dsimp only at he; omega
      · dsimp only [recG] at he; omega
      · dsimp only at he; omega
      · by_cases en : n.toList = n'.toList
        · refine ⟨3, key 1 _ ?_ rfl en⟩
          simp [P.armillarylaw08_one.l0, en]
        · refine ⟨2, ?_⟩
          rw [keyN 0 (.inr en)]
          simp [en]
      · dsimp only at he; omega
      · dsimp only [recG] at he; omega
      · dsimp only at he; omega
      · dsimp only at he; omega
      · by_cases em : m = m'
        · refine ⟨3, key 1 _ ?_ em rfl⟩
          have hr := hq.row y0 y1
          simp [P.armillarylaw08_one.l0, em, rd1, y0, y1, y0', y1', hr, hq.1, tb_eq, at_]
        · refine ⟨2, ?_⟩
          rw [keyN 0 (.inl em)]
          simp [em]
      · dsimp only [recG] at he; omega
      · dsimp only [recG] at he; omega
      · dsimp only [recG] at he; omega
      · dsimp only [recG] at he; omega
      · obtain ⟨k, hk⟩ := recs_ok hq hl hl' hin hin' 0 (⟨#[]⟩ : ByteArray)
        refine ⟨k + 2, ?_⟩
        rw [key k _ hk rfl rfl]
        simp [recG]
    · refine ⟨2, ?_⟩
      have hb : (s.f0 == t.f0) = false := by simp [he]
      rw [hb]
      unfold P.armillarylaw08_one.f
      rw [if_neg h1, h2]
      rw [j0_false, if_neg he, j1_true]
      rfl
section
variable {g : List GN} {tab : List (List Bool)} {dyn st : Bool} {p b : Nat} {ms ys : List Int}
def stepB (st : Bool) (g : List GN) (tab : List (List Bool)) (b : Nat) (ys : List Int) (s : Int) : Bool := ys.any (fun y => doesB st (tb tab) (nd g s) (nd g y)) || ((nd g s).f0 == 9 && tb tab (at_ (nd g s).f4 0) b)
theorem rd_get {l : List Int} {i : Nat} (h : i < l.length) : rd l (i : Int) = l[i] := by
  unfold rd
  rw [Int.toNat_natCast, List.getD_eq_getElem?_getD, List.getElem?_eq_getElem h]
  rfl
theorem rdT_nd (g : List GN) (z : Int) : P.rd_T37 g z = nd g z := rfl
theorem l2_ok (hq : Sq g.length tab) (hys : ∀ y ∈ ys, 0 ≤ y ∧ y < (g.length : Int) ∧ (nd g y).f0 ≠ 8) (hg : GraphP dyn g.length p g) (hl : ys.length ≤ 1000) {s : Int} (hs0 : 0 ≤ s) (hs1 : s < g.length) (hs8 : (nd g s).f0 ≠ 8) (x14 : Int) (r : Bool)
    (hr : ∃ k, P.armillarylaw08_holds.l1 k g tab b st ms ys (wrap64 (x14 + 1)) = some r) :
    ∀ (d i : Nat) (acc : Bool), i + d = ys.length → ∃ k, P.armillarylaw08_holds.l2 k g tab b st ms ys x14 acc i (nd g s).f0 (nd g s).f1 (nd g s).f2 (nd g s).f3 (nd g s).f4 = some ((acc || (ys.drop i).any (fun y => doesB st (tb tab) (nd g s) (nd g y))) && r) := by
  intro d
  induction d with
  | zero =>
    intro i acc hi
    obtain ⟨k, hk⟩ := hr
    refine ⟨k + 1, ?_⟩
    rw [P.armillarylaw08_holds.l2, if_neg (by omega), List.drop_eq_nil_of_le (by omega)]
    cases acc with
    | true => rw [if_pos rfl, hk]; simp
    | false => rw [if_neg (by simp)]; simp
  | succ d ih =>
    intro i acc hi
    have hil : i < ys.length := by omega
    have hw : wrap64 ((i : Int) + 1) = ((i + 1 : Nat) : Int) := by unfold wrap64; omega
    cases acc with
    | true =>
      obtain ⟨k, hk⟩ := ih (i + 1) true (by omega)
      refine ⟨k + 1, ?_⟩
      rw [P.armillarylaw08_holds.l2, if_pos (by omega), if_pos rfl, hw, hk]
      simp
    | false =>
      obtain ⟨h0, h1, h8⟩ := hys _ (List.getElem_mem hil)
      have hone := one_ok hq (hg _ _ (nd_at hs0 hs1)) (hg _ _ (nd_at h0 h1)) hs8 h8 st
      obtain ⟨k, hk1, hk2⟩ := together (fun k => P.armillarylaw08_one.mono _ _ _ _ _ _ _ _ _ _ _ _ k) (fun k => (P.armillarylaw08_holds.mono_l k).2.2.2.2 g tab b st ms ys x14 _ _ _ _ _ _ _) hone (ih (i + 1) (doesB st (tb tab) (nd g s) (nd g ys[i])) (by omega))
      refine ⟨k + 1, ?_⟩
      rw [P.armillarylaw08_holds.l2, if_pos (by omega), if_neg (by simp), if_pos (by omega), rd_get hil, if_pos h0, if_pos h1]
      simp only [rdT_nd]
      rw [hk1, Option.bind_some, hw, hk2, List.drop_eq_getElem_cons hil, List.any_cons, Bool.false_or]
theorem l1_ok (hq : Sq g.length tab) (hys : ∀ y ∈ ys, 0 ≤ y ∧ y < (g.length : Int) ∧ (nd g y).f0 ≠ 8) (hms : ∀ y ∈ ms, 0 ≤ y ∧ y < (g.length : Int) ∧ (nd g y).f0 ≠ 8) (hg : GraphP dyn g.length p g) (hok : ∀ x ∈ g, Okn g x) (hl : ys.length ≤ 1000) (hl2 : ms.length ≤ 1000) (hb : b < g.length) :
    ∀ (d i : Nat), i + d = ms.length → ∃ k, P.armillarylaw08_holds.l1 k g tab b st ms ys i = some ((ms.drop i).all (stepB st g tab b ys)) := by
  intro d
  induction d with
  | zero =>
    intro i hi
    refine ⟨1, ?_⟩
    rw [P.armillarylaw08_holds.l1, if_neg (by omega), List.drop_eq_nil_of_le (by omega)]
    rfl
  | succ d ih =>
    intro i hi
    have hil : i < ms.length := by omega
    have hw : wrap64 ((i : Int) + 1) = ((i + 1 : Nat) : Int) := by unfold wrap64; omega
    obtain ⟨h0, h1, h8⟩ := hms _ (List.getElem_mem hil)
    have hrest := ih (i + 1) (by omega)
    rw [← hw] at hrest
    have hl2' := fun acc => l2_ok (st := st) (b := b) (ms := ms) hq hys hg hl h0 h1 h8 (i : Int) _ hrest ys.length 0 acc (by omega)
    have hdrop : (ms.drop i).all (stepB st g tab b ys) = (stepB st g tab b ys ms[i] && (ms.drop (i + 1)).all (stepB st g tab b ys)) := by
      rw [List.drop_eq_getElem_cons hil, List.all_cons]
    by_cases h9 : (nd g ms[i]).f0 = 9
    · have hmem : nd g ms[i] ∈ g := nd_mem h0 h1
      have hv := (hok _ hmem).var h9
      obtain ⟨z0, z1⟩ := (hok _ hmem).range (rd (nd g ms[i]).f4 0) (by
        unfold rd
        rw [List.getD_eq_getElem?_getD, List.getElem?_eq_getElem (by show 0 < (nd g ms[i]).f4.length; omega)]
        exact List.getElem_mem _)
      obtain ⟨k, hk⟩ := hl2' (tb tab (at_ (nd g ms[i]).f4 0) b)
      refine ⟨k + 3, ?_⟩
      rw [P.armillarylaw08_holds.l1, if_pos (by omega), if_pos (by omega), rd_get hil, if_neg (by omega), show decide (ms[i] ≥ (g.length : Int)) = false from decide_eq_false (by omega)]
      rw [P.armillarylaw08_holds.j2, if_neg (by simp), if_pos (by omega), if_pos (by omega), rd_get hil, if_pos h0, if_pos h1]
      rw [rdT_nd]
      rw [if_pos h9, if_pos (by omega), if_pos z0, if_pos (by rw [hq.1]; exact z1), if_pos (by omega), if_pos (by rw [hq.row z0 z1]; omega), tb_eq, Int.toNat_natCast]
      rw [P.armillarylaw08_holds.j3]
      have e1 : (rd (nd g ms[i]).f4 0).toNat = at_ (nd g ms[i]).f4 0 := rfl
      rw [e1]
      refine hk.trans ?_
      rw [hdrop, List.drop_zero]
      unfold stepB
      rw [h9]
      simp only [beq_self_eq_true, Bool.true_and]
      rw [Bool.or_comm]
    · obtain ⟨k, hk⟩ := hl2' false
      refine ⟨k + 3, ?_⟩
      rw [P.armillarylaw08_holds.l1, if_pos (by omega), if_pos (by omega), rd_get hil, if_neg (by omega), show decide (ms[i] ≥ (g.length : Int)) = false from decide_eq_false (by omega)]
      rw [P.armillarylaw08_holds.j2, if_neg (by simp), if_pos (by omega), if_pos (by omega), rd_get hil, if_pos h0, if_pos h1]
      rw [rdT_nd]
      rw [if_neg h9, P.armillarylaw08_holds.j3]
      refine hk.trans ?_
      rw [hdrop, List.drop_zero]
      unfold stepB
      have : ((nd g ms[i]).f0 == 9) = false := by simp [h9]
      rw [this]
      simp
theorem l0_ok (hys : ∀ y ∈ ys, 0 ≤ y ∧ y < (g.length : Int) ∧ (nd g y).f0 ≠ 8) (hl : ys.length ≤ 1000) (r : Bool) (hr : ∃ k, P.armillarylaw08_holds.l1 k g tab b st ms ys 0 = some r) :
    ∀ (d i : Nat), i + d = ys.length → ∃ k, P.armillarylaw08_holds.l0 k g tab b st ms ys i = some r := by
  intro d
  induction d with
  | zero =>
    intro i hi
    obtain ⟨k, hk⟩ := hr
    exact ⟨k + 1, by rw [P.armillarylaw08_holds.l0, if_neg (by omega)]; exact hk⟩
  | succ d ih =>
    intro i hi
    have hil : i < ys.length := by omega
    have hw : wrap64 ((i : Int) + 1) = ((i + 1 : Nat) : Int) := by unfold wrap64; omega
    obtain ⟨h0, h1, _⟩ := hys _ (List.getElem_mem hil)
    obtain ⟨k, hk⟩ := ih (i + 1) (by omega)
    refine ⟨k + 1, ?_⟩
    rw [P.armillarylaw08_holds.l0, if_pos (by omega), if_pos (by omega), rd_get hil, if_neg (by omega), if_neg (by omega), hw]
    exact hk
/-- holds tells whether a pair stands by its rule. -/
theorem holds_ok (hq : Sq g.length tab) (hn : g.length ≤ 14) (hg : GraphP dyn g.length (plainN g.length) g) {a : Nat} (ha : a < g.length) (hb : b < g.length) : ∃ k, P.armillarylaw08_holds.f k g tab a b st = some (standsB st g (tb tab) a b) := by
  have hc := graph_check (plain_le _) (by omega) hg
  have hok := (check_ok hc).2
  have hfew : ∀ n : Nat, n < g.length → (membersP g n).length ≤ 1000 := fun n hn' => by
    unfold membersP
    split
    · simp
    · split
      · simp
      · split
        · have := (hg _ _ (nd_at (g := g) (z := (n : Int)) (by omega) (by omega))).few (by unfold plainN; omega)
          exact Nat.le_trans this (by omega)
        · simp
  have hsm : smallG g = true := List.all_eq_true.2 fun x hx => by
    obtain ⟨i, hi, rfl⟩ := List.getElem_of_mem hx
    have := (hg i _ (List.getElem?_eq_getElem hi)).few (by unfold plainN; omega)
    exact decide_eq_true (by omega)
  have hA := members_in hc (n := (a : Int)) (by omega) (by omega)
  have hB := members_in hc (n := (b : Int)) (by omega) (by omega)
  obtain ⟨k, hk⟩ := l0_ok (st := st) (b := b) (ms := membersP g a) hB (hfew b hb) _ (l1_ok hq hB hA hg hok (hfew b hb) (hfew a ha) hb (membersP g a).length 0 (by omega)) (membersP g b).length 0 (by omega)
  refine ⟨k, ?_⟩
  unfold P.armillarylaw08_holds.f members.f
  rw [if_pos hsm, Option.bind_some, if_pos hsm, Option.bind_some]
  exact hk
end
end Go.Proofs.YtgllcpimkjlklaaDoor.V1

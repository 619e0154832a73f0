/- SubPicks walked: it answers true, of all rows and places. -/
import Derived.Test.YtgllcpimkjlklaaDoorProg
import Derived.Below
import Derived.Deep.Draws
import Derived.Deep.AppendLies
import Derived.Maps.AppendAt
import Derived.OwnWalk
import Derived.Laws.BytesArg
import Derived.Laws.MakeOwn
import Derived.Laws.OwnMore
import Derived.Deep.OwnRows
import Derived.Tactics
import Derived.Lib.ConvBytes
import Derived.Laws.Slices
import Derived.WalkKit
import Derived.KernelRfl
import Derived.RowKit3
import Derived.Deep.LoopGhost
import Derived.Deep.QuietTactic
import Derived.BigQuiet
import Derived.WideLaws
import Derived.Deep.DeepCutAuto
import Derived.Deep.CutBlock
import Derived.Deep.RegionHeld3
import Derived.Laws.Rows
import Derived.Lib.AppendStr
import Derived.ArgAppend
import Derived.Laws.IdiomCopy
import Derived.OrdersHeld
import Derived.Laws.BitsLemmas
import Derived.RowKit
import Derived.WalkSpells
import Derived.Laws.CopyOwn
import Derived.Test.YtgllcpimkjlklaaDoorWWords
import Derived.Test.YtgllcpimkjlklaaDoorWLast
import Derived.Test.YtgllcpimkjlklaaDoorR8
import Derived.Test.YtgllcpimkjlklaaDoorS11
namespace Go.Proofs.YtgllcpimkjlklaaDoor.T1
open Go.RowKit Go.Proofs.YtgllcpimkjlklaaDoorW.PrintWords Go.Proofs.YtgllcpimkjlklaaDoorW.PrintLast Go.Proofs.YtgllcpimkjlklaaDoorW.PrintMore Go.Proofs.YtgllcpimkjlklaaDoor Go.Proofs.YtgllcpimkjlklaaDoor.L1 Go.Proofs.YtgllcpimkjlklaaDoor.L4 Go.Proofs.YtgllcpimkjlklaaDoor.G1 Go.Proofs.YtgllcpimkjlklaaDoor.G2 Go.Proofs.YtgllcpimkjlklaaDoor.S3 Go.Proofs.YtgllcpimkjlklaaDoor.S4 Go.Proofs.YtgllcpimkjlklaaDoor.S5 Go.Proofs.YtgllcpimkjlklaaDoor.S7 Go.Proofs.YtgllcpimkjlklaaDoor.S9 Go.Proofs.YtgllcpimkjlklaaDoor.S10 Go.Proofs.YtgllcpimkjlklaaDoor.S11 Go.Proofs.YtgllcpimkjlklaaDoor.R1 Go.Proofs.YtgllcpimkjlklaaDoor.R3 Go.Proofs.YtgllcpimkjlklaaDoor.R4 Go.Proofs.YtgllcpimkjlklaaDoor.R5 Go.Proofs.YtgllcpimkjlklaaDoor.R6 Go.Proofs.YtgllcpimkjlklaaDoor.R7 Go.Proofs.YtgllcpimkjlklaaDoor.R8
set_option linter.unusedVariables false
set_option linter.unusedSimpArgs false
theorem members_at {g : List GN} {n : Int} {j : Nat} (h : j < (membersP g n).length) : (membersP g n)[j] = rd (membersP g n) (j : Int) := by
  unfold rd
  rw [Int.toNat_natCast, List.getD_eq_getElem?_getD, List.getElem?_eq_getElem h]
  rfl
/-- Of one that is no union: what it may stand for, by the rule. -/
theorem sub_one {st : Bool} {g : List GN} {a y : Nat} (ha : a < g.length) (hy : y < g.length) (h8 : (nd g a).f0 ≠ 8) (hy8 : (nd g y).f0 ≠ 8) :
    Sub st g a y ↔ (Does st (Sub st g) (nd g a) (nd g y) ∨ ((nd g a).f0 = 9 ∧ Sub st g (at_ (nd g a).f4 0) y)) := by
  rw [Sub.iff]
  unfold Stands
  rw [members_self (by omega) (by omega) h8, members_self (by omega) (by omega) hy8]
  simp
theorem members_few {dyn : Bool} {g : List GN} (h : GraphP dyn g.length (plainN g.length) g) (n : Nat) (hn : g.length ≤ 14 := by omega) : (membersP g n).length ≤ 10 := by
  unfold membersP
  split
  · simp
  · split
    · simp
    · split
      · rename_i h0 h1 h2
        have hx := nd_at (g := g) (z := (n : Int)) (by omega) (by omega)
        exact (h _ _ hx).few (by unfold plainN; omega)
      · simp
theorem beq_lt {a b : Int} (h : a < b) : (a == b) = false := by simp; omega
theorem beq_gt {a b : Int} (h : b < a) : (a == b) = false := by simp; omega
theorem beq_eq_ {a b : Int} (h : a = b) : (a == b) = true := by simp [h]
theorem eq_not {k : Int} {b : Bool} (h : k = -2 ↔ b = false) : ((k == -2) == b) = false := by
  cases b with
  | true =>
    have : k ≠ -2 := fun e => by have := h.1 e; cases this
    simp [this]
  | false =>
    rw [h.2 rfl]
    rfl
/-- What a pick says of the members. -/
theorem picks_law {g : List GN} {a b : Nat} {k : Int} (hc : checkP g = 0) (ha : a < g.length) (hb : b < g.length) (h8 : (nd g a).f0 ≠ 8) (h : PickP g a b k) :
    -2 ≤ k ∧ k < (membersP g b).length ∧ (k = -2 ↔ subB false g a b = false) ∧ (k = -1 → (nd g a).f0 = 9 ∧ Sub false g (at_ (nd g a).f4 0) b) ∧
    (∀ i : Nat, i < (membersP g b).length → ((i : Int) < k → subB false g a (rd (membersP g b) i).toNat = true → (nd g a).f0 = 9) ∧ ((i : Int) = k → subB false g a (rd (membersP g b) i).toNat = true)) := by
  have hof : ofP g [(a : Int), (b : Int)] = true := by
    unfold ofP outP
    simp [hc]
    omega
  unfold PickP at h
  rw [if_pos ⟨hof, h8⟩] at h
  simp only [Int.toNat_natCast] at h
  obtain ⟨hp, hk⟩ := h
  have hsub : subB false g a b = false ↔ ¬ Sub false g a b := by
    rw [← subB_iff]
    simp
  have hm := members_in hc (n := (b : Int)) (by omega) (by omega)
  have hone : ∀ i : Nat, ∀ hi : i < (membersP g b).length, (Sub false g a (rd (membersP g b) i).toNat ↔ (Does false (Sub false g) (nd g a) (nd g (membersP g b)[i]) ∨ ((nd g a).f0 = 9 ∧ Sub false g (at_ (nd g a).f4 0) (rd (membersP g b) i).toNat))) := fun i hi => by
    obtain ⟨h0, h1, hy8⟩ := hm _ (List.getElem_mem hi)
    rw [← members_at hi]
    have := sub_one (st := false) ha (show (membersP g b)[i].toNat < g.length by omega) h8 (by rw [Int.toNat_of_nonneg h0]; exact hy8)
    rw [Int.toNat_of_nonneg h0] at this
    exact this
  rcases hp with ⟨e, h1, h2⟩ | ⟨e, h1, h2, h3⟩ | ⟨j, hj, e, h1, h2⟩
  · subst e
    refine ⟨by omega, by omega, by rw [hsub]; exact hk, fun e => by omega, fun i hi => ⟨fun e => by omega, fun e => by omega⟩⟩
  · subst e
    refine ⟨by omega, by omega, by rw [hsub]; exact hk, fun _ => ⟨h2, h3⟩, fun i hi => ⟨fun e => by omega, fun e => by omega⟩⟩
  · subst e
    refine ⟨by omega, by omega, by rw [hsub]; exact hk, fun e => by omega, fun i hi => ⟨fun e hs => ?_, fun e => ?_⟩⟩
    · rw [subB_iff, hone i hi] at hs
      rcases hs with hs | hs
      · exact absurd hs (h2 i (by omega) _ (List.getElem?_eq_getElem hi))
      · exact hs.1
    · have : i = j := by omega
      subst this
      rw [subB_iff, hone i hi]
      exact .inl h1
def pc4.T4 : Bool × List (List Nat × List Nat) := (true, [([], []), ([0], [0]), ([], []), ([2], [2]), ([1, 3], [1, 3]), ([], []), ([5], [5]), ([], []), ([7], [7]), ([6, 8, 4], [6, 8]), ([4, 9, 0, 1, 2, 3, 4], [4]), ([9, 10, 0, 1, 2, 3, 4, 5, 6, 7, 8, 9, 10], [9])])
def pc4.B4 : List Nat := [0, 1, 0, 4, 15, 0, 32, 0, 128, 511, 1023, 2047]
theorem pc4.tab4 : rtab .any (opsOf Tryd.f4 4) = pc4.T4 := by kernel_rfl
theorem pc4.bits4 : waitsOk pc4.T4.2 pc4.B4 = true := by kernel_rfl
set_option maxHeartbeats 8000000 in
set_option maxRecDepth 100000 in
theorem picks_walk (A : Option Addr) (c : Nat) (l : List RW) (a0 a1 : Int) (w : World) (hK : Keys w) (hr : Kd.C kRW w A l.length l) (hc : l.length ≤ c) :
    Calls Tryd.prog 4 #[.slice A l.length c, .agg #[.int .i64 a0, .int .i64 a1]] w fun e w' => e = .returned (.bool true) ∧ Below w.heap.size w w' := by
  have hblk := heap_alloc_new w (.cells #[.int .i64 a0, .int .i64 a1] 31)
  have y0 : (w.alloc (.cells #[.int .i64 a0, .int .i64 a1] 31)).cell? ⟨w.heap.size, 0, none⟩ = some (.int .i64 a0) := (blk_cell hblk 0).trans rfl
  have y1 : (w.alloc (.cells #[.int .i64 a0, .int .i64 a1] 31)).cell? ⟨w.heap.size, 1, none⟩ = some (.int .i64 a1) := (blk_cell hblk 1).trans rfl
  have hbl := below_alloc (Below.refl w.heap.size w) (.cells #[.int .i64 a0, .int .i64 a1] 31)
  have HK := Aside0.mk (hK.below hbl)
  have HR := Aside0.mk (Kd.C_below hr hbl)
  have HC := Aside0.mk hc
  have HB0 := Aside0.mk hbl
  clear hK hr hc hbl hblk
  go_enter Tryd.func4, Tryd.ntmps4
  go_wp2_with (fail)
  obtain ⟨qb, hqb⟩ : ∃ q, q = w.heap.size := ⟨_, rfl⟩
  rw [← hqb] at y0 y1 ⊢
  clear hqb
  generalize w.alloc (.cells #[.int .i64 a0, .int .i64 a1] 31) = W1 at y0 y1 HK HR HB0 ⊢
  refine (made_yes A c l true W1 HR.out HC.out).mono ?_
  rintro e W2 ⟨v, g, rfl, ho, hb, hlen, hgp⟩
  have HB2 := Aside0.mk (HB0.out.trans (hb.mono HB0.out.size))
  have HK2 := Aside0.mk (HK.out.below hb)
  replace y0 := pw_cell_below hb y0
  replace y1 := pw_cell_below hb y1
  obtain ⟨A2, c2, rfl, hc2, hC2⟩ := Kd.R_reads ho
  have HC2 := Aside0.mk hC2
  have hn : g.length ≤ 14 := by omega
  have hc0 : checkP g = 0 := graph_check (plain_le _) (by omega) hgp
  have HC0 := Aside0.mk hc0
  have HFw := Aside0.mk (fun n : Nat => members_few hgp n)
  clear ho hb hC2 hlen hgp
  by_cases hg0 : g.length = 0
  · go_wp2_with (fail)
    refine (works_yes W2 HK2.out).mono ?_
    rintro e W3 ⟨rfl, hb⟩
    have HB3 := Aside0.mk (HB2.out.trans (hb.mono HB2.out.size))
    clear hb
    go_wp2_with (fail)
    first | go_ret | go_ret2
    exact ⟨rfl, HB3.out⟩
  · have hgp0 : 0 < g.length := by omega
    have hg0b : ((g.length : Int) == 0) = false := beq_gt (by omega)
    clear hg0
    obtain ⟨a, ht1, ha0, ha1⟩ := bring_ok a0 (g.length : Int) (by omega) (by omega)
    obtain ⟨b, ht2, hb0, hb1⟩ := bring_ok a1 (g.length : Int) (by omega) (by omega)
    have HT1 := Aside0.mk ht1
    have HT2 := Aside0.mk ht2
    obtain ⟨a, rfl⟩ := Int.eq_ofNat_of_zero_le ha0
    obtain ⟨b, rfl⟩ := Int.eq_ofNat_of_zero_le hb0
    have ha : a < g.length := by omega
    have hb : b < g.length := by omega
    clear ht1 ht2 ha0 ha1 hb0 hb1
    replace y0 := pw_cell_below (below_drew (Below.refl W2.heap.size W2)) y0
    replace y1 := pw_cell_below (below_drew (Below.refl W2.heap.size W2)) y1
    go_wp2_with (fail)
    refine start_ (n := 12) (S := fun w' => w'.cell? ⟨qb, 0, none⟩ = some (.int .i64 a0) ∧ w'.cell? ⟨qb, 1, none⟩ = some (.int .i64 a1)) (ds := []) #[false, false, false, false, false, false, false, false, false, false, false, false] (by kernel_rfl) rfl rfl ⟨y0, y1⟩ (fun hHeld => ?_)
    refine with_tabW pc4.tab4 pc4.bits4 (fun HT_ HW_ => ?_)
    refine pure_ (i := 0) (N := some 18) (v := ?_) (a' := ?_) #[true, false, false, false, false, false, false, false, false, false, false, false] rfl rfl (any_of HT_.out (by kernel_rfl)) (fun _ _ _ h => h) (Or.inl ⟨by rfl, ?_⟩) ?_ ?_
    rotate_left
    · intro w'
      go_simp
      with_reducible rfl
    rotate_left
    · simp only [Act.put, List.setIfInBounds_toArray, List.set_cons_zero, List.set_cons_succ, i64_w, i32_w]
      rfl
    refine pure_ (i := 2) (N := some 20) (v := ?_) (a' := ?_) #[true, false, true, false, false, false, false, false, false, false, false, false] rfl rfl (any_of HT_.out (by kernel_rfl)) (fun _ _ _ h => h) (Or.inl ⟨by rfl, ?_⟩) ?_ ?_
    rotate_left
    · intro w'
      go_simp
      with_reducible rfl
    rotate_left
    · simp only [Act.put, List.setIfInBounds_toArray, List.set_cons_zero, List.set_cons_succ, i64_w, i32_w]
      rfl
    refine pure_ (i := 3) (N := some 21) (v := ?_) (a' := ?_) #[true, false, true, true, false, false, false, false, false, false, false, false] rfl rfl (any_of HT_.out (by kernel_rfl)) (fun _ _ _ h => h) (Or.inl ⟨by rfl, ?_⟩) ?_ ?_
    rotate_left
    · intro w'
      go_simp
      with_reducible rfl
    rotate_left
    · simp only [Act.put, List.setIfInBounds_toArray, List.set_cons_zero, List.set_cons_succ, i64_w, i32_w]
      rfl
    refine pure_ (i := 5) (N := some 23) (v := ?_) (a' := ?_) #[true, false, true, true, false, true, false, false, false, false, false, false] rfl rfl (any_of HT_.out (by kernel_rfl)) (fun _ _ _ h => h) (Or.inl ⟨by rfl, ?_⟩) ?_ ?_
    rotate_left
    · intro w'
      go_simp
      with_reducible rfl
    rotate_left
    · simp only [Act.put, List.setIfInBounds_toArray, List.set_cons_zero, List.set_cons_succ, i64_w, i32_w]
      rfl
    refine pure_ (i := 7) (N := some 25) (v := ?_) (a' := ?_) #[true, false, true, true, false, true, false, true, false, false, false, false] rfl rfl (any_of HT_.out (by kernel_rfl)) (fun _ _ _ h => h) (Or.inl ⟨by rfl, ?_⟩) ?_ ?_
    rotate_left
    · intro w'
      go_simp
      with_reducible rfl
    rotate_left
    · simp only [Act.put, List.setIfInBounds_toArray, List.set_cons_zero, List.set_cons_succ, i64_w, i32_w]
      rfl
    refine pure_ (i := 8) (N := some 26) (v := ?_) (a' := ?_) #[true, false, true, true, false, true, false, true, true, false, false, false] rfl rfl (any_of HT_.out (by kernel_rfl)) (fun _ _ _ h => h) (Or.inl ⟨by rfl, ?_⟩) ?_ ?_
    rotate_left
    · intro w'
      go_simp
      with_reducible rfl
    rotate_left
    · simp only [Act.put, List.setIfInBounds_toArray, List.set_cons_zero, List.set_cons_succ, i64_w, i32_w]
      rfl
    refine take_ (i := 1) (N := some 19) (v := ?_) (a' := ?_) #[true, true, true, true, false, true, false, true, true, false, false, false] rfl rfl (take_ofW HT_.out HW_.out (by kernel_rfl)) (fun _ _ _ h => h) (Or.inl ⟨by rfl, ?_⟩) hHeld ?_ ?_
    rotate_left
    · rintro w' ⟨s0, s1⟩
      go_simp
      with_reducible rfl
    rotate_left
    · simp only [Act.put, List.setIfInBounds_toArray, List.set_cons_zero, List.set_cons_succ, i64_w, i32_w]
      rfl
    refine take_ (i := 6) (N := some 24) (v := ?_) (a' := ?_) #[true, true, true, true, false, true, true, true, true, false, false, false] rfl rfl (take_ofW HT_.out HW_.out (by kernel_rfl)) (fun _ _ _ h => h) (Or.inl ⟨by rfl, ?_⟩) hHeld ?_ ?_
    rotate_left
    · rintro w' ⟨s0, s1⟩
      go_simp
      with_reducible rfl
    rotate_left
    · simp only [Act.put, List.setIfInBounds_toArray, List.set_cons_zero, List.set_cons_succ, i64_w, i32_w]
      rfl
    refine one_ (i := 4) (N := some 22) #[true, true, true, true, true, true, true, true, true, false, false, false] rfl rfl (one_of HT_.out (by kernel_rfl)) (by decide) (fun K hK => ?_)
    refine goes_ Tryd.func16 (by kernel_rfl) rfl #[.int .i64 a0, .int .i64 (g.length : Int)] (by rfl) rfl rfl (by simp only [List.map_toArray, List.map_cons, List.map_nil]; rfl) ?_
    with_reducible refine (P.armillaryref00_Bring.calls a0 (g.length : Int) a _ HT1.out).mono ?_
    rintro e wA ⟨rfl, hdA⟩
    refine ⟨_, rfl, ?_⟩
    have hbA := hdA.below
    have z0 := pw_cell_below hbA y0
    have z1 := pw_cell_below hbA y1
    refine hK.out _ _ ⟨z0, z1⟩ (fun hHeld => ?_)
    clear hK K
    refine norm_ (a' := ?_) ?_ ?_
    rotate_left
    · show Act.put _ (some 22) _ = _
      simp only [Act.put, List.setIfInBounds_toArray, List.set_cons_zero, List.set_cons_succ, i64_w, i32_w]
      rfl
    refine one_ (i := 9) (N := some 27) #[true, true, true, true, true, true, true, true, true, true, false, false] rfl rfl (one_of HT_.out (by kernel_rfl)) (by decide) (fun K hK => ?_)
    refine goes_ Tryd.func16 (by kernel_rfl) rfl #[.int .i64 a1, .int .i64 (g.length : Int)] (by rfl) rfl rfl (by simp only [List.map_toArray, List.map_cons, List.map_nil]; rfl) ?_
    with_reducible refine (P.armillaryref00_Bring.calls a1 (g.length : Int) b _ HT2.out).mono ?_
    rintro e w9 ⟨rfl, hdB⟩
    refine ⟨_, rfl, ?_⟩
    have hbB := hdB.below
    have HB9 := Aside0.mk (show Below W2.heap.size W2 w9 from (below_drew (Below.refl W2.heap.size W2)).trans (hbA.trans (hbB.mono hbA.size)))
    refine hK.out _ _ ⟨pw_cell_below hbB z0, pw_cell_below hbB z1⟩ (fun hHeld => ?_)
    clear hK K
    refine norm_ (a' := ?_) ?_ ?_
    rotate_left
    · show Act.put _ (some 27) _ = _
      simp only [Act.put, List.setIfInBounds_toArray, List.set_cons_zero, List.set_cons_succ, i64_w, i32_w]
      rfl
    refine pure_ (i := 10) (N := some 6) (v := ?_) (a' := ?_) #[true, true, true, true, true, true, true, true, true, true, true, false] rfl rfl (any_of HT_.out (by kernel_rfl)) (fun _ _ _ h => h) (Or.inl ⟨by rfl, ?_⟩) ?_ ?_
    rotate_left
    · intro w'
      go_simp
      with_reducible rfl
    rotate_left
    · simp only [Act.put, List.setIfInBounds_toArray, List.set_cons_zero, List.set_cons_succ, i64_w, i32_w]
      rfl
    refine pure_ (i := 11) (N := some 7) (v := ?_) (a' := ?_) #[true, true, true, true, true, true, true, true, true, true, true, true] rfl rfl (any_of HT_.out (by kernel_rfl)) (fun _ _ _ h => h) (Or.inl ⟨by rfl, ?_⟩) ?_ ?_
    rotate_left
    · intro w'
      go_simp
      with_reducible rfl
    rotate_left
    · simp only [Act.put, List.setIfInBounds_toArray, List.set_cons_zero, List.set_cons_succ, i64_w, i32_w]
      rfl
    refine done_ (done_of HT_.out (by kernel_rfl)) ?_
    have HK3 := Aside0.mk (HK2.out.below HB9.out)
    have HC3 := Aside0.mk (Kd.C_below HC2.out HB9.out)
    have HB3 := Aside0.mk (HB2.out.trans (HB9.out.mono HB2.out.size))
    clear y0 y1 z0 z1 hbA hbB hdA hdB HB9
    go_wp2_with (fail)
    refine (pick_ok A2 c2 g a b _ HK3.out HC3.out hc2).mono ?_
    rintro e W4 ⟨k, rfl, hpk, hb4⟩
    have HPk := Aside0.mk hpk
    have HK4 := Aside0.mk (HK3.out.below hb4)
    have HC4 := Aside0.mk (Kd.C_below HC3.out hb4)
    have HB4 := Aside0.mk (HB3.out.trans (hb4.mono HB3.out.size))
    clear hpk hb4
    obtain ⟨ad, A3, c3, A4, c4, e4, hx0, hx1, hx2, hx3, hx4, hl3, hC3, hl4, hC4⟩ := P.at_T37 HC4.out (a : Int) (by omega) (by omega)
    cases e4
    rw [Int.toNat_natCast] at hx0 hx4
    obtain ⟨x, hx⟩ : ∃ x, x = nd g (a : Int) := ⟨_, rfl⟩
    rw [show P.rd_T37 g (a : Int) = x from hx.symm] at hx0 hx4 hl4 hC4
    have HX := Aside0.mk hx
    have HL4 := Aside0.mk hl4
    have HC44 := Aside0.mk hC4
    clear hx1 hx2 hx3 hl3 hC3 hl4 hC4 hx
    by_cases h8 : x.f0 = 8
    · have h8b : (x.f0 == 8) = true := by simp [h8]
      obtain rfl : k = -2 := by
        have := HPk.out
        unfold PickP at this
        rw [if_neg (by rw [← HX.out]; simp [h8])] at this
        exact this
      clear h8
      go_wp2_with (fail)
      refine (works_yes _ HK4.out).mono ?_
      rintro e W5 ⟨rfl, hb5⟩
      have HB5 := Aside0.mk (HB4.out.trans (hb5.mono HB4.out.size))
      clear hb5
      go_wp2_with (fail)
      first | go_ret | go_ret2
      exact ⟨rfl, HB5.out⟩
    · have h8b : (x.f0 == 8) = false := by simp [h8]
      obtain ⟨hk0, hk1, hk2, hk3, hk4⟩ := picks_law HC0.out ha hb (by rw [← HX.out]; exact h8) HPk.out
      have HK3' := Aside0.mk hk3
      have HK4' := Aside0.mk hk4
      have HIn := Aside0.mk (members_in HC0.out (n := (b : Int)) (by omega) (by omega))
      have HS := Aside0.mk (members_small HC0.out)
      clear hk3 hk4 h8
      go_wp2_with (fail)
      refine (members_yes (some ad) c2 g b _ HC4.out hc2 HS.out).mono ?_
      rintro e W5 ⟨v5, rfl, ho5, hb5⟩
      obtain ⟨A5, c5, rfl, hc5, hC5⟩ := Kd.R_reads ho5
      have HC5 := Aside0.mk hC5
      have HK5 := Aside0.mk (HK4.out.below hb5)
      have HG5 := Aside0.mk (Kd.C_below HC4.out hb5)
      have HC44' := Aside0.mk (Kd.C_below HC44.out hb5)
      replace hx0 := pw_cell_below hb5 hx0
      replace hx4 := pw_cell_below hb5 hx4
      have HB5 := Aside0.mk (HB4.out.trans (hb5.mono HB4.out.size))
      have hnm : (membersP g b).length ≤ 10 := HFw.out b
      clear ho5 hb5 hC5 HC44
      have HMay := Aside0.mk (show mayB false g a b = subB false g a b from mayB_nat HC0.out ha hb)
      have he4 := eq_not hk2
      have HK2' := Aside0.mk hk2
      clear hk2
      obtain ⟨m, hm⟩ : ∃ m, m = membersP g b := ⟨_, rfl⟩
      rw [← hm] at hk1 hnm HK4' HIn HC5 hc5 ⊢
      have HM := Aside0.mk hm
      have e1 : (k < -2) = False := eq_false (by omega)
      have e2 : ((m.length : Int) ≤ k) = False := eq_false (by omega)
      have h22 : (-2 : Int) ≤ k := by omega
      have HX4 := Aside0.mk (show x.f0 = 9 → 0 < x.f4.length ∧ 0 ≤ rd x.f4 0 ∧ rd x.f4 0 < (g.length : Int) from fun h9 => by
        have hmem : x ∈ g := by rw [HX.out]; exact nd_mem (by omega) (by omega)
        have hok := (check_ok HC0.out).2 x hmem
        have h1 := hok.var h9
        refine ⟨by omega, ?_⟩
        have h2 := hok.range (rd x.f4 0) (by
          unfold rd
          rw [List.getD_eq_getElem?_getD, List.getElem?_eq_getElem (by show 0 < x.f4.length; omega)]
          exact List.getElem_mem _)
        exact h2)
      clear hm
      go_wp2_with (fail)
      refine (may_yes (some ad) c2 g a b W5 HK5.out HG5.out hc2).mono ?_
      rintro e W6 ⟨rfl, hb6⟩
      rw [HMay.out]
      obtain ⟨s, hs⟩ : ∃ s, s = subB false g a b := ⟨_, rfl⟩
      rw [← hs] at he4 ⊢
      have HB6 := Aside0.mk (HB5.out.trans (hb6.mono HB5.out.size))
      have HK6 := Aside0.mk (HK5.out.below hb6)
      have HG6 := Aside0.mk (Kd.C_below HG5.out hb6)
      have HC6 := Aside0.mk (Kd.C_below HC5.out hb6)
      have HX6 := Aside0.mk (Kd.C_below HC44'.out hb6)
      replace hx0 := pw_cell_below hb6 hx0
      replace hx4 := pw_cell_below hb6 hx4
      clear hb6 hs HK5 HG5 HC5 HC44' HB5
      go_wp2_with (fail)
      clear e1 e2 he4 h8b hg0b h22 hc5 hc0
      go_loopw [10] (fun v10 wr => ∃ i : Nat, i ≤ m.length ∧ v10 = .int .i64 i ∧ Aside0 (Below W6.heap.size W6 wr)) (fun v10 _ => m.length + 1 - (intOf v10).toNat)
      case atStart => exact ⟨0, by omega, rfl, ⟨Below.refl _ _⟩⟩
      case round =>
        rename World => X
        obtain ⟨i, hi, rfl, HBx⟩ := hrel
        have HBX := Aside0.mk (HB6.out.trans (HBx.out.mono HB6.out.size))
        have HKX := Aside0.mk (HK6.out.below HBx.out)
        have HGX := Aside0.mk (Kd.C_below HG6.out HBx.out)
        have hx0x := pw_cell_below HBx.out hx0
        by_cases hlt : i < m.length
        · obtain ⟨ad5, e5, hy⟩ := Kd.at_int (Kd.C_below HC6.out HBx.out) (i : Int) (by omega) (by omega)
          cases e5
          rw [Int.toNat_natCast] at hy
          obtain ⟨y, hye⟩ : ∃ y, y = rd m (i : Int) := ⟨_, rfl⟩
          have hyin := HIn.out y (by
            rw [hye]
            unfold rd
            rw [Int.toNat_natCast, List.getD_eq_getElem?_getD, List.getElem?_eq_getElem hlt]
            exact List.getElem_mem _)
          have h4 := HK4'.out i hlt
          rw [← hye] at hy h4
          obtain ⟨y, rfl⟩ := Int.eq_ofNat_of_zero_le hyin.1
          have hyl : y < g.length := by omega
          rw [Int.toNat_natCast] at h4
          have HH4 := Aside0.mk h4
          have hwi : wrap64 ((i : Int) + 1) = ((i + 1 : Nat) : Int) := by unfold wrap64; omega
          have HMy := Aside0.mk (show mayB false g a y = subB false g a y from mayB_nat HC0.out ha hyl)
          clear h4 hyin hye

          go_wp2_with (fail)
          refine (may_yes (some ad) c2 g a y X HKX.out HGX.out hc2).mono ?_
          rintro e Y ⟨rfl, hb7⟩
          rw [HMy.out]
          have HBy := Aside0.mk (HBx.out.trans (hb7.mono HBx.out.size))
          have hx0y := pw_cell_below hb7 hx0x
          clear hb7 hx0x
          rcases Int.lt_trichotomy (i : Int) k with hik | hik | hik
          · have q3 : ((i : Int) == k) = false := beq_lt hik
            cases hd : subB false g a y with
            | false =>
              go_wp2_with (fail)
              go_roundw
              case rel => exact ⟨i + 1, by omega, by first | (rw [hwi]; done) | (rw [Int.natCast_add]; rfl), HBy⟩
              case measure => first | (rw [hwi]; simp only [intOf]; omega) | (simp only [intOf]; omega)
            | true =>
              have h9 := HH4.out.1 hik hd
              rw [← HX.out] at h9
              have h9b : (x.f0 == 9) = true := by simp [h9]
              have h9c : (x.f0 != 9) = false := by simp [h9]
              clear h9
              go_wp2_with (fail)
              go_roundw
              case rel => exact ⟨i + 1, by omega, by first | (rw [hwi]; done) | (rw [Int.natCast_add]; rfl), HBy⟩
              case measure => first | (rw [hwi]; simp only [intOf]; omega) | (simp only [intOf]; omega)
          · have q1 : k ≤ (i : Int) := Int.le_of_eq hik.symm
            have q3 : ((i : Int) == k) = true := beq_eq_ hik
            have hd := HH4.out.2 hik
            rw [hd]
            clear hd hik
            go_wp2_with (fail)
            go_roundw
            case rel => exact ⟨i + 1, by omega, by first | (rw [hwi]; done) | (rw [Int.natCast_add]; rfl), HBy⟩
            case measure => first | (rw [hwi]; simp only [intOf]; omega) | (simp only [intOf]; omega)
          · have q3 : ((i : Int) == k) = false := beq_gt hik
            obtain ⟨d, hd⟩ : ∃ d, d = subB false g a y := ⟨_, rfl⟩
            rw [← hd]
            clear hd
            go_wp2_with (fail)
            go_roundw
            case rel => exact ⟨i + 1, by omega, by first | (rw [hwi]; done) | (rw [Int.natCast_add]; rfl), HBy⟩
            case measure => first | (rw [hwi]; simp only [intOf]; omega) | (simp only [intOf]; omega)
        · obtain rfl : i = m.length := by omega
          have hx4x := pw_cell_below HBx.out hx4
          by_cases hkm : k = -1
          · obtain ⟨h9, hsb⟩ := HK3'.out hkm
            rw [← HX.out] at h9 hsb
            obtain ⟨h0, h1, h2⟩ := HX4.out h9
            have h9b : (x.f0 == 9) = true := by simp [h9]
            have hkb : (k != -1) = false := by simp [hkm]
            obtain ⟨ad4, e4, hz⟩ := Kd.at_int (Kd.C_below HX6.out HBx.out) (0 : Int) (by decide) (by omega)
            cases e4
            rw [Int.toNat_zero, add_zero_] at hz
            obtain ⟨z, hze⟩ : ∃ z, z = rd x.f4 0 := ⟨_, rfl⟩
            rw [← hze] at hz h1 h2
            obtain ⟨z, rfl⟩ := Int.eq_ofNat_of_zero_le h1
            have hat : at_ x.f4 0 = z := by
              unfold at_
              show (rd x.f4 0).toNat = z
              rw [← hze]
              rfl
            rw [hat] at hsb
            have HMz := Aside0.mk (show mayB false g z b = true by rw [mayB_nat HC0.out (by omega) hb]; exact subB_true hsb)
            clear hkm h9 hsb hat hze h1
            go_wp2_with (fail)
            refine (may_yes (some ad) c2 g z b X HKX.out HGX.out hc2).mono ?_
            rintro e Y ⟨rfl, hb7⟩
            rw [HMz.out]
            have HBY := Aside0.mk (HBX.out.trans (hb7.mono HBX.out.size))
            have HKY := Aside0.mk (HKX.out.below hb7)
            clear hb7
            go_wp2_with (fail)
            refine (works_yes _ HKY.out).mono ?_
            rintro e Z ⟨rfl, hb8⟩
            have HBZ := Aside0.mk (HBY.out.trans (hb8.mono HBY.out.size))
            clear hb8
            go_wp2_with (fail)
            first | go_ret | go_ret2
            exact ⟨rfl, HBZ.out⟩
          · have hkb : (k != -1) = true := by simp [hkm]
            clear hkm
            go_wp2_with (fail)
            refine (works_yes _ HKX.out).mono ?_
            rintro e Z ⟨rfl, hb8⟩
            have HBZ := Aside0.mk (HBX.out.trans (hb8.mono HBX.out.size))
            clear hb8
            go_wp2_with (fail)
            first | go_ret | go_ret2
            exact ⟨rfl, HBZ.out⟩
end Go.Proofs.YtgllcpimkjlklaaDoor.T1

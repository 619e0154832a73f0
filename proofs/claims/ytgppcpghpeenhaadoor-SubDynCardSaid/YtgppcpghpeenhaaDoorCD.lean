/- slices.Sort, of twelve numbers at most. -/
/- slices.Compact: by the shelf's contract, laid by hand at this program. -/
import Derived.Test.YtgppcpghpeenhaaDoorProg
import Derived.Test.YtgppcpghpeenhaaDoorWWords
import Derived.Test.YtgppcpghpeenhaaDoorWLast
import Derived.Test.YtgppcpghpeenhaaDoorCB
import Derived.Shelf.Slices.CompactI
import Derived.Lib.OwnBridge
import Derived.Sort.OwnSorted
namespace Go.Proofs.YtgppcpghpeenhaaDoor.CC
open Go.RowKit Go.Proofs.YtgppcpghpeenhaaDoorW.PrintWords Go.Proofs.YtgppcpghpeenhaaDoorW.PrintLast Go.Proofs.YtgppcpghpeenhaaDoorW.PrintMore Go.Proofs.YtgppcpghpeenhaaDoor N1 N2 N3 N4 N5 CA CB
set_option linter.unusedVariables false
set_option linter.unusedSimpArgs false
/-- What sorting of a list of one's own answers. -/
def SortP (P0 : Nat → Prop) (v : Value) (l : List Int) (w0 w : World) (e : Ending) (w' : World) : Prop :=
  e = .returned (.tuple #[]) ∧ ∃ ys, ys.Perm l ∧ ys.Pairwise (· ≤ ·) ∧ Kd.R (Kd.int .i64) 3 w' w0.heap.size (fun k_ => (P0 k_ ∨ w.heap.size ≤ k_)) v ys ∧ Below w0.heap.size w0 w' ∧ Kept w w' (fun k_ => P0 k_)
set_option maxHeartbeats 4000000 in
set_option maxRecDepth 100000 in
theorem len64_small (x : Int) (h0 : 0 ≤ x) (h1 : x ≤ 12) (w : World) :
    Calls Tryd.prog 75 #[.int .u64 x] w fun e w' => ∃ r : Int, e = .returned (.int .i64 r) ∧ Drawn0 w w' := by
  have e1 : decide (x ≥ 4294967296) = false := by simp; omega
  have e2 : decide (x ≥ 65536) = false := by simp; omega
  have e3 : decide (x ≥ 256) = false := by simp; omega
  go_enter Tryd.func75, Tryd.ntmps75
  go_wp2_with (fail)
  go_ret
  exact ⟨_, rfl, Drawn0.refl _⟩
set_option maxHeartbeats 4000000 in
set_option maxRecDepth 100000 in
theorem len_small (x : Int) (h0 : 0 ≤ x) (h1 : x ≤ 12) (w : World) :
    Calls Tryd.prog 57 #[.int .u64 x] w fun e w' => ∃ r : Int, e = .returned (.int .i64 r) ∧ Drawn0 w w' := by
  go_enter Tryd.func57, Tryd.ntmps57
  go_wp2_with (fail)
  refine (len64_small x h0 h1 _).mono ?_
  rintro e w7 ⟨r, rfl, ⟨m, rfl⟩⟩
  go_wp2_with (fail)
  go_ret
  exact ⟨r, rfl, by repeat (first | exact Drawn0.refl _ | apply Drawn0.step)⟩
set_option maxHeartbeats 4000000 in
set_option maxRecDepth 100000 in
theorem pdq_small {P0 : Nat → Prop} {v : Value} {l : List Int} {lim : Int} {w0 w : World} (hl : l.length ≤ 12) (hB : Below w0.heap.size w0 w) (ho : Kd.R (Kd.int .i64) 3 w w0.heap.size P0 v l) :
    Calls Tryd.prog 56 #[v, .int .i64 0, .int .i64 (l.length : Int), .int .i64 lim] w (SortP P0 v l w0 w) := by
  have HB := Aside0.mk hB
  have HO := Aside0.mk ho
  have HL := Aside0.mk hl
  obtain ⟨k, ys, hf, hp, hs⟩ := sort_f (xs := l) (by omega)
  have HF := Aside0.mk hf
  have HP := Aside0.mk hp
  have HS := Aside0.mk hs
  obtain ⟨A, c, rfl⟩ := Kd.R_slice ho
  clear hB ho hl hf hp hs
  obtain ⟨n, hn⟩ : ∃ n, n = l.length := ⟨_, rfl⟩
  have HN := Aside0.mk hn
  rw [← hn]
  have e2 : (wrap64 (n : Int) ≤ 12) = True := eq_true (by have := HL.out; unfold wrap64; omega)
  clear hn
  go_enter Tryd.func56, Tryd.ntmps56
  go_wp2_with (fail)
  go_loopw [1, 2, 3, 8, 9, 10] (fun v1 v2 v3 v8 v9 v10 wr => v1 = .int .i64 0 ∧ v2 = .int .i64 n ∧ ∃ m, wr = w.drewN m) (fun _ _ _ _ _ _ _ => 0)
  case atStart => exact ⟨rfl, rfl, 0, rfl⟩
  case round =>
    obtain ⟨rfl, rfl, m, rfl⟩ := hrel
    have HB2 := Aside0.mk (pw_below_drewN HB.out m)
    have HO2 := Aside0.mk (Kd.R_drewN HO.out m)
    have HK2 := Aside0.mk (Kept.drewN (Kept.refl w (fun k_ => P0 k_)) m)
    clear HB HO
    rw [HN.out]
    rw [HN.out] at e2
    go_wp2_with (fail)
    refine (slices_insertionSortOrdered_int.calls k P0 (.slice A l.length c) l 0 (l.length : Int) ys w0 _ HB2.out HO2.out HF.out).mono ?_
    rintro e w7 ⟨rfl, hy0, hb, hkp⟩
    go_wp2_with (fail)
    first | go_end0 | ((try simp only [Exit.inBlock, Exit.then]); refine bodyPost_ret (results_none rfl _ _ _) rfl ?_)
    refine ⟨rfl, ys, HP.out, HS.out, hy0, hb, ?_⟩
    exact Kept.then_ HK2.out hkp (fun _ h => .inl h)
set_option maxHeartbeats 4000000 in
set_option maxRecDepth 100000 in
theorem sort_small {P0 : Nat → Prop} {v : Value} {l : List Int} {w0 w : World} (hl : l.length ≤ 12) (hB : Below w0.heap.size w0 w) (ho : Kd.R (Kd.int .i64) 3 w w0.heap.size P0 v l) :
    Calls Tryd.prog 33 #[v] w (SortP P0 v l w0 w) := by
  have HB := Aside0.mk hB
  have HO := Aside0.mk ho
  have HL := Aside0.mk hl
  obtain ⟨A, c, rfl⟩ := Kd.R_slice ho
  clear hB ho hl
  go_enter Tryd.func33, Tryd.ntmps33
  go_wp2_with (fail)
  have hu : IntKind.u64.wrap (l.length : Int) = (l.length : Int) := by have := HL.out; simp [IntKind.wrap, IntKind.bits]; omega
  rw [hu]
  refine (len_small (l.length : Int) (by omega) (by have := HL.out; omega) _).mono ?_
  rintro e w7 ⟨r, rfl, ⟨m, rfl⟩⟩
  go_wp2_with (fail)
  refine (pdq_small (w0 := w0) (P0 := P0) (l := l) HL.out (pw_below_drewN HB.out m) (Kd.R_drewN HO.out m)).mono ?_
  rintro e w7 ⟨rfl, ys, hp, hs, hy0, hb, hkp⟩
  go_wp2_with (fail)
  first | go_end0 | ((try simp only [Exit.inBlock, Exit.then]); refine bodyPost_ret (results_none rfl _ _ _) rfl ?_)
  refine ⟨rfl, ys, hp, hs, hy0, hb, ?_⟩
  exact Kept.then_ (Kept.drewN (Kept.refl w (fun k_ => P0 k_)) _) hkp (fun _ h => .inl h)
end Go.Proofs.YtgppcpghpeenhaaDoor.CC
namespace Go.Proofs.YtgppcpghpeenhaaDoor.CD
open Go.RowKit Go.Shelf Go.Proofs.YtgppcpghpeenhaaDoorW.PrintWords Go.Proofs.YtgppcpghpeenhaaDoorW.PrintLast Go.Proofs.YtgppcpghpeenhaaDoorW.PrintMore Go.Proofs.YtgppcpghpeenhaaDoor N1 N2 N3 N4 N5 CA CB CC
set_option linter.unusedVariables false
set_option linter.unusedSimpArgs false
def renC : Go.Shelf.Ren := ⟨fun | 20 => 34 | n => n, fun | 0 => 0 | 3 => 3 | 4 => 4 | 22 => 31 | n => n, fun n => n⟩
theorem laysC : Lays2.n20 Tryd.prog renC where
  mixed := by kernel_rfl
  f20 := Tryd.func34.trans (congrArg some (by kernel_rfl))
  t0 := Tryd.underlying0
  a0 := Tryd.isAgg0
  z0 := Tryd.sizeOf0
  v0 := Tryd.zeroValue0
  t3 := Tryd.underlying3
  a3 := Tryd.isAgg3
  z3 := Tryd.sizeOf3
  v3 := Tryd.zeroValue3
  t4 := Tryd.underlying4
  a4 := Tryd.isAgg4
  z4 := Tryd.sizeOf4
  v4 := Tryd.zeroValue4
  t22 := Tryd.underlying31
  a22 := Tryd.isAgg31
  z22 := Tryd.sizeOf31
  v22 := Tryd.zeroValue31
  i3 := by kernel_rfl
theorem grown_put {w : World} {g q : Nat} (d : Array Int) : w.grownBy (Sort.putRow (Value.int .i64) (Sort.ahead w q) g 0 d) (some g) := by
  refine ⟨rfl, rfl, rfl, by simp, fun k hk hne => ?_⟩
  have hk' : g ≠ k := fun e => hne (by rw [e])
  simp [Sort.putRow, Sort.mapBlock, Sort.ahead, Array.getElem?_modify, hk']
theorem compact_calls {P0 : Nat → Prop} {v : Value} {l : List Int} {w0 w : World} (hl : l.length ≤ 1000000000) (hB : Below w0.heap.size w0 w) (ho : Kd.R (Kd.int .i64) 3 w w0.heap.size P0 v l) :
    Calls Tryd.prog 34 #[v] w fun e w' => ∃ v', e = .returned v' ∧ Kd.R (Kd.int .i64) 3 w' w0.heap.size (fun k_ => (P0 k_ ∨ w.heap.size ≤ k_)) v' (Lib.compact l) ∧ Below w0.heap.size w0 w' ∧ Kept w w' (fun k_ => P0 k_) := by
  by_cases h0 : l = []
  · subst h0
    obtain ⟨A, c, rfl⟩ := Kd.R_slice ho
    refine (Any.slices_Compact_int_empty laysC A c w).mono ?_
    rintro e w' ⟨rfl, rfl⟩
    refine ⟨_, rfl, ?_, hB, Kept.refl _ _⟩
    exact Kd.R_mono ho fun _ h => .inl h
  · have hp : 0 < l.length := List.length_pos_iff.2 h0
    obtain ⟨g, cap, rfl, hg, hgs, _⟩ := Kd.R_form ho hp
    have hown := Kd.own_of_R ho
    obtain ⟨g', cap', e1, _, _, hcap, _, _, hH⟩ := Lib.holds_of_ownsRow (zs := l) hown (by simp)
    injection e1 with e2 e3 e4
    injection e2 with e2
    injection e2 with e2
    subst e2 e4
    refine (Any.slices_Compact_int laysC g 0 cap l w hH (by omega) hcap).mono ?_
    rintro e w' ⟨rfl, q, rfl⟩
    have hle := Lib.compact_length_le l
    have hc := Lib.ownsRow_putRow (q := q) (k := (Lib.compact l).length) (ys := Lib.compact l ++ List.replicate (l.length - (Lib.compact l).length) 0) hown (by simp; omega) hle
    rw [List.take_left] at hc
    refine ⟨_, rfl, Kd.R_of_own hc (fun k hk => .inl (ho.1 k hk)), Lib.below_putRow hB hg, ?_⟩
    exact Kept.of_grown (grown_put _) (Kept.refl w _) (fun k hk => .inl (ho.1 k hk))
theorem arr_get (l : List Int) (j : Nat) (h : j < l.length) : (l.toArray)[j]! = l[j] := by
  simp [h]
theorem compact_has (l : List Int) : ∀ j, j < l.length → ∃ i, i ≤ j ∧ Lib.keeps l.toArray i = true ∧ (l.toArray)[i]! = (l.toArray)[j]! := by
  intro j
  induction j with
  | zero => exact fun _ => ⟨0, Nat.le_refl _, by simp [Lib.keeps], rfl⟩
  | succ j ih =>
    intro h
    by_cases he : (l.toArray)[j + 1]! = (l.toArray)[j]!
    · obtain ⟨i, h1, h2, h3⟩ := ih (by omega)
      exact ⟨i, by omega, h2, by rw [h3, he]⟩
    · exact ⟨j + 1, Nat.le_refl _, by
        unfold Lib.keeps
        rw [decide_eq_true_eq]
        exact .inr he, rfl⟩
theorem compact_mem (l : List Int) (x : Int) : x ∈ Lib.compact l ↔ x ∈ l := by
  unfold Lib.compact Lib.compactUpTo
  rw [List.mem_map]
  constructor
  · rintro ⟨j, hj, rfl⟩
    have h1 := List.mem_range.1 (List.mem_filter.1 hj).1
    rw [arr_get l j h1]
    exact List.getElem_mem h1
  · intro hx
    obtain ⟨j, hj, rfl⟩ := List.getElem_of_mem hx
    obtain ⟨i, h1, h2, h3⟩ := compact_has l j hj
    refine ⟨i, List.mem_filter.2 ⟨List.mem_range.2 (by omega), h2⟩, ?_⟩
    rw [h3, arr_get l j hj]
theorem compact_srt (l : List Int) (h : l.Pairwise (· ≤ ·)) : Srt (Lib.compact l) := by
  have hle : ∀ i j, i ≤ j → (hj : j < l.length) → (l.toArray)[i]! ≤ (l.toArray)[j]! := fun i j hij hj => by
    rw [arr_get l j hj, arr_get l i (by omega)]
    rcases Nat.lt_or_ge i j with h1 | h1
    · exact List.pairwise_iff_getElem.1 h i j (by omega) hj h1
    · obtain rfl : i = j := by omega
      exact Int.le_refl _
  unfold Srt Lib.compact Lib.compactUpTo
  rw [List.pairwise_map]
  refine List.Pairwise.imp_of_mem ?_ (List.Pairwise.filter _ (List.pairwise_lt_range (n := l.length)))
  intro i j hi hj hij
  have h1 := List.mem_range.1 (List.mem_filter.1 hj).1
  have h2 := (List.mem_filter.1 hj).2
  unfold Lib.keeps at h2
  rw [decide_eq_true_eq] at h2
  have h3 : (l.toArray)[j]! ≠ (l.toArray)[j - 1]! := h2.resolve_left (by omega)
  have h4 := hle i (j - 1) (by omega) (by omega)
  have h5 := hle (j - 1) j (by omega) h1
  omega
theorem compact_len (l : List Int) : (Lib.compact l).length ≤ l.length := Lib.compact_length_le l
end Go.Proofs.YtgppcpghpeenhaaDoor.CD

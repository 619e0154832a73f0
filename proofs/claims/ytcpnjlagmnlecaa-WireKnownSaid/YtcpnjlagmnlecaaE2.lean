/- WireKnown walked. -/
import Derived.Test.YtcpnjlagmnlecaaProg
import Derived.Below
import Derived.Deep.Draws
import Derived.Deep.AppendLies
import Derived.Maps.AppendAt
import Derived.OwnWalk
import Derived.Laws.BytesArg
import Derived.Laws.MakeOwn
import Derived.Laws.OwnMore
import Derived.Deep.OwnRows
import Derived.Tactics
import Derived.Lib.ConvBytes
import Derived.Laws.Slices
import Derived.WalkKit
import Derived.KernelRfl
import Derived.RowKit3
import Derived.Deep.LoopGhost
import Derived.Deep.QuietTactic
import Derived.BigQuiet
import Derived.WideLaws
import Derived.Deep.DeepCutAuto
import Derived.Deep.CutBlock
import Derived.Deep.RegionHeld3
import Derived.Laws.Rows
import Derived.Lib.AppendStr
import Derived.ArgAppend
import Derived.Laws.IdiomCopy
import Derived.OrdersHeld
import Derived.Laws.BitsLemmas
import Derived.RowKit
import Derived.WalkSpells
import Derived.Laws.CopyOwn
import Derived.Test.YtcpnjlagmnlecaaWWords
import Derived.Test.YtcpnjlagmnlecaaWLast
import Derived.Test.YtcpnjlagmnlecaaWMore
import Derived.Test.YtcpnjlagmnlecaaE1b
import Derived.Test.YtcpnjlagmnlecaaB6
import Derived.Test.YtcpnjlagmnlecaaB4
import Derived.Test.YtcpnjlagmnlecaaC3
import Derived.Test.YtcpnjlagmnlecaaWTab
import Derived.Test.YtcpnjlagmnlecaaWGuard
namespace Go.Proofs.Ytcpnjlagmnlecaa.E2
open Go.RowKit Go.Proofs.YtcpnjlagmnlecaaW.PrintWords Go.Proofs.YtcpnjlagmnlecaaW.PrintLast Go.Proofs.YtcpnjlagmnlecaaW.PrintMore Go.Proofs.Ytcpnjlagmnlecaa Go.Proofs.Ytcpnjlagmnlecaa.A2 Go.Proofs.Ytcpnjlagmnlecaa.A3 Go.Proofs.Ytcpnjlagmnlecaa.A4 Go.Proofs.Ytcpnjlagmnlecaa.A5 Go.Proofs.Ytcpnjlagmnlecaa.A6 Go.Proofs.Ytcpnjlagmnlecaa.A8 Go.Proofs.Ytcpnjlagmnlecaa.A9 Go.Proofs.Ytcpnjlagmnlecaa.B2 Go.Proofs.Ytcpnjlagmnlecaa.B4 Go.Proofs.Ytcpnjlagmnlecaa.C3 Go.Proofs.Ytcpnjlagmnlecaa.E1 Go.Proofs.Ytcpnjlagmnlecaa.E1b
set_option linter.unusedVariables false
set_option linter.unusedSimpArgs false
def wkn.T5 : Bool × List (List Nat × List Nat) := (true, [([], []), ([], []), ([], []), ([1, 2], [1, 2]), ([3], [3]), ([], []), ([], []), ([5, 6], [5, 6]), ([7], [7]), ([8], [8]), ([4, 9], [4, 9]), ([0, 10], [0, 10]), ([11], [11])])
def wkn.B5 : List Nat := [0, 0, 0, 6, 14, 0, 0, 96, 224, 480, 1022, 2047, 4095]
theorem wkn.tab5 : rtab .any (opsOf Try.f9 5) = wkn.T5 := by kernel_rfl
theorem wkn.bits5 : waitsOk wkn.T5.2 wkn.B5 = true := by kernel_rfl
theorem alloc_size (w : World) (o : Obj) : (w.alloc o).heap.size = w.heap.size + 1 := World.size_alloc w o
theorem writes1 (g1 g2 : Nat) (ev : Int) (w9 : World) (h1 : Kd.C (Kd.int .u8) w9 (some ⟨g1, 0, none⟩) ([9] : List Int).length [9]) (h2 : Kd.C (Kd.int .i64) w9 (some ⟨g2, 0, none⟩) ([1, ev, 2] : List Int).length [1, ev, 2]) :
    Calls Try.prog 5 #[.slice (some ⟨g1, 0, none⟩) 1 1, .agg #[.int .i64 ev, .string ⟨#[]⟩, .slice (some ⟨g2, 0, none⟩) 3 3, .slice none 0 0]] w9 fun e w' => e = .returned (.bool true) ∧ Below w9.heap.size w9 w' :=
  B6.writes_walk (some ⟨g1, 0, none⟩) 1 [9] ev ⟨#[]⟩ (some ⟨g2, 0, none⟩) 3 [1, ev, 2] none 0 [] w9 h1 (by decide) h2 (by simp) (Kd.C_nil _ _) (by decide)
def endsL : List Int := [-9223372036854775808, -1, 0, 1, 127, 128, 16383, 16384, 9007199254740991, 9007199254740992, 9223372036854775807]
set_option maxHeartbeats 8000000 in
set_option maxRecDepth 100000 in
theorem known_walk (w : World) :
    Calls Try.prog 9 #[] w fun e w' => e = .returned (.bool true) ∧ Below w.heap.size w w' := by
  go_enter Try.func9, Try.ntmps9
  go_wp2_with (fail)
  have hE := C_lit .i64 w endsL _ 3 (0, 0) rfl 11 rfl (by decide)
  have hB := below_alloc (Below.refl w.heap.size w) (.cells (endsL.map (Value.int .i64)).toArray 3)
  obtain ⟨g0, hg0⟩ : ∃ g0, g0 = w.heap.size := ⟨_, rfl⟩
  rw [← hg0] at hE
  have hE1 := Aside0.mk hE
  have hB1 := Aside0.mk hB
  clear hE hB
  have HGe := Aside0.mk hg0
  try rw [← hg0]
  clear hg0
  go_loopw [2] (fun v2 wr => ∃ i : Nat, i ≤ 11 ∧ v2 = .int .i64 i ∧ Aside0 (Kd.C (Kd.int .i64) wr (some ⟨g0, 0, none⟩) 11 endsL) ∧ Aside0 (Below w.heap.size w wr)) (fun v2 _ => 12 - (intOf v2).toNat)
  case atStart => exact ⟨0, by omega, rfl, hE1, hB1⟩
  case round =>
    obtain ⟨i, hi11, rfl, HEr, HBr⟩ := hrel
    by_cases hi : i < 11
    · obtain ⟨ad, ea, hcell⟩ := Kd.at_int HEr.out (i : Int) (by omega) (by omega)
      cases ea
      rw [Int.toNat_natCast, add_plain] at hcell
      obtain ⟨ev, hev⟩ : ∃ ev, ev = rd endsL (i : Int) := ⟨_, rfl⟩
      rw [← hev] at hcell
      clear hev
      go_wp2_with (fail)
      refine start_ (n := 13) (S := fun w' => w'.cell? ⟨g0, i, none⟩ = some (.int .i64 ev)) (ds := []) #[false, false, false, false, false, false, false, false, false, false, false, false, false] (by kernel_rfl) rfl rfl (hcell) (fun hHeld => ?_)
      refine with_tabW wkn.tab5 wkn.bits5 (fun HT_ HW_ => ?_)
      refine pure_ (i := 1) (N := some 36) (v := ?_) (a' := ?_) #[false, true, false, false, false, false, false, false, false, false, false, false, false] rfl rfl (any_of HT_.out (by kernel_rfl)) (fun _ _ _ h => h) (Or.inl ⟨by rfl, ?_⟩) ?_ ?_
      rotate_left
      · intro w'
        go_simp
        with_reducible rfl
      rotate_left
      · simp only [Act.put, List.setIfInBounds_toArray, List.set_cons_zero, List.set_cons_succ, i64_w, i32_w]
        rfl
      refine pure_ (i := 2) (N := some 37) (v := ?_) (a' := ?_) #[false, true, true, false, false, false, false, false, false, false, false, false, false] rfl rfl (any_of HT_.out (by kernel_rfl)) (fun _ _ _ h => h) (Or.inl ⟨by rfl, ?_⟩) ?_ ?_
      rotate_left
      · intro w'
        go_simp
        with_reducible rfl
      rotate_left
      · simp only [Act.put, List.setIfInBounds_toArray, List.set_cons_zero, List.set_cons_succ, i64_w, i32_w]
        rfl
      refine pure_ (i := 3) (N := some 38) (v := ?_) (a' := ?_) #[false, true, true, true, false, false, false, false, false, false, false, false, false] rfl rfl (any_of HT_.out (by kernel_rfl)) (fun _ _ _ h => h) (Or.inl ⟨by rfl, ?_⟩) ?_ ?_
      rotate_left
      · intro w'
        go_simp
        with_reducible rfl
      rotate_left
      · simp only [Act.put, List.setIfInBounds_toArray, List.set_cons_zero, List.set_cons_succ, i64_w, i32_w]
        rfl
      refine pure_ (i := 5) (N := some 40) (v := ?_) (a' := ?_) #[false, true, true, true, false, true, false, false, false, false, false, false, false] rfl rfl (any_of HT_.out (by kernel_rfl)) (fun _ _ _ h => h) (Or.inl ⟨by rfl, ?_⟩) ?_ ?_
      rotate_left
      · intro w'
        go_simp
        with_reducible rfl
      rotate_left
      · simp only [Act.put, List.setIfInBounds_toArray, List.set_cons_zero, List.set_cons_succ, i64_w, i32_w]
        rfl
      refine pure_ (i := 6) (N := some 41) (v := ?_) (a' := ?_) #[false, true, true, true, false, true, true, false, false, false, false, false, false] rfl rfl (any_of HT_.out (by kernel_rfl)) (fun _ _ _ h => h) (Or.inl ⟨by rfl, ?_⟩) ?_ ?_
      rotate_left
      · intro w'
        go_simp
        with_reducible rfl
      rotate_left
      · simp only [Act.put, List.setIfInBounds_toArray, List.set_cons_zero, List.set_cons_succ, i64_w, i32_w]
        rfl
      refine pure_ (i := 7) (N := some 42) (v := ?_) (a' := ?_) #[false, true, true, true, false, true, true, true, false, false, false, false, false] rfl rfl (any_of HT_.out (by kernel_rfl)) (fun _ _ _ h => h) (Or.inl ⟨by rfl, ?_⟩) ?_ ?_
      rotate_left
      · intro w'
        go_simp
        with_reducible rfl
      rotate_left
      · simp only [Act.put, List.setIfInBounds_toArray, List.set_cons_zero, List.set_cons_succ, i64_w, i32_w]
        rfl
      refine take_ (i := 4) (N := some 39) (v := ?_) (a' := ?_) #[false, true, true, true, true, true, true, true, false, false, false, false, false] rfl rfl (take_ofW HT_.out HW_.out (by kernel_rfl)) (fun _ _ _ h => h) (Or.inl ⟨by rfl, ?_⟩) hHeld ?_ ?_
      rotate_left
      · intro w' s0
        go_simp
        with_reducible rfl
      rotate_left
      · simp only [Act.put, List.setIfInBounds_toArray, List.set_cons_zero, List.set_cons_succ, i64_w, i32_w]
        rfl
      refine take_ (i := 8) (N := some 43) (v := ?_) (a' := ?_) #[false, true, true, true, true, true, true, true, true, false, false, false, false] rfl rfl (take_ofW HT_.out HW_.out (by kernel_rfl)) (fun _ _ _ h => h) (Or.inl ⟨by rfl, ?_⟩) hHeld ?_ ?_
      rotate_left
      · intro w' s0
        go_simp
        with_reducible rfl
      rotate_left
      · simp only [Act.put, List.setIfInBounds_toArray, List.set_cons_zero, List.set_cons_succ, i64_w, i32_w]
        rfl
      refine join_ (σ := Nat × Nat) 2 #[true, true, true, true, true, true, true, true, true, true, true, false, false] (fun s : Nat × Nat => [(35, .slice (some ⟨s.1, 0, none⟩) 1 1), (44, .slice (some ⟨s.2, 0, none⟩) 3 3), (45, .agg #[.int .i64 ev, .string ⟨#[]⟩, .slice (some ⟨s.2, 0, none⟩) 3 3, .slice none 0 0])]) (fun s w9 => Kd.C (Kd.int .u8) w9 (some ⟨s.1, 0, none⟩) 1 [9] ∧ Kd.C (Kd.int .i64) w9 (some ⟨s.2, 0, none⟩) 3 [1, ev, 2] ∧ Below wr.heap.size wr w9 ∧ w9.cell? ⟨g0, i, none⟩ = some (.int .i64 ev)) ?_ ?_
      rotate_left
      · intro hCont
        refine two_ (i := 0) (j := 9) (Ni := some 35) (Nj := some 44) #[true, true, true, true, true, true, true, true, true, false, false, false, false] #[false, true, true, true, true, true, true, true, true, true, false, false, false] rfl rfl rfl rfl (two_of HT_.out (by kernel_rfl)) (by decide) (by decide) (fun K hK => ?_) (fun K hK => ?_)
        · skip
          refine value_ (w1 := ?_) (v := ?_) (by rfl) rfl ?_ ?_
          rotate_left 2
          · go_simp
            constructor
            · rfl
            · rfl
          refine hK.out _ _ ((pw_cell_below (below_alloc (Below.refl _ _) _) hcell)) (fun hHeld => ?_)
          clear hK K
          refine norm_ (a' := ?_) ?_ ?_
          rotate_left
          · show Act.put _ (some 35) _ = _
            simp only [Act.put, List.setIfInBounds_toArray, List.set_cons_zero, List.set_cons_succ, i64_w, i32_w]
            rfl
          refine one_ (i := 9) (N := some 44) #[true, true, true, true, true, true, true, true, true, true, false, false, false] rfl rfl (one_of HT_.out (by kernel_rfl)) (by decide) (fun K hK => ?_)
          refine value_ (w1 := ?_) (v := ?_) (by rfl) rfl ?_ ?_
          rotate_left 2
          · go_simp
            constructor
            · rfl
            · rfl
          refine hK.out _ _ ((pw_cell_below (below_alloc (Below.refl _ _) _) (pw_cell_below (below_alloc (Below.refl _ _) _) hcell))) (fun hHeld => ?_)
          clear hK K
          refine norm_ (a' := ?_) ?_ ?_
          rotate_left
          · show Act.put _ (some 44) _ = _
            simp only [Act.put, List.setIfInBounds_toArray, List.set_cons_zero, List.set_cons_succ, i64_w, i32_w]
            rfl
          refine pure_ (i := 10) (N := some 45) (v := ?_) (a' := ?_) #[true, true, true, true, true, true, true, true, true, true, true, false, false] rfl rfl (any_of HT_.out (by kernel_rfl)) (fun _ _ _ h => h) (Or.inl ⟨by rfl, ?_⟩) ?_ ?_
          rotate_left
          · intro w'
            go_simp
            with_reducible rfl
          rotate_left
          · simp only [Act.put, List.setIfInBounds_toArray, List.set_cons_zero, List.set_cons_succ, i64_w, i32_w]
            rfl
          exact norm_ (by simp only [putAll, Act.put, List.setIfInBounds_toArray, List.set_cons_zero, List.set_cons_succ]) (hCont (wr.heap.size, wr.heap.size + 1) _ ⟨Kd.C_alloc (C_lit .u8 wr.drew [9] _ 5 (0, 0) rfl 1 rfl (by decide)) _, (by have h := C_lit .i64 (wr.drew.alloc (.cells #[.int .u8 9] 5)) [1, ev, 2] _ 3 (0, 0) rfl 3 rfl (by simp); rwa [alloc_size] at h), (below_alloc (below_alloc (below_drew1 (Below.refl wr.heap.size wr)) _) _), pw_cell_below (below_alloc (Below.refl _ _) _) (pw_cell_below (below_alloc (Below.refl _ _) _) hcell)⟩)
        · skip
          refine value_ (w1 := ?_) (v := ?_) (by rfl) rfl ?_ ?_
          rotate_left 2
          · go_simp
            constructor
            · rfl
            · rfl
          refine hK.out _ _ ((pw_cell_below (below_alloc (Below.refl _ _) _) hcell)) (fun hHeld => ?_)
          clear hK K
          refine norm_ (a' := ?_) ?_ ?_
          rotate_left
          · show Act.put _ (some 44) _ = _
            simp only [Act.put, List.setIfInBounds_toArray, List.set_cons_zero, List.set_cons_succ, i64_w, i32_w]
            rfl
          refine pure_ (i := 10) (N := some 45) (v := ?_) (a' := ?_) #[false, true, true, true, true, true, true, true, true, true, true, false, false] rfl rfl (any_of HT_.out (by kernel_rfl)) (fun _ _ _ h => h) (Or.inl ⟨by rfl, ?_⟩) ?_ ?_
          rotate_left
          · intro w'
            go_simp
            with_reducible rfl
          rotate_left
          · simp only [Act.put, List.setIfInBounds_toArray, List.set_cons_zero, List.set_cons_succ, i64_w, i32_w]
            rfl
          refine one_ (i := 0) (N := some 35) #[true, true, true, true, true, true, true, true, true, true, true, false, false] rfl rfl (one_of HT_.out (by kernel_rfl)) (by decide) (fun K hK => ?_)
          refine value_ (w1 := ?_) (v := ?_) (by rfl) rfl ?_ ?_
          rotate_left 2
          · go_simp
            constructor
            · rfl
            · rfl
          refine hK.out _ _ ((pw_cell_below (below_alloc (Below.refl _ _) _) (pw_cell_below (below_alloc (Below.refl _ _) _) hcell))) (fun hHeld => ?_)
          clear hK K
          refine norm_ (a' := ?_) ?_ ?_
          rotate_left
          · show Act.put _ (some 35) _ = _
            simp only [Act.put, List.setIfInBounds_toArray, List.set_cons_zero, List.set_cons_succ, i64_w, i32_w]
            rfl
          exact norm_ (by simp only [putAll, Act.put, List.setIfInBounds_toArray, List.set_cons_zero, List.set_cons_succ]) (hCont (wr.heap.size + 1, wr.heap.size) _ ⟨(by have h := C_lit .u8 (wr.drew.alloc (.cells #[.int .i64 1, .int .i64 ev, .int .i64 2] 3)) [9] _ 5 (0, 0) rfl 1 rfl (by decide); rwa [alloc_size] at h), Kd.C_alloc (C_lit .i64 wr.drew [1, ev, 2] _ 3 (0, 0) rfl 3 rfl (by simp)) _, (below_alloc (below_alloc (below_drew1 (Below.refl wr.heap.size wr)) _) _), pw_cell_below (below_alloc (Below.refl _ _) _) (pw_cell_below (below_alloc (Below.refl _ _) _) hcell)⟩)
      rintro ⟨g1, g2⟩ w9 ⟨hc1, hc2, hb9, hHeld⟩
      have HC1 := Aside0.mk (show Kd.C (Kd.int .u8) w9 (some ⟨g1, 0, none⟩) ([9] : List Int).length [9] from hc1)
      have HC2 := Aside0.mk (show Kd.C (Kd.int .i64) w9 (some ⟨g2, 0, none⟩) ([1, ev, 2] : List Int).length [1, ev, 2] from hc2)
      have HB9 := Aside0.mk hb9
      clear hc1 hc2 hb9
      refine norm_ (a' := ?_) ?_ ?_
      rotate_left
      · simp only [putAll, Act.put, List.setIfInBounds_toArray, List.set_cons_zero, List.set_cons_succ]
        rfl
      refine one_ (i := 11) (N := some 46) #[true, true, true, true, true, true, true, true, true, true, true, true, false] rfl rfl (one_of HT_.out (by kernel_rfl)) (by decide) (fun K hK => ?_)
      refine goes_ Try.func5 (by kernel_rfl) rfl #[.slice (some ⟨g1, 0, none⟩) 1 1, .agg #[.int .i64 ev, .string ⟨#[]⟩, .slice (some ⟨g2, 0, none⟩) 3 3, .slice none 0 0]] (by rfl) rfl rfl (by simp only [List.map_toArray, List.map_cons, List.map_nil]; rfl) ?_
      with_reducible refine (writes1 g1 g2 ev w9 HC1.out HC2.out).mono ?_
      rintro e w10 ⟨rfl, hb⟩
      refine ⟨_, rfl, ?_⟩
      have hbx := HB9.out.trans (hb.mono HB9.out.size)
      have HB10 := Aside0.mk (HBr.out.trans (hbx.mono HBr.out.size))
      have hcell2 := pw_cell_below hb hHeld
      refine hK.out _ _ (hcell2) (fun hHeld => ?_)
      clear hK K
      refine norm_ (a' := ?_) ?_ ?_
      rotate_left
      · show Act.put _ (some 46) _ = _
        simp only [Act.put, List.setIfInBounds_toArray, List.set_cons_zero, List.set_cons_succ, i64_w, i32_w]
        rfl
      refine pure_ (i := 12) (N := some 47) (v := ?_) (a' := ?_) #[true, true, true, true, true, true, true, true, true, true, true, true, true] rfl rfl (any_of HT_.out (by kernel_rfl)) (fun _ _ _ h => h) (Or.inl ⟨by rfl, ?_⟩) ?_ ?_
      rotate_left
      · intro w'
        go_simp
        with_reducible rfl
      rotate_left
      · simp only [Act.put, List.setIfInBounds_toArray, List.set_cons_zero, List.set_cons_succ, i64_w, i32_w]
        rfl
      refine done_ (done_of HT_.out (by kernel_rfl)) ?_
      go_wp2_with (fail)
      go_roundw
      case rel => exact ⟨i + 1, by omega, by rw [Int.natCast_add]; rfl, ⟨Kd.C_below HEr.out (hbx)⟩, HB10⟩
      case measure => simp only [intOf]; omega
    · obtain rfl : i = 11 := by omega
      rw [show ((11 : Nat) : Int) = 11 from rfl]
      clear hi hi11
      go_wp2_with (fail)
      go_loopw [3] (fun v3 wr => ∃ n : Nat, n ≤ 9 ∧ v3 = .int .i64 n ∧ Aside0 (Below w.heap.size w wr)) (fun v3 _ => 10 - (intOf v3).toNat)
      case atStart => exact ⟨0, by omega, rfl, HBr⟩
      case round =>
        obtain ⟨n, hn9, rfl, HBn⟩ := hrel
        by_cases hn : n < 9
        · go_wp2_with (fail)
          rw [show decide ((n : Int) < 9) = true from decide_eq_true (by omega)]
          go_loopw [4, 5] (fun v4 v5 wr => ∃ (i : Nat) (lb : List Int), i ≤ n ∧ v5 = .int .i64 i ∧ Aside0 (lb.length = i) ∧ Aside0 (okB lb = true) ∧ Aside0 (Kd.R (Kd.int .u8) 5 wr w.heap.size (fun _ => True) v4 lb) ∧ Aside0 (Below w.heap.size w wr)) (fun _ v5 _ => 10 - (intOf v5).toNat)
          case atStart => exact ⟨0, [], by omega, rfl, ⟨rfl⟩, ⟨rfl⟩, ⟨Kd.R_nil _ _ _ _ _⟩, HBn⟩
          case round =>
            obtain ⟨i, lb, hin, rfl, HLb, HOb, HRb, HBb⟩ := hrel
            by_cases hi : i < n
            · go_wp2_with (at_builtin; go_loud (refine Kd.R_append (Kd.int .u8) (w0 := w) w.heap.size rfl (.tmp 57) (.tmp 58) 22 5 (.int .u8 0) 1 rfl Try.underlying22 A8.info5 rfl (by decide) (by omega) u4 lb 128 [.int .u8 128] (fun _ => True) (fun _ => False) rfl rfl rfl (fun _ hk => hk.elim) (fun _ _ => trivial) HRb.out HBb.out HBb.out.size (by have := HLb.out; omega) ?_); intro v1 w4 ho hb hg hat; have HR4 := Aside0.mk ho; have HB4 := Aside0.mk hb; clear ho hb hg hat)
              go_roundw
              case rel => exact ⟨i + 1, lb ++ [128], by omega, by rw [Int.natCast_add]; rfl, ⟨by rw [List.length_append, HLb.out]; rfl⟩, ⟨okB_app HOb.out rfl⟩, HR4, HB4⟩
              case measure => simp only [intOf]; omega
            · obtain rfl : i = n := by omega
              clear hi hin
              obtain ⟨Ab, cb, eb⟩ := Kd.R_slice HRb.out
              subst eb
              go_wp2_with (fail)
              go_loopw [6] (fun v6 wr => ∃ c : Nat, c ≤ 256 ∧ v6 = .int .i64 c ∧ Aside0 (Kd.R (Kd.int .u8) 5 wr w.heap.size (fun _ => True) (.slice Ab lb.length cb) lb) ∧ Aside0 (Below w.heap.size w wr)) (fun v6 _ => 257 - (intOf v6).toNat)
              case atStart => exact ⟨0, by omega, rfl, HRb, HBb⟩
              case round =>
                obtain ⟨c, hc, rfl, HRc, HBc⟩ := hrel
                by_cases hcl : c < 256
                · have HCp := Aside0.mk (show H.armillaryref00_CopyBytes.f lb = some lb by unfold H.armillaryref00_CopyBytes.f; rw [if_pos (by have := HLb.out; simp; omega), List.nil_append])
                  have HCc := Aside0.mk (show okB [(c : Int)] = true by unfold okB; simp only [List.all_cons, List.all_nil, Bool.and_true, Bool.and_eq_true, decide_eq_true_eq]; omega)
                  go_wp2_with (fail)
                  refine (H.armillaryref00_CopyBytes.calls Ab cb lb lb _ (Kd.R_reads' HRc.out).2.2 (Kd.R_reads' HRc.out).2.1 HCp.out).mono ?_
                  rintro e w5 ⟨v5, rfl, ho, hb⟩
                  have HO5 := Aside0.mk ho
                  have HB5 := Aside0.mk hb
                  clear ho hb
                  obtain ⟨L1, hL1⟩ : ∃ L1, L1 = lb ++ [(c : Int)] := ⟨_, rfl⟩
                  have HL1 := Aside0.mk hL1
                  have HOk1 := Aside0.mk (show okB L1 = true by rw [hL1]; exact okB_app HOb.out HCc.out)
                  obtain ⟨L2, hL2⟩ : ∃ L2, L2 = lb ++ [(c : Int), 1] := ⟨_, rfl⟩
                  have HL2 := Aside0.mk hL2
                  have HOk2 := Aside0.mk (show okB L2 = true by rw [hL2, show lb ++ [(c : Int), 1] = (lb ++ [(c : Int)]) ++ [1] by simp]; exact okB_app (okB_app HOb.out HCc.out) rfl)
                  clear hL1 hL2
                  go_wp2_with (at_builtin; refine Kd.R_append (Kd.int .u8) (w0 := wr) wr.heap.size rfl (.tmp 65) (.tmp 68) 22 5 (.int .u8 0) 1 rfl Try.underlying22 A8.info5 rfl (by decide) (by omega) v5 lb (c : Int) [.int .u8 (c : Int)] (fun _ => True) (fun _ => False) rfl rfl rfl (fun _ hk => hk.elim) (fun _ _ => trivial) HO5.out HB5.out HB5.out.size (by have := HLb.out; omega) ?_; intro v6 w6 ho hb hg hat; rw [← HL1.out] at ho; obtain ⟨Ax, cx, rfl⟩ := Kd.R_slice ho; have HO6 := Aside0.mk ho; have HB6 := Aside0.mk hb; clear ho hb hg hat)
                  refine (reads_walk Ax cx L1 (some ⟨w6.heap.size, 0, none⟩) 2 [0, 4] _ (Kd.C_alloc (Kd.R_reads' HO6.out).2.2 _) (Kd.R_reads' HO6.out).2.1 HOk1.out (C_lit .i64 w6 [0, 4] _ 3 (0, 0) rfl 2 rfl (by decide)) (by decide)).mono ?_
                  rintro e w7 ⟨rfl, hb⟩
                  have HB7 := Aside0.mk ((below_alloc HB6.out _).trans (hb.mono (below_alloc HB6.out _).size))
                  clear hb
                  have HR7 := Aside0.mk (Kd.R_below HRc.out HB7.out)
                  go_wp2_with (fail)
                  refine (H.armillaryref00_CopyBytes.calls Ab cb lb lb _ (Kd.R_reads' HR7.out).2.2 (Kd.R_reads' HR7.out).2.1 HCp.out).mono ?_
                  rintro e w8 ⟨v8, rfl, ho, hb⟩
                  have HO8 := Aside0.mk (Kd.R_lower ho HB7.out.size)
                  have HB8 := Aside0.mk (HB7.out.trans (hb.mono HB7.out.size))
                  clear ho hb
                  go_wp2_with (at_builtin; go_loud (refine gate_guard (by rfl) ?_); go_loud (refine Kd.R_append_rows (Kd.int .u8) (w0 := wr) wr.heap.size rfl (.tmp 75) (.tmp 78) 22 5 (.int .u8 0) 1 rfl Try.underlying22 A8.info5 rfl (by decide) (by omega) v8 lb [(c : Int), 1] _ _ _ (fun _ => True) (fun _ => False) rfl rfl (Kd.R_alloc HO8.out _) (C_lit .u8 w8 [(c : Int), 1] _ 5 (0, 0) rfl 2 rfl (by simp)) (fun _ _ h => h) (fun _ h => h.elim) (fun _ _ => trivial) (below_alloc HB8.out _) (below_alloc HB8.out _).size (by have := HLb.out; omega) ?_); intro v9 w9 ho hb hg hat; rw [← HL2.out] at ho; obtain ⟨Ay, cy, rfl⟩ := Kd.R_slice ho; have HO9 := Aside0.mk ho; have HB9 := Aside0.mk hb; clear ho hb hg hat)
                  refine (reads_walk Ay cy L2 (some ⟨w9.heap.size, 0, none⟩) 3 [(i : Int), 0, 4] _ (Kd.C_alloc (Kd.R_reads' HO9.out).2.2 _) (Kd.R_reads' HO9.out).2.1 HOk2.out (C_lit .i64 w9 [(i : Int), 0, 4] _ 3 (0, 0) rfl 3 rfl (by simp)) (by simp)).mono ?_
                  rintro e w10 ⟨rfl, hb⟩
                  have HB10 := Aside0.mk ((below_alloc HB9.out _).trans (hb.mono (below_alloc HB9.out _).size))
                  clear hb
                  go_wp2_with (fail)
                  go_roundw
                  case rel => exact ⟨c + 1, by omega, by rw [Int.natCast_add]; rfl, ⟨Kd.R_below HRc.out HB10.out⟩, ⟨HBc.out.trans (HB10.out.mono HBc.out.size)⟩⟩
                  case measure => simp only [intOf]; omega
                · obtain rfl : c = 256 := by omega
                  rw [show ((256 : Nat) : Int) = 256 from rfl]
                  clear hcl
                  go_wp2_with (fail)
                  go_roundw
                  case rel => exact ⟨i + 1, by omega, by rw [Int.natCast_add]; rfl, HBc⟩
                  case measure => simp only [intOf]; omega
        · obtain rfl : n = 9 := by omega
          rw [show ((9 : Nat) : Int) = 9 from rfl]
          obtain ⟨L7, hL7⟩ : ∃ L7, L7 = List.replicate ((65537 : Int).toNat) (0 : Int) := ⟨_, rfl⟩
          obtain ⟨L8, hL8⟩ : ∃ L8, L8 = List.replicate ((8001 : Int).toNat) (0 : Int) := ⟨_, rfl⟩
          obtain ⟨L9, hL9⟩ : ∃ L9, L9 = List.replicate ((8001 : Int).toNat) (⟨#[]⟩ : ByteArray) := ⟨_, rfl⟩
          have n7 : L7.length = 65537 := by rw [hL7, List.length_replicate]; rfl
          have n8 : L8.length = 8001 := by rw [hL8, List.length_replicate]; rfl
          have n9 : L9.length = 8001 := by rw [hL9, List.length_replicate]; rfl
          obtain ⟨M7, hM7⟩ : ∃ M, M = L7.drop 1 := ⟨_, rfl⟩
          obtain ⟨M8, hM8⟩ : ∃ M, M = L8.drop 1 := ⟨_, rfl⟩
          obtain ⟨M9, hM9⟩ : ∃ M, M = L9.drop 1 := ⟨_, rfl⟩
          have m7 : M7.length = 65536 := by rw [hM7, List.length_drop, n7]
          obtain ⟨S7, hS7⟩ : ∃ S, S = strOfNums L7 := ⟨_, rfl⟩
          obtain ⟨T7, hT7⟩ : ∃ S, S = strOfNums M7 := ⟨_, rfl⟩
          have HF1 := Aside0.mk (text_long S7 (by rw [hS7, str_size, n7]; decide))
          obtain ⟨r12, f12, n12⟩ := text_max T7 (by rw [hT7, str_size, m7])
          have HF2 := Aside0.mk f12
          have HF3 := Aside0.mk (nums_long L8 (by rw [n8]; decide))
          obtain ⟨Y, fY, nY, oY, lY⟩ := nums_max M8 8000 rfl (by rw [hM8, hL8]; rfl)
          have HF4 := Aside0.mk fY
          have HF5 := Aside0.mk (texts_long L9 (by rw [n9]; decide))
          obtain ⟨r20, f20, n20⟩ := texts_max M9 8000 rfl (by rw [hM9, hL9]; rfl)
          have HF6 := Aside0.mk f20
          have HF7 := Aside0.mk (texts_two S7 (by rw [hS7, str_size, n7]; decide))
          have HN7 := Aside0.mk n7
          have HN8 := Aside0.mk n8
          have HN9 := Aside0.mk n9
          have HM8 := Aside0.mk (show M8.length = 8000 by rw [hM8, List.length_drop, n8])
          have HN12 := Aside0.mk n12
          have HNY := Aside0.mk nY
          have HOY := Aside0.mk oY
          have HLY := Aside0.mk lY
          have HN20 := Aside0.mk n20
          have HL7 := Aside0.mk hL7
          have HL8 := Aside0.mk hL8
          have HL9 := Aside0.mk hL9
          have HD7 := Aside0.mk hM7
          have HD8 := Aside0.mk hM8
          have HD9 := Aside0.mk hM9
          have HS7 := Aside0.mk hS7
          have HT7 := Aside0.mk hT7
          obtain ⟨iu, hiu, _, hzu, _⟩ := info_parts A4.info5
          obtain ⟨ii, hii, _, hzi, _⟩ := info_parts A6.info3
          obtain ⟨is, his, _, hzs, _⟩ := info_parts A6.info9
          have HIu := Aside0.mk hiu
          have HZu := Aside0.mk hzu
          have HIi := Aside0.mk hii
          have HZi := Aside0.mk hzi
          have HIs := Aside0.mk his
          have HZs := Aside0.mk hzs
          clear hL7 hL8 hL9 n7 n8 n9 hM7 hM8 hM9 m7 hS7 hT7 f12 n12 fY nY oY lY f20 n20 hiu hzu hii hzi his hzs
          go_wp2_with (first | (at_make; refine Kd.R_make (Kd.int .u8) (w0 := w) w.heap.size 5 rfl rfl 22 (.const (.int .i64 65537)) (.const (.int .i64 65537)) rfl 65537 rfl rfl Try.underlying22 (.int .u8 0) 1 A8.info5 rfl (by decide) (by decide) 0 (ok := fun _ => True) (okp := fun _ => False) rfl (fun _ h => h.elim) trivial (by decide) (by decide) HBn.out HBn.out.size ?_; intro v7 w7 ho hb hg hat; rw [← HL7.out] at ho; obtain ⟨A7, c7, rfl⟩ := Kd.R_slice ho; have HO7 := Aside0.mk ho; have HB7 := Aside0.mk hb; clear ho hb hg hat) | (at_make; refine Kd.R_make (Kd.int .i64) (w0 := w) w.heap.size 3 rfl rfl 31 (.const (.int .i64 8001)) (.const (.int .i64 8001)) rfl 8001 rfl rfl Try.underlying31 (.int .i64 0) 8 A6.info3 rfl (by decide) (by decide) 0 (ok := fun _ => True) (okp := fun _ => False) rfl (fun _ h => h.elim) trivial (by decide) (by decide) HB7.out HB7.out.size ?_; intro v8 w8 ho hb hg hat; rw [← HL8.out] at ho; obtain ⟨A8_, c8, rfl⟩ := Kd.R_slice ho; have HO8 := Aside0.mk ho; have HB8 := Aside0.mk hb; have HG8 := Aside0.mk hg; clear ho hb hg hat) | (at_make; refine Kd.R_make Kd.string (w0 := w) w.heap.size 9 rfl rfl 32 (.const (.int .i64 8001)) (.const (.int .i64 8001)) rfl 8001 rfl rfl Try.underlying32 (.string ⟨#[]⟩) 16 A6.info9 rfl (by decide) (by decide) ⟨#[]⟩ (ok := fun _ => True) (okp := fun _ => False) rfl (fun _ h => h.elim) trivial (by decide) (by decide) HB8.out HB8.out.size ?_; intro v9 w9 ho hb hg hat; rw [← HL9.out] at ho; obtain ⟨A9_, c9, rfl⟩ := Kd.R_slice ho; have HO9 := Aside0.mk ho; have HB9 := Aside0.mk hb; have HG9 := Aside0.mk hg; clear ho hb hg hat; have HQ7 := Aside0.mk (Kd.R_reads' (Kd.R_grown (Kd.R_grown HO7.out HG8.out (fun _ _ => by simp)) HG9.out (fun _ _ => by simp))); have HQ8 := Aside0.mk (Kd.R_reads' (Kd.R_grown HO8.out HG9.out (fun _ _ => by simp))); have HQ9 := Aside0.mk (Kd.R_reads' HO9.out); have hcv := Kd.C_string (P := Try.prog) (c := c7) (dst := 9) (src := 22) Try.underlying22 Try.underlying5 Try.underlying9 HQ7.out.2.2; rw [← HS7.out] at hcv))
          refine (wire_Text.calls none 0 [] S7 [] 5 w9 (Kd.C_nil _ _) (Nat.le_refl _) HF1.out).mono ?_
          rintro e wa ⟨va, rfl, _, hb⟩
          have HXa := Aside0.mk hb
          clear hb hcv
          obtain ⟨Ad7, hct7, hA7, hC7⟩ := print_drop_of (P := Try.prog) (Value.int .u8) 0 22 5 .i64 Try.underlying22 HIu.out HZu.out A7 c7 L7 1 (by decide) (by rw [HN7.out]; decide) HQ7.out.2.1
          rw [show L7.drop ((1 : Int).toNat) = M7 from HD7.out.symm] at hct7 hA7 hC7
          have HA7 := Aside0.mk (Kd.C_of_reads (h1 := fun _ => rfl) (hA7 wa (Kd.reads_of_C (Kd.C_below HQ7.out.2.2 HXa.out))))
          obtain ⟨cd7, hcd7⟩ : ∃ c, c = c7 - (1 : Int).toNat := ⟨_, rfl⟩
          rw [← hcd7] at hct7
          have hcv := Kd.C_string (P := Try.prog) (c := cd7) (dst := 9) (src := 22) Try.underlying22 Try.underlying5 Try.underlying9 HA7.out
          rw [← HT7.out] at hcv
          clear hA7 hC7 hcd7
          go_wp2_with (fail)
          refine (wire_Text.calls none 0 [] T7 r12 0 wa (Kd.C_nil _ _) (Nat.le_refl _) HF2.out).mono ?_
          rintro e wb ⟨vb, rfl, ho, hb⟩
          obtain ⟨Ab, cb, rfl⟩ := Kd.R_slice ho
          rw [HN12.out]
          have HXb := Aside0.mk (HXa.out.trans (hb.mono HXa.out.size))
          clear ho hb hcv hct7
          go_wp2_with (fail)
          refine (wire_Nums.calls none 0 [] A8_ c8 L8 [] 5 wb (Kd.C_nil _ _) (Nat.le_refl _) (Kd.C_below HQ8.out.2.2 HXb.out) HQ8.out.2.1 HF3.out).mono ?_
          rintro e wc ⟨vc, rfl, _, hb⟩
          have HXc := Aside0.mk (HXb.out.trans (hb.mono HXb.out.size))
          clear hb
          obtain ⟨Ad8, hct8, hA8, hC8⟩ := print_drop_of (P := Try.prog) (Value.int .i64) 0 31 3 .i64 Try.underlying31 HIi.out HZi.out A8_ c8 L8 1 (by decide) (by rw [HN8.out]; decide) HQ8.out.2.1
          rw [show L8.drop ((1 : Int).toNat) = M8 from HD8.out.symm] at hct8 hA8 hC8
          have HA8 := Aside0.mk (Kd.C_of_reads (h1 := fun _ => rfl) (hA8 wc (Kd.reads_of_C (Kd.C_below HQ8.out.2.2 HXc.out))))
          have HC8 := Aside0.mk hC8
          clear hA8 hC8
          go_wp2_with (fail)
          refine (wire_Nums.calls none 0 [] Ad8 _ M8 Y 0 wc (Kd.C_nil _ _) (Nat.le_refl _) HA8.out HC8.out HF4.out).mono ?_
          rintro e wd ⟨vd, rfl, ho, hb⟩
          obtain ⟨Ay, cy, rfl⟩ := Kd.R_slice ho
          have HQY := Aside0.mk (Kd.R_reads' ho)
          have HXd := Aside0.mk (HXc.out.trans (hb.mono HXc.out.size))
          rw [HNY.out]
          clear ho hb hct8
          go_wp2_with (fail)
          refine (wire_Texts.calls none 0 [] A9_ c9 L9 [] 5 wd (Kd.C_nil _ _) (Nat.le_refl _) (Kd.C_below HQ9.out.2.2 HXd.out) HQ9.out.2.1 HF5.out).mono ?_
          rintro e we ⟨ve, rfl, _, hb⟩
          have HXe := Aside0.mk (HXd.out.trans (hb.mono HXd.out.size))
          have HYe := Aside0.mk hb
          clear hb
          obtain ⟨Ad9, hct9, hA9, hC9⟩ := print_drop_of (P := Try.prog) Value.string (⟨#[]⟩ : ByteArray) 32 9 .i64 Try.underlying32 HIs.out HZs.out A9_ c9 L9 1 (by decide) (by rw [HN9.out]; decide) HQ9.out.2.1
          rw [show L9.drop ((1 : Int).toNat) = M9 from HD9.out.symm] at hct9 hA9 hC9
          have HA9 := Aside0.mk (Kd.C_of_reads (h1 := fun _ => rfl) (hA9 we (Kd.reads_of_C (Kd.C_below HQ9.out.2.2 HXe.out))))
          have HC9 := Aside0.mk hC9
          clear hA9 hC9
          go_wp2_with (fail)
          refine (wire_Texts.calls none 0 [] Ad9 _ M9 r20 0 we (Kd.C_nil _ _) (Nat.le_refl _) HA9.out HC9.out HF6.out).mono ?_
          rintro e wf ⟨vf, rfl, ho, hb⟩
          obtain ⟨Af, cf, rfl⟩ := Kd.R_slice ho
          have HXf := Aside0.mk (HXe.out.trans (hb.mono HXe.out.size))
          have HYf := Aside0.mk (HYe.out.trans (hb.mono HYe.out.size))
          rw [HN20.out]
          clear ho hb hct9
          have hcv := Kd.C_string (P := Try.prog) (c := c7) (dst := 9) (src := 22) Try.underlying22 Try.underlying5 Try.underlying9 (Kd.C_below HQ7.out.2.2 HXf.out)
          rw [← HS7.out] at hcv
          go_wp2_with (fail)
          have HCl := Aside0.mk (C_litS wf [⟨#[97]⟩, S7] _ 9 (0, 0) rfl 2 rfl (by simp))
          refine (wire_Texts.calls none 0 [] (some ⟨wf.heap.size, 0, none⟩) 2 [⟨#[97]⟩, S7] [] 5 _ (Kd.C_nil _ _) (Nat.le_refl _) HCl.out (by simp) HF7.out).mono ?_
          rintro e wg ⟨vg, rfl, _, hb⟩
          have HYf2 := below_alloc HYf.out (.cells #[.string ⟨#[97]⟩, .string S7] 9)
          have HXf2 := below_alloc HXf.out (.cells #[.string ⟨#[97]⟩, .string S7] 9)
          have HXg := Aside0.mk (HXf2.trans (hb.mono HXf2.size))
          have HYg := Aside0.mk (HYf2.trans (hb.mono HYf2.size))
          have HBg := Aside0.mk (HB9.out.trans (HXg.out.mono HB9.out.size))
          clear hb HYf2 HXf2 hcv
          clear HCl
          go_wp2_with (fail)
          refine (newReader_yes (some ⟨wg.heap.size, 0, none⟩) 4 [129, 128, 4, 1] _ (C_lit .u8 wg [129, 128, 4, 1] _ 5 (0, 0) rfl 4 rfl (by decide)) (by decide) (by decide) (by decide)).mono ?_
          rintro e wh ⟨g1, rfl, hg, hr, hb⟩
          have HR1 := Aside0.mk hr
          have h1_ := below_alloc (Below.refl wg.heap.size wg) (.cells #[.int .u8 129, .int .u8 128, .int .u8 4, .int .u8 1] 5)
          have HZh := Aside0.mk (h1_.trans (hb.mono h1_.size))
          have HG1 := Aside0.mk (Nat.le_trans h1_.size hg)
          clear hr hb hg h1_
          go_wp2_with (fail)
          refine (text_at _ g1 _ 0 _ HR1.out _ _ _ read1).mono ?_
          rintro e wi ⟨rfl, hr, hk⟩
          have HR2 := Aside0.mk hr
          have HZi := Aside0.mk (HZh.out.trans (hk.low.mono HG1.out))
          clear hr hk
          go_wp2_with (fail)
          refine (err_yes _ g1 _ 5 _ HR2.out).mono ?_
          rintro e w' ⟨rfl, rfl⟩
          go_wp2_with (fail)
          refine (end5 _ g1 _ _ HR2.out).mono ?_
          rintro e wj ⟨rfl, hr, hk⟩
          have HZj := Aside0.mk (HZi.out.trans (hk.low.mono HG1.out))
          clear hr hk
          go_wp2_with (fail)
          refine (newReader_yes (some ⟨wj.heap.size, 0, none⟩) 3 [193, 62, 1] _ (C_lit .u8 wj [193, 62, 1] _ 5 (0, 0) rfl 3 rfl (by decide)) (by decide) (by decide) (by decide)).mono ?_
          rintro e wk ⟨g2, rfl, hg, hr, hb⟩
          have HR3 := Aside0.mk hr
          have h1_ := below_alloc HZj.out (.cells #[.int .u8 193, .int .u8 62, .int .u8 1] 5)
          have HZk := Aside0.mk (h1_.trans (hb.mono h1_.size))
          have HG2 := Aside0.mk (Nat.le_trans h1_.size hg)
          clear hr hb hg h1_
          go_wp2_with (fail)
          refine (nums_at _ g2 _ 0 _ HR3.out _ _ _ read2).mono ?_
          rintro e wl ⟨Al, cl, rfl, _, _, hr, hk⟩
          have HR4 := Aside0.mk hr
          have HZl := Aside0.mk (HZk.out.trans (hk.low.mono HG2.out))
          clear hr hk
          go_wp2_with (fail)
          refine (err_yes _ g2 _ 5 _ HR4.out).mono ?_
          rintro e w' ⟨rfl, rfl⟩
          go_wp2_with (fail)
          have HYl := Aside0.mk (HYg.out.trans (HZl.out.mono HYg.out.size))
          have hnr := newReader_yes Ay cy Y wl (Kd.C_below HQY.out.2.2 HYl.out) HQY.out.2.1 (by rw [HNY.out]; decide) HOY.out
          rw [HNY.out] at hnr
          refine hnr.mono ?_
          clear hnr
          rintro e wm ⟨g3, rfl, hg, hr, hb⟩
          have HR5 := Aside0.mk hr
          have HZm := Aside0.mk (HZl.out.trans (hb.mono HZl.out.size))
          have HG3 := Aside0.mk (Nat.le_trans HZl.out.size hg)
          clear hr hb hg
          go_wp2_with (fail)
          refine (nums_at _ g3 _ 0 _ HR5.out _ _ _ HLY.out).mono ?_
          rintro e wn ⟨An, cn, rfl, _, _, hr, hk⟩
          rw [HM8.out]
          have HR6 := Aside0.mk hr
          have HZn := Aside0.mk (HZm.out.trans (hk.low.mono HG3.out))
          clear hr hk
          go_wp2_with (fail)
          refine (end0 _ g3 _ HR6.out).mono ?_
          rintro e wo ⟨rfl, hr, hk⟩
          have HZo := Aside0.mk (HZn.out.trans (hk.low.mono HG3.out))
          have HBo := Aside0.mk (HBg.out.trans (HZo.out.mono HBg.out.size))
          clear hr hk
          go_wp2_with (fail)
          go_loopw [26, 27] (fun v26 v27 wr => ∃ (i : Nat) (p : Option Addr), i ≤ 2 ∧ v26 = .pointer p ∧ v27 = .int .i64 i ∧ Aside0 (NoneR wr p) ∧ Aside0 (Below w.heap.size w wr)) (fun _ v27 _ => 3 - (intOf v27).toNat)
          case atStart => exact ⟨0, none, by omega, rfl, rfl, ⟨.inl rfl⟩, HBo⟩
          case round =>
            obtain ⟨i, p, hi2, rfl, rfl, HNo, HBr⟩ := hrel
            by_cases hi : i < 2
            · go_wp2_with (fail)
              refine (none_num p _ HNo.out).mono ?_
              rintro e w' ⟨rfl, rfl⟩
              go_wp2_with (fail)
              refine (none_text p _ HNo.out).mono ?_
              rintro e w' ⟨rfl, rfl⟩
              go_wp2_with (fail)
              refine (none_nums p _ HNo.out).mono ?_
              rintro e w' ⟨rfl, rfl⟩
              go_wp2_with (fail)
              refine (none_texts p _ HNo.out).mono ?_
              rintro e w' ⟨rfl, rfl⟩
              go_wp2_with (fail)
              refine (none_left p _ HNo.out).mono ?_
              rintro e w' ⟨rfl, rfl⟩
              go_wp2_with (fail)
              refine (none_err p _ HNo.out).mono ?_
              rintro e w' ⟨rfl, rfl⟩
              go_wp2_with (fail)
              refine (none_end p _ HNo.out).mono ?_
              rintro e w' ⟨rfl, rfl⟩
              go_wp2_with (fail)
              go_roundw
              case rel => exact ⟨i + 1, _, by omega, rfl, by rw [Int.natCast_add]; rfl, ⟨.inr ⟨_, rfl, heap_alloc_new _ _⟩⟩, ⟨below_alloc HBr.out _⟩⟩
              case measure => simp only [intOf]; omega
            · obtain rfl : i = 2 := by omega
              clear hi hi2
              go_wp2_with (fail)
              refine (armillarylaw01_works.calls true wr rfl).mono ?_
              rintro e wz ⟨rfl, hb⟩
              have HBz := Aside0.mk (HBr.out.trans (hb.mono HBr.out.size))
              clear hb
              go_wp2_with (fail)
              go_ret
              exact ⟨rfl, HBz.out⟩
end Go.Proofs.Ytcpnjlagmnlecaa.E2

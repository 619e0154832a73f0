/- The chapter's numbers (works). -/
import Derived.Test.YtcpnjlagmnlecaaProg
import Derived.Below
import Derived.Deep.Draws
import Derived.Deep.AppendLies
import Derived.Maps.AppendAt
import Derived.OwnWalk
import Derived.Laws.BytesArg
import Derived.Laws.MakeOwn
import Derived.Laws.OwnMore
import Derived.Deep.OwnRows
import Derived.Tactics
import Derived.Lib.ConvBytes
import Derived.Laws.Slices
import Derived.WalkKit
import Derived.KernelRfl
import Derived.RowKit3
import Derived.Deep.LoopGhost
import Derived.Deep.QuietTactic
import Derived.BigQuiet
import Derived.WideLaws
import Derived.Deep.DeepCutAuto
import Derived.Deep.CutBlock
import Derived.Deep.RegionHeld3
import Derived.Laws.Rows
import Derived.Lib.AppendStr
import Derived.ArgAppend
import Derived.Laws.IdiomCopy
import Derived.OrdersHeld
import Derived.Laws.BitsLemmas
import Derived.RowKit
import Derived.WalkSpells
import Derived.Laws.CopyOwn
import Derived.Test.YtcpnjlagmnlecaaWWords
import Derived.Test.YtcpnjlagmnlecaaWLast
import Derived.Test.YtcpnjlagmnlecaaWMore
import Derived.Test.YtcpnjlagmnlecaaB1
import Derived.Lib.SlBytesConst
namespace Go.Proofs.Ytcpnjlagmnlecaa.B2
open Go.RowKit Go.Proofs.YtcpnjlagmnlecaaW.PrintWords Go.Proofs.YtcpnjlagmnlecaaW.PrintLast Go.Proofs.YtcpnjlagmnlecaaW.PrintMore Go.Proofs.Ytcpnjlagmnlecaa Go.Proofs.Ytcpnjlagmnlecaa.A2 Go.Proofs.Ytcpnjlagmnlecaa.A8 Go.Proofs.Ytcpnjlagmnlecaa.A9 Go.Proofs.Ytcpnjlagmnlecaa.B1 Go.Proofs.Ytcpnjlagmnlecaa.H
set_option linter.unusedVariables false
set_option linter.unusedSimpArgs false
theorem C_lit (k : IntKind) (W : World) (l : List Int) (cs : Array Value) (e : TypeId) (fr : Nat × Nat) (hcs : cs = (l.map (Value.int k)).toArray) (n : Nat) (hn : n = l.length) (hl : l.length ≤ 9223372036854775807) :
    Kd.C (Kd.int k) (W.alloc (.cells cs e fr)) (some ⟨W.heap.size, 0, none⟩) n l := by
  subst hn hcs
  refine Kd.C_of_reads (enc := Value.int k) (d := (0 : Int)) (h1 := fun _ => rfl) ⟨rfl, hl, fun h => ⟨_, rfl, fun j hj => ?_⟩⟩
  rw [add_plain, cell_of_row _ _ j _ _ _ (heap_alloc_new W _)]
  simp [hj]
theorem n0 : numOk 0 [0] = true := by decide +kernel
theorem n1 : numOk 127 [127] = true := by decide +kernel
theorem n2 : numOk 128 [128, 1] = true := by decide +kernel
theorem n3 : numOk 300 [172, 2] = true := by decide +kernel
theorem n4 : numOk 9007199254740991 [255, 255, 255, 255, 255, 255, 255, 15] = true := by decide +kernel
theorem n5 : numOk 129 [129, 1] = true := by decide +kernel
theorem f0 : failsOk 3 [128] = true := by decide +kernel
theorem f1 : failsOk 4 [128, 0] = true := by decide +kernel
theorem f2 : failsOk 4 [255, 255, 255, 255, 255, 255, 255, 32] = true := by decide +kernel
theorem s0 : wire_Sum.f [49, 50, 51, 52, 53, 54, 55, 56, 57] = some 3421780262 := by decide +kernel
theorem s1 : wire_Sum.f [] = some 0 := by decide +kernel
theorem s2 : wire_Sum.f [0] = some 3523407757 := by decide +kernel
theorem d0 : dig [] (-1) = ([], 9) := by decide +kernel
theorem d1 : dig [] 9007199254740992 = ([], 9) := by decide +kernel
theorem t0 : wire_Text.f [] ⟨#[97, 98]⟩ = some ([2, 97, 98], 0) := by decide +kernel
theorem m0 : wire_Nums.f [] [1, 200] = some ([2, 1, 200, 1], 0) := by decide +kernel
theorem num_lit (W : World) (n : Int) (l : List Int) (cs : Array Value) (hcs : cs = (l.map (Value.int .u8)).toArray) (m : Nat) (hm : m = l.length) (hf : numOk n l = true) :
    Calls Try.prog 41 #[.int .i64 n, .slice (some ⟨W.heap.size, 0, none⟩) m m] (W.alloc (.cells cs 5)) fun e w' => e = .returned (.bool true) ∧ Below W.heap.size W w' := by
  have hl : l.length ≤ 9223372036854775807 := by
    unfold numOk at hf
    simp only [Bool.and_eq_true, decide_eq_true_eq] at hf
    omega
  subst hm
  refine (armillarylaw01_num.calls n _ l.length l true _ (C_lit .u8 W l cs 5 (0, 0) hcs _ rfl hl) (Nat.le_refl _) (if_pos hf)).mono ?_
  rintro e w' ⟨rfl, hb⟩
  exact ⟨rfl, (below_alloc (Below.refl _ _) _).trans (hb.mono (by simp))⟩
theorem fails_lit (W : World) (n : Int) (l : List Int) (cs : Array Value) (hcs : cs = (l.map (Value.int .u8)).toArray) (m : Nat) (hm : m = l.length) (hf : failsOk n l = true) :
    Calls Try.prog 42 #[.int .i64 n, .slice (some ⟨W.heap.size, 0, none⟩) m m] (W.alloc (.cells cs 5)) fun e w' => e = .returned (.bool true) ∧ Below W.heap.size W w' := by
  have hl : l.length ≤ 9223372036854775807 := by
    unfold failsOk at hf
    simp only [Bool.and_eq_true, decide_eq_true_eq] at hf
    omega
  subst hm
  refine (armillarylaw01_fails.calls n _ l.length l true _ (C_lit .u8 W l cs 5 (0, 0) hcs _ rfl hl) (Nat.le_refl _) (if_pos hf)).mono ?_
  rintro e w' ⟨rfl, hb⟩
  exact ⟨rfl, (below_alloc (Below.refl _ _) _).trans (hb.mono (by simp))⟩
theorem sum_lit (W : World) (l : List Int) (cs : Array Value) (fr : Nat × Nat) (hcs : cs = (l.map (Value.int .u8)).toArray) (m : Nat) (hm : m = l.length) (r : Int) (hl : l.length ≤ 1000) (hf : wire_Sum.f l = some r) :
    Calls Try.prog 11 #[.slice (some ⟨W.heap.size, 0, none⟩) m m] (W.alloc (.cells cs 5 fr)) fun e w' => e = .returned (.int .i64 r) ∧ Below W.heap.size W w' := by
  subst hm
  refine (wire_Sum.calls _ l.length l r _ (C_lit .u8 W l cs 5 fr hcs _ rfl (by omega)) (Nat.le_refl _) hf).mono ?_
  rintro e w' ⟨rfl, hb⟩
  exact ⟨rfl, (below_alloc (Below.refl _ _) _).trans (hb.mono (by simp))⟩
theorem nums_lit (W : World) (l : List Int) (cs : Array Value) (hcs : cs = (l.map (Value.int .i64)).toArray) (m : Nat) (hm : m = l.length) (r : List Int) (hl : l.length ≤ 1000) (hf : wire_Nums.f [] l = some (r, 0)) :
    Calls Try.prog 22 #[.slice none 0 0, .slice (some ⟨W.heap.size, 0, none⟩) m m] (W.alloc (.cells cs 3)) fun e w' => ∃ A c, e = .returned (.tuple #[.slice A r.length c, .int .i64 0]) ∧ r.length ≤ c ∧ Kd.C (Kd.int .u8) w' A r.length r ∧ Below W.heap.size W w' := by
  subst hm
  refine (wire_Nums.calls none 0 [] _ l.length l r 0 _ (Kd.C_nil _ _) (Nat.le_refl _) (C_lit .i64 W l cs 3 (0, 0) hcs _ rfl (by omega)) (Nat.le_refl _) hf).mono ?_
  rintro e w' ⟨v, rfl, hr, hb⟩
  obtain ⟨A, c, rfl, hc, hC⟩ := Kd.R_reads hr
  exact ⟨A, c, rfl, hc, hC, (below_alloc (Below.refl _ _) _).trans (hb.mono (by simp))⟩
theorem text_lit (W : World) (s : ByteArray) (r : List Int) (hf : wire_Text.f [] s = some (r, 0)) :
    Calls Try.prog 20 #[.slice none 0 0, .string s] W fun e w' => ∃ A c, e = .returned (.tuple #[.slice A r.length c, .int .i64 0]) ∧ r.length ≤ c ∧ Kd.C (Kd.int .u8) w' A r.length r ∧ Below W.heap.size W w' := by
  refine (wire_Text.calls none 0 [] s r 0 _ (Kd.C_nil _ _) (Nat.le_refl _) hf).mono ?_
  rintro e w' ⟨v, rfl, hr, hb⟩
  obtain ⟨A, c, rfl, hc, hC⟩ := Kd.R_reads hr
  exact ⟨A, c, rfl, hc, hC, hb⟩
theorem eq_lit (W : World) (A : Option Addr) (c : Nat) (l : List Int) (cs : Array Value) (hcs : cs = (l.map (Value.int .u8)).toArray) (m : Nat) (hm : m = l.length) (hl : l.length ≤ 1000) (hc : l.length ≤ c) (hC : Kd.C (Kd.int .u8) W A l.length l) :
    Calls Try.prog 13 #[.slice A m c, .slice (some ⟨W.heap.size, 0, none⟩) m m] (W.alloc (.cells cs 5)) fun e w' => e = .returned (.bool true) ∧ Below W.heap.size W w' := by
  subst hm
  refine (armillaryref00_EqBytes.calls A c l _ l.length l true _ (Kd.C_alloc hC _) hc (C_lit .u8 W l cs 5 (0, 0) hcs _ rfl (by omega)) (Nat.le_refl _) (by unfold armillaryref00_EqBytes.f; simp)).mono ?_
  rintro e w' ⟨rfl, hb⟩
  exact ⟨rfl, (below_alloc (Below.refl _ _) _).trans (hb.below.mono (by simp))⟩
theorem num_nil (W : World) (n : Int) (hf : dig [] n = ([], 9)) :
    Calls Try.prog 17 #[.slice none 0 0, .int .i64 n] W fun e w' => ∃ v, e = .returned (.tuple #[v, .int .i64 9]) ∧ Below W.heap.size W w' := by
  have := num_own none 0 [] n W (Kd.C_nil _ _) (Nat.le_refl _) (by decide)
  rw [hf] at this
  refine this.mono ?_
  rintro e w' ⟨v, rfl, hr, hb⟩
  exact ⟨v, rfl, hb⟩
theorem c1 (W : World) : Calls Try.prog 41 #[.int .i64 0, .slice (some ⟨W.heap.size, 0, none⟩) 1 1] (W.alloc (.cells #[.int .u8 0] 5)) fun e w' => e = .returned (.bool true) ∧ Below W.heap.size W w' :=
  num_lit W 0 [0] _ rfl _ rfl n0
theorem c2 (W : World) : Calls Try.prog 41 #[.int .i64 127, .slice (some ⟨W.heap.size, 0, none⟩) 1 1] (W.alloc (.cells #[.int .u8 127] 5)) fun e w' => e = .returned (.bool true) ∧ Below W.heap.size W w' :=
  num_lit W 127 [127] _ rfl _ rfl n1
theorem c3 (W : World) : Calls Try.prog 41 #[.int .i64 128, .slice (some ⟨W.heap.size, 0, none⟩) 2 2] (W.alloc (.cells #[.int .u8 128, .int .u8 1] 5)) fun e w' => e = .returned (.bool true) ∧ Below W.heap.size W w' :=
  num_lit W 128 [128, 1] _ rfl _ rfl n2
theorem c4 (W : World) : Calls Try.prog 41 #[.int .i64 300, .slice (some ⟨W.heap.size, 0, none⟩) 2 2] (W.alloc (.cells #[.int .u8 172, .int .u8 2] 5)) fun e w' => e = .returned (.bool true) ∧ Below W.heap.size W w' :=
  num_lit W 300 [172, 2] _ rfl _ rfl n3
theorem c5 (W : World) : Calls Try.prog 41 #[.int .i64 9007199254740991, .slice (some ⟨W.heap.size, 0, none⟩) 8 8] (W.alloc (.cells #[.int .u8 255, .int .u8 255, .int .u8 255, .int .u8 255, .int .u8 255, .int .u8 255, .int .u8 255, .int .u8 15] 5)) fun e w' => e = .returned (.bool true) ∧ Below W.heap.size W w' :=
  num_lit W 9007199254740991 [255, 255, 255, 255, 255, 255, 255, 15] _ rfl _ rfl n4
theorem c6 (W : World) : Calls Try.prog 41 #[.int .i64 129, .slice (some ⟨W.heap.size, 0, none⟩) 2 2] (W.alloc (.cells #[.int .u8 129, .int .u8 1] 5)) fun e w' => e = .returned (.bool true) ∧ Below W.heap.size W w' :=
  num_lit W 129 [129, 1] _ rfl _ rfl n5
theorem c7 (W : World) : Calls Try.prog 42 #[.int .i64 3, .slice (some ⟨W.heap.size, 0, none⟩) 1 1] (W.alloc (.cells #[.int .u8 128] 5)) fun e w' => e = .returned (.bool true) ∧ Below W.heap.size W w' :=
  fails_lit W 3 [128] _ rfl _ rfl f0
theorem c8 (W : World) : Calls Try.prog 42 #[.int .i64 4, .slice (some ⟨W.heap.size, 0, none⟩) 2 2] (W.alloc (.cells #[.int .u8 128, .int .u8 0] 5)) fun e w' => e = .returned (.bool true) ∧ Below W.heap.size W w' :=
  fails_lit W 4 [128, 0] _ rfl _ rfl f1
theorem c9 (W : World) : Calls Try.prog 42 #[.int .i64 4, .slice (some ⟨W.heap.size, 0, none⟩) 8 8] (W.alloc (.cells #[.int .u8 255, .int .u8 255, .int .u8 255, .int .u8 255, .int .u8 255, .int .u8 255, .int .u8 255, .int .u8 32] 5)) fun e w' => e = .returned (.bool true) ∧ Below W.heap.size W w' :=
  fails_lit W 4 [255, 255, 255, 255, 255, 255, 255, 32] _ rfl _ rfl f2
theorem c10 (W : World) : Calls Try.prog 11 #[.slice (some ⟨W.heap.size, 0, none⟩) 9 9] (W.alloc (.cells #[.int .u8 49, .int .u8 50, .int .u8 51, .int .u8 52, .int .u8 53, .int .u8 54, .int .u8 55, .int .u8 56, .int .u8 57] 5 (9, 10))) fun e w' => e = .returned (.int .i64 3421780262) ∧ Below W.heap.size W w' :=
  sum_lit W [49, 50, 51, 52, 53, 54, 55, 56, 57] _ _ rfl _ rfl _ (by decide) s0
theorem c11 (W : World) : Calls Try.prog 11 #[.slice none 0 0] W fun e w' => e = .returned (.int .i64 0) ∧ Below W.heap.size W w' :=
  wire_Sum.calls none 0 [] 0 W (Kd.C_nil _ _) (Nat.le_refl _) s1
theorem c12 (W : World) : Calls Try.prog 11 #[.slice (some ⟨W.heap.size, 0, none⟩) 1 1] (W.alloc (.cells #[.int .u8 0] 5)) fun e w' => e = .returned (.int .i64 3523407757) ∧ Below W.heap.size W w' :=
  sum_lit W [0] _ _ rfl _ rfl _ (by decide) s2
theorem c13 (W : World) : Calls Try.prog 17 #[.slice none 0 0, .int .i64 (-1)] W fun e w' => ∃ v, e = .returned (.tuple #[v, .int .i64 9]) ∧ Below W.heap.size W w' :=
  num_nil W _ d0
theorem c14 (W : World) : Calls Try.prog 17 #[.slice none 0 0, .int .i64 9007199254740992] W fun e w' => ∃ v, e = .returned (.tuple #[v, .int .i64 9]) ∧ Below W.heap.size W w' :=
  num_nil W _ d1
theorem c15 (W : World) : Calls Try.prog 20 #[.slice none 0 0, .string ⟨#[97, 98]⟩] W fun e w' => ∃ A c, e = .returned (.tuple #[.slice A 3 c, .int .i64 0]) ∧ 3 ≤ c ∧ Kd.C (Kd.int .u8) w' A 3 [2, 97, 98] ∧ Below W.heap.size W w' :=
  text_lit W _ [2, 97, 98] t0
theorem c16 (W : World) : Calls Try.prog 22 #[.slice none 0 0, .slice (some ⟨W.heap.size, 0, none⟩) 2 2] (W.alloc (.cells #[.int .i64 1, .int .i64 200] 3)) fun e w' => ∃ A c, e = .returned (.tuple #[.slice A 4 c, .int .i64 0]) ∧ 4 ≤ c ∧ Kd.C (Kd.int .u8) w' A 4 [2, 1, 200, 1] ∧ Below W.heap.size W w' :=
  nums_lit W [1, 200] _ rfl _ rfl [2, 1, 200, 1] (by decide) m0
theorem c17 (W : World) (A : Option Addr) (c : Nat) (hc : 3 ≤ c) (hC : Kd.C (Kd.int .u8) W A 3 [2, 97, 98]) : Calls Try.prog 13 #[.slice A 3 c, .slice (some ⟨W.heap.size, 0, none⟩) 3 3] (W.alloc (.cells #[.int .u8 2, .int .u8 97, .int .u8 98] 5)) fun e w' => e = .returned (.bool true) ∧ Below W.heap.size W w' :=
  eq_lit W A c [2, 97, 98] _ rfl _ rfl (by decide) hc hC
theorem c18 (W : World) (A : Option Addr) (c : Nat) (hc : 4 ≤ c) (hC : Kd.C (Kd.int .u8) W A 4 [2, 1, 200, 1]) : Calls Try.prog 13 #[.slice A 4 c, .slice (some ⟨W.heap.size, 0, none⟩) 4 4] (W.alloc (.cells #[.int .u8 2, .int .u8 1, .int .u8 200, .int .u8 1] 5)) fun e w' => e = .returned (.bool true) ∧ Below W.heap.size W w' :=
  eq_lit W A c [2, 1, 200, 1] _ rfl _ rfl (by decide) hc hC
set_option maxHeartbeats 8000000 in
set_option maxRecDepth 100000 in
theorem works_true (w : World) : Calls Try.prog 14 #[] w fun e w' => e = .returned (.bool true) ∧ Below w.heap.size w w' := by
  have HB := Aside0.mk (Below.refl w.heap.size w)
  have kc := fun (w : World) (C : Array Value) (n c : Nat) => Lib.run_convert_bytes_const (P := Try.prog) w 22 5 C n c Try.underlying22 Try.underlying5
  go_enter Try.func14, Try.ntmps14
  go_wp2_with (first | (go_at_call 41; (with_reducible refine (c1 _).mono ?_); rintro e w' ⟨rfl, hb⟩; have nb_ := Aside0.mk (below_then (by repeat (first | (with_reducible first | exact HB.out | apply below_alloc | apply pw_below_drewN | apply below_drew1) | exact HB.out)) (below_size (by repeat (first | (with_reducible first | exact HB.out | apply below_alloc | apply pw_below_drewN | apply below_drew1) | exact HB.out))) hb); clear HB hb; have HB := nb_; clear nb_) | (go_at_call 41; (with_reducible refine (c2 _).mono ?_); rintro e w' ⟨rfl, hb⟩; have nb_ := Aside0.mk (below_then (by repeat (first | (with_reducible first | exact HB.out | apply below_alloc | apply pw_below_drewN | apply below_drew1) | exact HB.out)) (below_size (by repeat (first | (with_reducible first | exact HB.out | apply below_alloc | apply pw_below_drewN | apply below_drew1) | exact HB.out))) hb); clear HB hb; have HB := nb_; clear nb_) | (go_at_call 41; (with_reducible refine (c3 _).mono ?_); rintro e w' ⟨rfl, hb⟩; have nb_ := Aside0.mk (below_then (by repeat (first | (with_reducible first | exact HB.out | apply below_alloc | apply pw_below_drewN | apply below_drew1) | exact HB.out)) (below_size (by repeat (first | (with_reducible first | exact HB.out | apply below_alloc | apply pw_below_drewN | apply below_drew1) | exact HB.out))) hb); clear HB hb; have HB := nb_; clear nb_) | (go_at_call 41; (with_reducible refine (c4 _).mono ?_); rintro e w' ⟨rfl, hb⟩; have nb_ := Aside0.mk (below_then (by repeat (first | (with_reducible first | exact HB.out | apply below_alloc | apply pw_below_drewN | apply below_drew1) | exact HB.out)) (below_size (by repeat (first | (with_reducible first | exact HB.out | apply below_alloc | apply pw_below_drewN | apply below_drew1) | exact HB.out))) hb); clear HB hb; have HB := nb_; clear nb_) | (go_at_call 41; (with_reducible refine (c5 _).mono ?_); rintro e w' ⟨rfl, hb⟩; have nb_ := Aside0.mk (below_then (by repeat (first | (with_reducible first | exact HB.out | apply below_alloc | apply pw_below_drewN | apply below_drew1) | exact HB.out)) (below_size (by repeat (first | (with_reducible first | exact HB.out | apply below_alloc | apply pw_below_drewN | apply below_drew1) | exact HB.out))) hb); clear HB hb; have HB := nb_; clear nb_) | (go_at_call 41; (with_reducible refine (c6 _).mono ?_); rintro e w' ⟨rfl, hb⟩; have nb_ := Aside0.mk (below_then (by repeat (first | (with_reducible first | exact HB.out | apply below_alloc | apply pw_below_drewN | apply below_drew1) | exact HB.out)) (below_size (by repeat (first | (with_reducible first | exact HB.out | apply below_alloc | apply pw_below_drewN | apply below_drew1) | exact HB.out))) hb); have nHS_ := Aside0.mk (Kd.C_below (by repeat (first | (with_reducible exact HS.out) | (with_reducible refine Kd.C_alloc ?_ _) | exact HS.out)) hb); have nHT_ := Aside0.mk (Kd.C_below (by repeat (first | (with_reducible exact HT.out) | (with_reducible refine Kd.C_alloc ?_ _) | exact HT.out)) hb); clear HB hb; have HB := nb_; clear nb_; clear HS; have HS := nHS_; clear nHS_; clear HT; have HT := nHT_; clear nHT_) | (go_at_call 42; (with_reducible refine (c7 _).mono ?_); rintro e w' ⟨rfl, hb⟩; have nb_ := Aside0.mk (below_then (by repeat (first | (with_reducible first | exact HB.out | apply below_alloc | apply pw_below_drewN | apply below_drew1) | exact HB.out)) (below_size (by repeat (first | (with_reducible first | exact HB.out | apply below_alloc | apply pw_below_drewN | apply below_drew1) | exact HB.out))) hb); have nHS_ := Aside0.mk (Kd.C_below (by repeat (first | (with_reducible exact HS.out) | (with_reducible refine Kd.C_alloc ?_ _) | exact HS.out)) hb); have nHT_ := Aside0.mk (Kd.C_below (by repeat (first | (with_reducible exact HT.out) | (with_reducible refine Kd.C_alloc ?_ _) | exact HT.out)) hb); clear HB hb; have HB := nb_; clear nb_; clear HS; have HS := nHS_; clear nHS_; clear HT; have HT := nHT_; clear nHT_) | (go_at_call 42; (with_reducible refine (c8 _).mono ?_); rintro e w' ⟨rfl, hb⟩; have nb_ := Aside0.mk (below_then (by repeat (first | (with_reducible first | exact HB.out | apply below_alloc | apply pw_below_drewN | apply below_drew1) | exact HB.out)) (below_size (by repeat (first | (with_reducible first | exact HB.out | apply below_alloc | apply pw_below_drewN | apply below_drew1) | exact HB.out))) hb); have nHS_ := Aside0.mk (Kd.C_below (by repeat (first | (with_reducible exact HS.out) | (with_reducible refine Kd.C_alloc ?_ _) | exact HS.out)) hb); have nHT_ := Aside0.mk (Kd.C_below (by repeat (first | (with_reducible exact HT.out) | (with_reducible refine Kd.C_alloc ?_ _) | exact HT.out)) hb); clear HB hb; have HB := nb_; clear nb_; clear HS; have HS := nHS_; clear nHS_; clear HT; have HT := nHT_; clear nHT_) | (go_at_call 42; (with_reducible refine (c9 _).mono ?_); rintro e w' ⟨rfl, hb⟩; have nb_ := Aside0.mk (below_then (by repeat (first | (with_reducible first | exact HB.out | apply below_alloc | apply pw_below_drewN | apply below_drew1) | exact HB.out)) (below_size (by repeat (first | (with_reducible first | exact HB.out | apply below_alloc | apply pw_below_drewN | apply below_drew1) | exact HB.out))) hb); have nHS_ := Aside0.mk (Kd.C_below (by repeat (first | (with_reducible exact HS.out) | (with_reducible refine Kd.C_alloc ?_ _) | exact HS.out)) hb); have nHT_ := Aside0.mk (Kd.C_below (by repeat (first | (with_reducible exact HT.out) | (with_reducible refine Kd.C_alloc ?_ _) | exact HT.out)) hb); clear HB hb; have HB := nb_; clear nb_; clear HS; have HS := nHS_; clear nHS_; clear HT; have HT := nHT_; clear nHT_) | (go_at_call 11; (with_reducible refine (c10 _).mono ?_); rintro e w' ⟨rfl, hb⟩; have nb_ := Aside0.mk (below_then (by repeat (first | (with_reducible first | exact HB.out | apply below_alloc | apply pw_below_drewN | apply below_drew1) | exact HB.out)) (below_size (by repeat (first | (with_reducible first | exact HB.out | apply below_alloc | apply pw_below_drewN | apply below_drew1) | exact HB.out))) hb); clear HB hb; have HB := nb_; clear nb_) | (go_at_call 11; (with_reducible refine (c11 _).mono ?_); rintro e w' ⟨rfl, hb⟩; have nb_ := Aside0.mk (below_then (by repeat (first | (with_reducible first | exact HB.out | apply below_alloc | apply pw_below_drewN | apply below_drew1) | exact HB.out)) (below_size (by repeat (first | (with_reducible first | exact HB.out | apply below_alloc | apply pw_below_drewN | apply below_drew1) | exact HB.out))) hb); clear HB hb; have HB := nb_; clear nb_) | (go_at_call 11; (with_reducible refine (c12 _).mono ?_); rintro e w' ⟨rfl, hb⟩; have nb_ := Aside0.mk (below_then (by repeat (first | (with_reducible first | exact HB.out | apply below_alloc | apply pw_below_drewN | apply below_drew1) | exact HB.out)) (below_size (by repeat (first | (with_reducible first | exact HB.out | apply below_alloc | apply pw_below_drewN | apply below_drew1) | exact HB.out))) hb); clear HB hb; have HB := nb_; clear nb_) | (go_at_call 17; (with_reducible refine (c13 _).mono ?_); rintro e w' ⟨va, rfl, hb⟩; have nb_ := Aside0.mk (below_then (by repeat (first | (with_reducible first | exact HB.out | apply below_alloc | apply pw_below_drewN | apply below_drew1) | exact HB.out)) (below_size (by repeat (first | (with_reducible first | exact HB.out | apply below_alloc | apply pw_below_drewN | apply below_drew1) | exact HB.out))) hb); clear HB hb; have HB := nb_; clear nb_) | (go_at_call 17; (with_reducible refine (c14 _).mono ?_); rintro e w' ⟨vb, rfl, hb⟩; have nb_ := Aside0.mk (below_then (by repeat (first | (with_reducible first | exact HB.out | apply below_alloc | apply pw_below_drewN | apply below_drew1) | exact HB.out)) (below_size (by repeat (first | (with_reducible first | exact HB.out | apply below_alloc | apply pw_below_drewN | apply below_drew1) | exact HB.out))) hb); clear HB hb; have HB := nb_; clear nb_) | (go_at_call 20; (with_reducible refine (c15 _).mono ?_); rintro e w' ⟨AS, cS, rfl, hcS, hS, hb⟩; have HS := Aside0.mk hS; have HcS := Aside0.mk hcS; clear hS hcS; have nb_ := Aside0.mk (below_then (by repeat (first | (with_reducible first | exact HB.out | apply below_alloc | apply pw_below_drewN | apply below_drew1) | exact HB.out)) (below_size (by repeat (first | (with_reducible first | exact HB.out | apply below_alloc | apply pw_below_drewN | apply below_drew1) | exact HB.out))) hb); clear HB hb; have HB := nb_; clear nb_) | (go_at_call 22; (with_reducible refine (c16 _).mono ?_); rintro e w' ⟨AT, cT, rfl, hcT, hT, hb⟩; have HT := Aside0.mk hT; have HcT := Aside0.mk hcT; clear hT hcT; have nb_ := Aside0.mk (below_then (by repeat (first | (with_reducible first | exact HB.out | apply below_alloc | apply pw_below_drewN | apply below_drew1) | exact HB.out)) (below_size (by repeat (first | (with_reducible first | exact HB.out | apply below_alloc | apply pw_below_drewN | apply below_drew1) | exact HB.out))) hb); have nHS_ := Aside0.mk (Kd.C_below (by repeat (first | (with_reducible exact HS.out) | (with_reducible refine Kd.C_alloc ?_ _) | exact HS.out)) hb); clear HB hb; have HB := nb_; clear nb_; clear HS; have HS := nHS_; clear nHS_) | (go_at_call 13; (with_reducible refine (c17 _ _ _ HcS.out HS.out).mono ?_); rintro e w' ⟨rfl, hb⟩; have nb_ := Aside0.mk (below_then (by repeat (first | (with_reducible first | exact HB.out | apply below_alloc | apply pw_below_drewN | apply below_drew1) | exact HB.out)) (below_size (by repeat (first | (with_reducible first | exact HB.out | apply below_alloc | apply pw_below_drewN | apply below_drew1) | exact HB.out))) hb); have nHS_ := Aside0.mk (Kd.C_below (by repeat (first | (with_reducible exact HS.out) | (with_reducible refine Kd.C_alloc ?_ _) | exact HS.out)) hb); have nHT_ := Aside0.mk (Kd.C_below (by repeat (first | (with_reducible exact HT.out) | (with_reducible refine Kd.C_alloc ?_ _) | exact HT.out)) hb); clear HB hb; have HB := nb_; clear nb_; clear HS; have HS := nHS_; clear nHS_; clear HT; have HT := nHT_; clear nHT_) | (go_at_call 13; (with_reducible refine (c18 _ _ _ HcT.out HT.out).mono ?_); rintro e w' ⟨rfl, hb⟩; have nb_ := Aside0.mk (below_then (by repeat (first | (with_reducible first | exact HB.out | apply below_alloc | apply pw_below_drewN | apply below_drew1) | exact HB.out)) (below_size (by repeat (first | (with_reducible first | exact HB.out | apply below_alloc | apply pw_below_drewN | apply below_drew1) | exact HB.out))) hb); have nHS_ := Aside0.mk (Kd.C_below (by repeat (first | (with_reducible exact HS.out) | (with_reducible refine Kd.C_alloc ?_ _) | exact HS.out)) hb); have nHT_ := Aside0.mk (Kd.C_below (by repeat (first | (with_reducible exact HT.out) | (with_reducible refine Kd.C_alloc ?_ _) | exact HT.out)) hb); clear HB hb; have HB := nb_; clear nb_; clear HS; have HS := nHS_; clear nHS_; clear HT; have HT := nHT_; clear nHT_))
  go_ret
  exact ⟨rfl, HB.out⟩
def armillarylaw01_works.f : Option Bool := some true
theorem armillarylaw01_works.calls (r : Bool) (w : World) (h : armillarylaw01_works.f = some r) : Calls Try.prog 14 #[] w fun e w' => e = .returned (.bool r) ∧ Below w.heap.size w w' := by
  obtain rfl := Option.some.inj h
  exact works_true w
end Go.Proofs.Ytcpnjlagmnlecaa.B2


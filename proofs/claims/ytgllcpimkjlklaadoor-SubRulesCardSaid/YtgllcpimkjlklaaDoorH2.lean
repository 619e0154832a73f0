/- one and holds (the second): printed by the kit's printer (hyb.py). -/
import Derived.Test.YtgllcpimkjlklaaDoorProg
import Derived.Below
import Derived.Deep.Draws
import Derived.Deep.AppendLies
import Derived.Maps.AppendAt
import Derived.OwnWalk
import Derived.Laws.BytesArg
import Derived.Laws.MakeOwn
import Derived.Laws.OwnMore
import Derived.Deep.OwnRows
import Derived.Tactics
import Derived.Lib.ConvBytes
import Derived.Laws.Slices
import Derived.WalkKit
import Derived.KernelRfl
import Derived.RowKit3
import Derived.Deep.LoopGhost
import Derived.Deep.QuietTactic
import Derived.BigQuiet
import Derived.WideLaws
import Derived.Deep.DeepCutAuto
import Derived.Deep.CutBlock
import Derived.Deep.RegionHeld3
import Derived.Laws.Rows
import Derived.Lib.AppendStr
import Derived.ArgAppend
import Derived.Laws.IdiomCopy
import Derived.OrdersHeld
import Derived.Laws.BitsLemmas
import Derived.RowKit
import Derived.WalkSpells
import Derived.Laws.CopyOwn
import Derived.Test.YtgllcpimkjlklaaDoorWWords
import Derived.Test.YtgllcpimkjlklaaDoorWLast
import Derived.Test.YtgllcpimkjlklaaDoorK0
import Derived.Test.YtgllcpimkjlklaaDoorWTab
import Derived.Test.YtgllcpimkjlklaaDoorH1
namespace Go.Proofs.YtgllcpimkjlklaaDoor.P
open Go.RowKit Go.Proofs.YtgllcpimkjlklaaDoorW.PrintWords Go.Proofs.YtgllcpimkjlklaaDoorW.PrintLast Go.Proofs.YtgllcpimkjlklaaDoorW.PrintMore Go.Proofs.YtgllcpimkjlklaaDoor.M0
attribute [local go_sem] max2_int min2_int max_two min_two
set_option linter.unusedVariables false
set_option linter.unusedSimpArgs false
/-! ### armillarylaw08_holds: function 30 -/
mutual
def armillarylaw08_holds.l0 : Nat → List (S37) → List (List Bool) → Int → Bool → List Int → List Int → Int → Option (Bool)
  | 0, _, _, _, _, _, _, _ => none
  | k + 1, x0, x1, x3, x4, x11, x12, x13 => if x13 < (x12.length : Int) then (if 0 ≤ x13 then (if (rd x12 x13) < 0 then (some false) else (if (rd x12 x13) ≥ (x0.length : Int) then (some false) else (armillarylaw08_holds.l0 k x0 x1 x3 x4 x11 x12 (wrap64 (x13 + 1))))) else (none)) else (armillarylaw08_holds.l1 k x0 x1 x3 x4 x11 x12 0)
def armillarylaw08_holds.l1 : Nat → List (S37) → List (List Bool) → Int → Bool → List Int → List Int → Int → Option (Bool)
  | 0, _, _, _, _, _, _, _ => none
  | k + 1, x0, x1, x3, x4, x11, x12, x14 => if x14 < (x11.length : Int) then (if 0 ≤ x14 then (if (rd x11 x14) < 0 then (armillarylaw08_holds.j2 k x0 x1 x3 x4 x11 x12 x14 true) else (armillarylaw08_holds.j2 k x0 x1 x3 x4 x11 x12 x14 (decide ((rd x11 x14) ≥ (x0.length : Int))))) else (none)) else (some true)
def armillarylaw08_holds.j2 : Nat → List (S37) → List (List Bool) → Int → Bool → List Int → List Int → Int → Bool → Option (Bool)
  | 0, _, _, _, _, _, _, _, _ => none
  | k + 1, x0, x1, x3, x4, x11, x12, x14, x63 => if x63 = true then (some false) else (if 0 ≤ x14 then (if x14 < (x11.length : Int) then (if 0 ≤ (rd x11 x14) then (if (rd x11 x14) < (x0.length : Int) then (if ((rd_T37 x0 (rd x11 x14)).f0) = 9 then (if 0 < (((rd_T37 x0 (rd x11 x14)).f4).length : Int) then (if 0 ≤ (rd ((rd_T37 x0 (rd x11 x14)).f4) 0) then (if (rd ((rd_T37 x0 (rd x11 x14)).f4) 0) < (x1.length : Int) then (if 0 ≤ x3 then (if x3 < ((rd_L6 x1 (rd ((rd_T37 x0 (rd x11 x14)).f4) 0)).length : Int) then (armillarylaw08_holds.j3 k x0 x1 x3 x4 x11 x12 x14 (rdOf false (rd_L6 x1 (rd ((rd_T37 x0 (rd x11 x14)).f4) 0)) x3) ((rd_T37 x0 (rd x11 x14)).f0) ((rd_T37 x0 (rd x11 x14)).f1) ((rd_T37 x0 (rd x11 x14)).f2) ((rd_T37 x0 (rd x11 x14)).f3) ((rd_T37 x0 (rd x11 x14)).f4)) else (none)) else (none)) else (none)) else (none)) else (none)) else (armillarylaw08_holds.j3 k x0 x1 x3 x4 x11 x12 x14 false ((rd_T37 x0 (rd x11 x14)).f0) ((rd_T37 x0 (rd x11 x14)).f1) ((rd_T37 x0 (rd x11 x14)).f2) ((rd_T37 x0 (rd x11 x14)).f3) ((rd_T37 x0 (rd x11 x14)).f4))) else (none)) else (none)) else (none)) else (none))
def armillarylaw08_holds.j3 : Nat → List (S37) → List (List Bool) → Int → Bool → List Int → List Int → Int → Bool → Int → Int → ByteArray → List ByteArray → List Int → Option (Bool)
  | 0, _, _, _, _, _, _, _, _, _, _, _, _, _ => none
  | k + 1, x0, x1, x3, x4, x11, x12, x14, x16, x244000, x244001, x244002, x244003, x244004 => armillarylaw08_holds.l2 k x0 x1 x3 x4 x11 x12 x14 x16 0 x244000 x244001 x244002 x244003 x244004
def armillarylaw08_holds.l2 : Nat → List (S37) → List (List Bool) → Int → Bool → List Int → List Int → Int → Bool → Int → Int → Int → ByteArray → List ByteArray → List Int → Option (Bool)
  | 0, _, _, _, _, _, _, _, _, _, _, _, _, _, _ => none
  | k + 1, x0, x1, x3, x4, x11, x12, x14, x16, x17, x244000, x244001, x244002, x244003, x244004 => if x17 < (x12.length : Int) then (if x16 = true then (armillarylaw08_holds.l2 k x0 x1 x3 x4 x11 x12 x14 true (wrap64 (x17 + 1)) x244000 x244001 x244002 x244003 x244004) else (if 0 ≤ x17 then (if 0 ≤ (rd x12 x17) then (if (rd x12 x17) < (x0.length : Int) then ((armillarylaw08_one.f k x244000 x244001 x244002 x244003 x244004 ((rd_T37 x0 (rd x12 x17)).f0) ((rd_T37 x0 (rd x12 x17)).f1) ((rd_T37 x0 (rd x12 x17)).f2) ((rd_T37 x0 (rd x12 x17)).f3) ((rd_T37 x0 (rd x12 x17)).f4) x1 x4).bind fun t249 => (armillarylaw08_holds.l2 k x0 x1 x3 x4 x11 x12 x14 t249 (wrap64 (x17 + 1)) x244000 x244001 x244002 x244003 x244004)) else (none)) else (none)) else (none))) else (if x16 = true then (armillarylaw08_holds.l1 k x0 x1 x3 x4 x11 x12 (wrap64 (x14 + 1))) else (some false))
end
def armillarylaw08_holds.f (k : Nat) (l0 : List (S37)) (l1 : List (List Bool)) (a2 : Int) (a3 : Int) (a4 : Bool) : Option (Bool) := (members.f l0 a2).bind fun t231 => ((members.f l0 a3).bind fun t234 => (armillarylaw08_holds.l0 k l0 l1 a3 a4 t231 t234 0))
theorem armillarylaw08_holds.mono_l : ∀ k, (∀ y0 y1 y2 y3 y4 y5 y6, LeO (armillarylaw08_holds.l0 k y0 y1 y2 y3 y4 y5 y6) (armillarylaw08_holds.l0 (k + 1) y0 y1 y2 y3 y4 y5 y6)) ∧ (∀ y0 y1 y2 y3 y4 y5 y6, LeO (armillarylaw08_holds.l1 k y0 y1 y2 y3 y4 y5 y6) (armillarylaw08_holds.l1 (k + 1) y0 y1 y2 y3 y4 y5 y6)) ∧ (∀ y0 y1 y2 y3 y4 y5 y6 y7, LeO (armillarylaw08_holds.j2 k y0 y1 y2 y3 y4 y5 y6 y7) (armillarylaw08_holds.j2 (k + 1) y0 y1 y2 y3 y4 y5 y6 y7)) ∧ (∀ y0 y1 y2 y3 y4 y5 y6 y7 y8 y9 y10 y11 y12, LeO (armillarylaw08_holds.j3 k y0 y1 y2 y3 y4 y5 y6 y7 y8 y9 y10 y11 y12) (armillarylaw08_holds.j3 (k + 1) y0 y1 y2 y3 y4 y5 y6 y7 y8 y9 y10 y11 y12)) ∧ (∀ y0 y1 y2 y3 y4 y5 y6 y7 y8 y9 y10 y11 y12 y13, LeO (armillarylaw08_holds.l2 k y0 y1 y2 y3 y4 y5 y6 y7 y8 y9 y10 y11 y12 y13) (armillarylaw08_holds.l2 (k + 1) y0 y1 y2 y3 y4 y5 y6 y7 y8 y9 y10 y11 y12 y13))
  | 0 => ⟨fun _ _ _ _ _ _ _ r h => by simp [armillarylaw08_holds.l0] at h, fun _ _ _ _ _ _ _ r h => by simp [armillarylaw08_holds.l1] at h, fun _ _ _ _ _ _ _ _ r h => by simp [armillarylaw08_holds.j2] at h, fun _ _ _ _ _ _ _ _ _ _ _ _ _ r h => by simp [armillarylaw08_holds.j3] at h, fun _ _ _ _ _ _ _ _ _ _ _ _ _ _ r h => by simp [armillarylaw08_holds.l2] at h⟩
  | k + 1 => by
    obtain ⟨ih0, ih1, ih2, ih3, ih4⟩ := armillarylaw08_holds.mono_l k
    refine ⟨?_, ?_, ?_, ?_, ?_⟩
    · intro y0 y1 y2 y3 y4 y5 y6
      unfold armillarylaw08_holds.l0
      repeat' first
      | (with_reducible exact ih0 _ _ _ _ _ _ _)
      | (with_reducible exact ih1 _ _ _ _ _ _ _)
      | (with_reducible exact ih2 _ _ _ _ _ _ _ _)
      | (with_reducible exact ih3 _ _ _ _ _ _ _ _ _ _ _ _ _)
      | (with_reducible exact ih4 _ _ _ _ _ _ _ _ _ _ _ _ _ _)
      | (with_reducible exact armillarylaw08_one.mono _ _ _ _ _ _ _ _ _ _ _ _ _)
      | (with_reducible exact LeO.refl _)
      | (with_reducible exact LeO.none _)
      | (with_reducible refine LeO.ite ?_ ?_)
      | (with_reducible refine LeO.bind ?_ (fun _ => ?_))
      | exact ih0 _ _ _ _ _ _ _
      | exact ih1 _ _ _ _ _ _ _
      | exact ih2 _ _ _ _ _ _ _ _
      | exact ih3 _ _ _ _ _ _ _ _ _ _ _ _ _
      | exact ih4 _ _ _ _ _ _ _ _ _ _ _ _ _ _
      | exact armillarylaw08_one.mono _ _ _ _ _ _ _ _ _ _ _ _ _
      | exact LeO.none _
      | refine LeO.ite ?_ ?_
      | refine LeO.bind ?_ (fun _ => ?_)
    · intro y0 y1 y2 y3 y4 y5 y6
      unfold armillarylaw08_holds.l1
      repeat' first
      | (with_reducible exact ih0 _ _ _ _ _ _ _)
      | (with_reducible exact ih1 _ _ _ _ _ _ _)
      | (with_reducible exact ih2 _ _ _ _ _ _ _ _)
      | (with_reducible exact ih3 _ _ _ _ _ _ _ _ _ _ _ _ _)
      | (with_reducible exact ih4 _ _ _ _ _ _ _ _ _ _ _ _ _ _)
      | (with_reducible exact armillarylaw08_one.mono _ _ _ _ _ _ _ _ _ _ _ _ _)
      | (with_reducible exact LeO.refl _)
      | (with_reducible exact LeO.none _)
      | (with_reducible refine LeO.ite ?_ ?_)
      | (with_reducible refine LeO.bind ?_ (fun _ => ?_))
      | exact ih0 _ _ _ _ _ _ _
      | exact ih1 _ _ _ _ _ _ _
      | exact ih2 _ _ _ _ _ _ _ _
      | exact ih3 _ _ _ _ _ _ _ _ _ _ _ _ _
      | exact ih4 _ _ _ _ _ _ _ _ _ _ _ _ _ _
      | exact armillarylaw08_one.mono _ _ _ _ _ _ _ _ _ _ _ _ _
      | exact LeO.none _
      | refine LeO.ite ?_ ?_
      | refine LeO.bind ?_ (fun _ => ?_)
    · intro y0 y1 y2 y3 y4 y5 y6 y7
      unfold armillarylaw08_holds.j2
      repeat' first
      | (with_reducible exact ih0 _ _ _ _ _ _ _)
      | (with_reducible exact ih1 _ _ _ _ _ _ _)
      | (with_reducible exact ih2 _ _ _ _ _ _ _ _)
      | (with_reducible exact ih3 _ _ _ _ _ _ _ _ _ _ _ _ _)
      | (with_reducible exact ih4 _ _ _ _ _ _ _ _ _ _ _ _ _ _)
      | (with_reducible exact armillarylaw08_one.mono _ _ _ _ _ _ _ _ _ _ _ _ _)
      | (with_reducible exact LeO.refl _)
      | (with_reducible exact LeO.none _)
      | (with_reducible refine LeO.ite ?_ ?_)
      | (with_reducible refine LeO.bind ?_ (fun _ => ?_))
      | exact ih0 _ _ _ _ _ _ _
      | exact ih1 _ _ _ _ _ _ _
      | exact ih2 _ _ _ _ _ _ _ _
      | exact ih3 _ _ _ _ _ _ _ _ _ _ _ _ _
      | exact ih4 _ _ _ _ _ _ _ _ _ _ _ _ _ _
      | exact armillarylaw08_one.mono _ _ _ _ _ _ _ _ _ _ _ _ _
      | exact LeO.none _
      | refine LeO.ite ?_ ?_
      | refine LeO.bind ?_ (fun _ => ?_)
    · intro y0 y1 y2 y3 y4 y5 y6 y7 y8 y9 y10 y11 y12
      unfold armillarylaw08_holds.j3
      repeat' first
      | (with_reducible exact ih0 _ _ _ _ _ _ _)
      | (with_reducible exact ih1 _ _ _ _ _ _ _)
      | (with_reducible exact ih2 _ _ _ _ _ _ _ _)
      | (with_reducible exact ih3 _ _ _ _ _ _ _ _ _ _ _ _ _)
      | (with_reducible exact ih4 _ _ _ _ _ _ _ _ _ _ _ _ _ _)
      | (with_reducible exact armillarylaw08_one.mono _ _ _ _ _ _ _ _ _ _ _ _ _)
      | (with_reducible exact LeO.refl _)
      | (with_reducible exact LeO.none _)
      | (with_reducible refine LeO.ite ?_ ?_)
      | (with_reducible refine LeO.bind ?_ (fun _ => ?_))
      | exact ih0 _ _ _ _ _ _ _
      | exact ih1 _ _ _ _ _ _ _
      | exact ih2 _ _ _ _ _ _ _ _
      | exact ih3 _ _ _ _ _ _ _ _ _ _ _ _ _
      | exact ih4 _ _ _ _ _ _ _ _ _ _ _ _ _ _
      | exact armillarylaw08_one.mono _ _ _ _ _ _ _ _ _ _ _ _ _
      | exact LeO.none _
      | refine LeO.ite ?_ ?_
      | refine LeO.bind ?_ (fun _ => ?_)
    · intro y0 y1 y2 y3 y4 y5 y6 y7 y8 y9 y10 y11 y12 y13
      unfold armillarylaw08_holds.l2
      repeat' first
      | (with_reducible exact ih0 _ _ _ _ _ _ _)
      | (with_reducible exact ih1 _ _ _ _ _ _ _)
      | (with_reducible exact ih2 _ _ _ _ _ _ _ _)
      | (with_reducible exact ih3 _ _ _ _ _ _ _ _ _ _ _ _ _)
      | (with_reducible exact ih4 _ _ _ _ _ _ _ _ _ _ _ _ _ _)
      | (with_reducible exact armillarylaw08_one.mono _ _ _ _ _ _ _ _ _ _ _ _ _)
      | (with_reducible exact LeO.refl _)
      | (with_reducible exact LeO.none _)
      | (with_reducible refine LeO.ite ?_ ?_)
      | (with_reducible refine LeO.bind ?_ (fun _ => ?_))
      | exact ih0 _ _ _ _ _ _ _
      | exact ih1 _ _ _ _ _ _ _
      | exact ih2 _ _ _ _ _ _ _ _
      | exact ih3 _ _ _ _ _ _ _ _ _ _ _ _ _
      | exact ih4 _ _ _ _ _ _ _ _ _ _ _ _ _ _
      | exact armillarylaw08_one.mono _ _ _ _ _ _ _ _ _ _ _ _ _
      | exact LeO.none _
      | refine LeO.ite ?_ ?_
      | refine LeO.bind ?_ (fun _ => ?_)
theorem armillarylaw08_holds.mono : ∀ a0 a1 a2 a3 a4 k, LeO (armillarylaw08_holds.f k a0 a1 a2 a3 a4) (armillarylaw08_holds.f (k + 1) a0 a1 a2 a3 a4) := by
  intro a0 a1 a2 a3 a4 k
  obtain ⟨ih0, ih1, ih2, ih3, ih4⟩ := armillarylaw08_holds.mono_l k
  unfold armillarylaw08_holds.f
  repeat' first
      | (with_reducible exact ih0 _ _ _ _ _ _ _)
      | (with_reducible exact ih1 _ _ _ _ _ _ _)
      | (with_reducible exact ih2 _ _ _ _ _ _ _ _)
      | (with_reducible exact ih3 _ _ _ _ _ _ _ _ _ _ _ _ _)
      | (with_reducible exact ih4 _ _ _ _ _ _ _ _ _ _ _ _ _ _)
      | (with_reducible exact armillarylaw08_one.mono _ _ _ _ _ _ _ _ _ _ _ _ _)
      | (with_reducible exact LeO.refl _)
      | (with_reducible exact LeO.none _)
      | (with_reducible refine LeO.ite ?_ ?_)
      | (with_reducible refine LeO.bind ?_ (fun _ => ?_))
      | exact ih0 _ _ _ _ _ _ _
      | exact ih1 _ _ _ _ _ _ _
      | exact ih2 _ _ _ _ _ _ _ _
      | exact ih3 _ _ _ _ _ _ _ _ _ _ _ _ _
      | exact ih4 _ _ _ _ _ _ _ _ _ _ _ _ _ _
      | exact armillarylaw08_one.mono _ _ _ _ _ _ _ _ _ _ _ _ _
      | exact LeO.none _
      | refine LeO.ite ?_ ?_
      | refine LeO.bind ?_ (fun _ => ?_)
def armillarylaw08_holds.T17 : Bool × List (List Nat × List Nat) := (true, [([], []), ([0], [0]), ([1], [1]), ([1], [1]), ([1], [1]), ([1], [1]), ([4, 5, 1], [1, 4, 5]), ([6, 1], [1, 6]), ([3, 7, 1], [1, 3, 7]), ([8, 1], [1, 8]), ([1], [1]), ([1], [1]), ([2, 9, 10, 11, 1, 1], [1, 2, 9, 10, 11]), ([1, 12], [1, 12]), ([13, 12, 0, 1, 2, 3, 4, 5, 6, 7, 8, 9, 10, 11, 12, 13], [0, 13])])
def armillarylaw08_holds.B17 : List Nat := [0, 1, 3, 3, 3, 3, 51, 115, 251, 507, 3, 3, 4095, 8191, 16383]
theorem armillarylaw08_holds.tab17 : rtab .any (opsOf Tryd.f30 17) = armillarylaw08_holds.T17 := by kernel_rfl
theorem armillarylaw08_holds.bits17 : waitsOk armillarylaw08_holds.T17.2 armillarylaw08_holds.B17 = true := by kernel_rfl
set_option maxHeartbeats 8000000 in
set_option maxRecDepth 100000 in
theorem armillarylaw08_holds.calls (k : Nat) (A0 : Option Addr) (c0 : Nat) (l0 : List (S37)) (A1 : Option Addr) (c1 : Nat) (l1 : List (List Bool)) (a2 : Int) (a3 : Int) (a4 : Bool) (r : Bool) (w : World) (hr0 : Kd.C k37 w A0 l0.length l0) (hc0 : l0.length ≤ c0) (hr1 : Kd.C (Kd.slice 4 Kd.bool) w A1 l1.length l1) (hc1 : l1.length ≤ c1) (h : armillarylaw08_holds.f k l0 l1 a2 a3 a4 = some r) :
    Calls Tryd.prog 30 #[.slice A0 l0.length c0, .slice A1 l1.length c1, .int .i64 a2, .int .i64 a3, .bool a4] w fun e w' => e = .returned (.bool r) ∧ Below w.heap.size w w' := by
  have hu37 := Tryd.underlying37
  have HR0 := Aside0.mk hr0
  have HC0 := Aside0.mk hc0
  clear hr0 hc0
  have HR1 := Aside0.mk hr1
  have HC1 := Aside0.mk hc1
  clear hr1 hc1
  have HB := Aside0.mk (Below.refl w.heap.size w)
  have H : ((members.f l0 a2).bind fun t231 => ((members.f l0 a3).bind fun t234 => (armillarylaw08_holds.l0 k l0 l1 a3 a4 t231 t234 0))) = some r := h
  clear h
  replace H := Option.bind_eq_some_iff.mp H
  obtain ⟨t231, A60, H⟩ := H
  replace H : ((members.f l0 a3).bind fun t234 => (armillarylaw08_holds.l0 k l0 l1 a3 a4 t231 t234 0)) = some r := H
  have A6 := Aside0.mk A60
  clear A60
  replace H := Option.bind_eq_some_iff.mp H
  obtain ⟨t234, A70, H⟩ := H
  replace H : (armillarylaw08_holds.l0 k l0 l1 a3 a4 t231 t234 0) = some r := H
  have A7 := Aside0.mk A70
  clear A70
  have H' := Aside0.mk H
  clear H
  go_enter Tryd.func30, Tryd.ntmps30
  go_wp2_with (first | ((with_reducible refine gate_callee (f := 18) rfl ?_); refine goesL_ (some 20) rfl rfl Tryd.func18 (by kernel_rfl) rfl #[.slice A0 l0.length c0, .int .i64 a2] rfl (by (try simp only [List.map_toArray, List.map_cons, List.map_nil]); first | done | rfl | (simp only [List.length_drop, List.length_take]; rfl)) ?_; (with_reducible refine (members.calls _ _ l0 a2 t231 _ ?side1 ?side2 A6.out).mono ?_); (case side1 => repeat (first | exact HR0.out | (with_reducible refine Kd.C_alloc ?_ _) | (with_reducible refine Kd.C_drewN ?_ _) | (with_reducible refine Kd.C_drew ?_))); (case side2 => exact HC0.out); rintro e w8 ⟨v232, rfl, ho0, hb⟩; refine ⟨_, rfl, ?_⟩; have n0_ := Aside0.mk (Kd.R_lower ho0 (below_size (by repeat (first | (with_reducible first | exact HB.out | apply below_alloc | apply pw_below_drewN | apply below_drew1) | exact HB.out)))); have n1_ := Aside0.mk (below_step (by repeat (first | (with_reducible first | exact HB.out | apply below_alloc | apply pw_below_drewN | apply below_drew1) | exact HB.out)) hb); clear HB; have HO233 := n0_; have HB := n1_; clear n0_ n1_; (try clear hb); (try clear hb2); (try clear hk); (try clear hi); (try clear ho0)) | ((with_reducible refine gate_callee (f := 18) rfl ?_); refine goesL_ (some 23) rfl rfl Tryd.func18 (by kernel_rfl) rfl #[.slice A0 l0.length c0, .int .i64 a3] rfl (by (try simp only [List.map_toArray, List.map_cons, List.map_nil]); first | done | rfl | (simp only [List.length_drop, List.length_take]; rfl)) ?_; (with_reducible refine (members.calls _ _ l0 a3 t234 _ ?side1 ?side2 A7.out).mono ?_); (case side1 => repeat (first | exact (Kd.C_below HR0.out HB.out) | (with_reducible refine Kd.C_alloc ?_ _) | (with_reducible refine Kd.C_drewN ?_ _) | (with_reducible refine Kd.C_drew ?_))); (case side2 => exact HC0.out); rintro e w9 ⟨v235, rfl, ho0, hb⟩; refine ⟨_, rfl, ?_⟩; have n0_ := Aside0.mk (Kd.R_elder' (by (with_reducible repeat (first | apply Kd.R_alloc | apply Kd.R_drewN | apply Kd.R_drew)); exact HO233.out) (Kd.R_base ho0) hb); have n1_ := Aside0.mk (Kd.R_lower (Kd.R_new' ho0 (Kd.R_lt (by (with_reducible repeat (first | apply Kd.R_alloc | apply Kd.R_drewN | apply Kd.R_drew)); exact HO233.out))) (below_size (by repeat (first | (with_reducible first | exact HB.out | apply below_alloc | apply pw_below_drewN | apply below_drew1) | exact HB.out)))); have n2_ := Aside0.mk (below_step (by repeat (first | (with_reducible first | exact HB.out | apply below_alloc | apply pw_below_drewN | apply below_drew1) | exact HB.out)) hb); clear HO233; clear HB; have HO233 := n0_; have HO236 := n1_; have HB := n2_; clear n0_ n1_ n2_; (try clear hb); (try clear hb2); (try clear hk); (try clear hi); (try clear ho0)))
  go_loopg [13] k (fun kq v13 w' => ∃ (x13_1 : Int), v13 = .int .i64 x13_1 ∧ Aside0 (armillarylaw08_holds.l0 kq l0 l1 a3 a4 t231 t234 x13_1 = some r) ∧ Aside0 (kq ≤ k) ∧ Aside0 (Kd.R (Kd.int .i64) 3 w' w.heap.size (fun k_ => some k_ ≠ (v235 : Value).ownBlock) v232 t231) ∧ Aside0 (Kd.R (Kd.int .i64) 3 w' w.heap.size (fun k_ => some k_ ≠ (v232 : Value).ownBlock) v235 t234) ∧ Aside0 (Below w.heap.size w w'))
  case atStart => exact ⟨(0), (by first | rfl | (simp; done) | (simp [*]; done)), H', ⟨Nat.le_refl _⟩, ⟨by (with_reducible repeat (first | apply Kd.R_alloc | apply Kd.R_drewN | apply Kd.R_drew)); exact Kd.R_mono HO233.out (fun _ hk => hk.2)⟩, ⟨by (with_reducible repeat (first | apply Kd.R_alloc | apply Kd.R_drewN | apply Kd.R_drew)); exact Kd.R_mono HO236.out (fun _ hk => hk.2)⟩, ⟨by repeat (first | (with_reducible first | exact HB.out | apply below_alloc | apply pw_below_drewN | apply below_drew1) | exact HB.out)⟩⟩
  case round =>
    clear H'
    try clear c1
    try clear p2
    try clear c3
    obtain ⟨x13_1, rfl, HA, HK1, HO_11, HO_12, HB⟩ := hrel
    cases gk with
    | zero => exact absurd HA.out (by simp [armillarylaw08_holds.l0])
    | succ k1 =>
      have H := HA.out
      clear HA
      simp only [armillarylaw08_holds.l0] at H
      by_cases c10 : x13_1 < (t234.length : Int)
      · rw [if_pos c10] at H
        have c10b0 : decide (x13_1 < (t234.length : Int)) = true := decide_eq_true c10
        clear c10
        by_cases c11 : 0 ≤ x13_1
        · rw [if_pos c11] at H
          have c11b0 : decide (0 ≤ x13_1) = true := decide_eq_true c11
          clear c11
          by_cases c12 : (rd t234 x13_1) < 0
          · rw [if_pos c12] at H
            have c12b0 : decide ((rd t234 x13_1) < 0) = true := decide_eq_true c12
            clear c12
            obtain rfl := Option.some.inj H
            obtain ⟨Ao13, co13, eo13⟩ := Kd.R_slice HO_12.out
            subst eo13
            have p237 : 0 ≤ (x13_1 : Int) := of_decide_eq_true (by first | (with_reducible assumption) | assumption)
            have q237 : x13_1 < (t234.length : Int) := of_decide_eq_true (by first | (with_reducible assumption) | assumption)
            obtain ⟨ad237, e237, hx237_0⟩ := Kd.at_int (Kd.R_reads' HO_12.out).2.2 x13_1 p237 q237
            cases e237
            replace p237 := eq_true p237
            replace q237 := eq_true q237
            go_wp2
            go_ret
            exact ⟨by first | rfl | (simp [errW_none, errW_some] <;> rfl) | (simp [*, errW_none, errW_some] <;> rfl), by repeat (first | (with_reducible first | exact HB.out | apply below_alloc | apply pw_below_drewN | apply below_drew1) | exact HB.out)⟩
          · rw [if_neg c12] at H
            have c12b0 : decide ((rd t234 x13_1) < 0) = false := decide_eq_false c12
            clear c12
            by_cases c14 : (rd t234 x13_1) ≥ (l0.length : Int)
            · rw [if_pos c14] at H
              have c14b0 : decide ((l0.length : Int) ≤ (rd t234 x13_1)) = true := decide_eq_true c14
              clear c14
              obtain rfl := Option.some.inj H
              obtain ⟨Ao15, co15, eo15⟩ := Kd.R_slice HO_12.out
              subst eo15
              have p237 : 0 ≤ (x13_1 : Int) := of_decide_eq_true (by first | (with_reducible assumption) | assumption)
              have q237 : x13_1 < (t234.length : Int) := of_decide_eq_true (by first | (with_reducible assumption) | assumption)
              obtain ⟨ad237, e237, hx237_0⟩ := Kd.at_int (Kd.R_reads' HO_12.out).2.2 x13_1 p237 q237
              cases e237
              replace p237 := eq_true p237
              replace q237 := eq_true q237
              have p238 : 0 ≤ (x13_1 : Int) := of_decide_eq_true (by first | (with_reducible assumption) | assumption)
              have q238 : x13_1 < (t234.length : Int) := of_decide_eq_true (by first | (with_reducible assumption) | assumption)
              obtain ⟨ad238, e238, hx238_0⟩ := Kd.at_int (Kd.R_reads' HO_12.out).2.2 x13_1 p238 q238
              obtain rfl : ad237 = ad238 := (by injection e238)
              replace p238 := eq_true p238
              replace q238 := eq_true q238
              go_wp2
              go_ret
              exact ⟨by first | rfl | (simp [errW_none, errW_some] <;> rfl) | (simp [*, errW_none, errW_some] <;> rfl), by repeat (first | (with_reducible first | exact HB.out | apply below_alloc | apply pw_below_drewN | apply below_drew1) | exact HB.out)⟩
            · rw [if_neg c14] at H
              have c14b0 : decide ((l0.length : Int) ≤ (rd t234 x13_1)) = false := decide_eq_false c14
              clear c14
              have H' := Aside0.mk H
              clear H
              obtain ⟨Ao16, co16, eo16⟩ := Kd.R_slice HO_12.out
              subst eo16
              have p237 : 0 ≤ (x13_1 : Int) := of_decide_eq_true (by first | (with_reducible assumption) | assumption)
              have q237 : x13_1 < (t234.length : Int) := of_decide_eq_true (by first | (with_reducible assumption) | assumption)
              obtain ⟨ad237, e237, hx237_0⟩ := Kd.at_int (Kd.R_reads' HO_12.out).2.2 x13_1 p237 q237
              cases e237
              replace p237 := eq_true p237
              replace q237 := eq_true q237
              have p238 : 0 ≤ (x13_1 : Int) := of_decide_eq_true (by first | (with_reducible assumption) | assumption)
              have q238 : x13_1 < (t234.length : Int) := of_decide_eq_true (by first | (with_reducible assumption) | assumption)
              obtain ⟨ad238, e238, hx238_0⟩ := Kd.at_int (Kd.R_reads' HO_12.out).2.2 x13_1 p238 q238
              obtain rfl : ad237 = ad238 := (by injection e238)
              replace p238 := eq_true p238
              replace q238 := eq_true q238
              go_wp2
              go_roundg k1
              case measure => have := HK1.out; omega
              case rel => exact ⟨(wrap64 (x13_1 + 1)), (by first | rfl | (simp; done) | (simp [*]; done)), H', ⟨by have := HK1.out; omega⟩, ⟨by (with_reducible repeat (first | apply Kd.R_alloc | apply Kd.R_drewN | apply Kd.R_drew)); exact HO_11.out⟩, ⟨by (with_reducible repeat (first | apply Kd.R_alloc | apply Kd.R_drewN | apply Kd.R_drew)); exact HO_12.out⟩, ⟨by repeat (first | (with_reducible first | exact HB.out | apply below_alloc | apply pw_below_drewN | apply below_drew1) | exact HB.out)⟩⟩
        · rw [if_neg c11] at H
          exact absurd H (by simp)
      · rw [if_neg c10] at H
        have c10b0 : decide (x13_1 < (t234.length : Int)) = false := decide_eq_false c10
        clear c10
        have H' := Aside0.mk H
        clear H
        obtain ⟨Ao17, co17, eo17⟩ := Kd.R_slice HO_12.out
        subst eo17
        go_wp2
        go_loopg [14] k1 (fun kq v14 w' => ∃ (x14_2 : Int), v14 = .int .i64 x14_2 ∧ Aside0 (armillarylaw08_holds.l1 kq l0 l1 a3 a4 t231 t234 x14_2 = some r) ∧ Aside0 (kq ≤ k1) ∧ Aside0 (Kd.R (Kd.int .i64) 3 w' w.heap.size (fun k_ => some k_ ≠ ((.slice Ao17 t234.length co17) : Value).ownBlock) v232 t231) ∧ Aside0 (Kd.R (Kd.int .i64) 3 w' w.heap.size (fun k_ => some k_ ≠ (v232 : Value).ownBlock) (.slice Ao17 t234.length co17) t234) ∧ Aside0 (Below w.heap.size w w'))
        case atStart => exact ⟨(0), (by first | rfl | (simp; done) | (simp [*]; done)), H', ⟨Nat.le_refl _⟩, ⟨by (with_reducible repeat (first | apply Kd.R_alloc | apply Kd.R_drewN | apply Kd.R_drew)); exact HO_11.out⟩, ⟨by (with_reducible repeat (first | apply Kd.R_alloc | apply Kd.R_drewN | apply Kd.R_drew)); exact HO_12.out⟩, ⟨by repeat (first | (with_reducible first | exact HB.out | apply below_alloc | apply pw_below_drewN | apply below_drew1) | exact HB.out)⟩⟩
        case round =>
          clear H'
          try clear c1
          try clear p2
          try clear q2
          try clear hx2
          try clear c3
          try clear p6
          try clear c10
          try clear c10b0
          try clear c11
          try clear c11b0
          try clear c12
          try clear c12b0
          try clear c14
          try clear c14b0
          try clear hx237_0
          try clear hx238_0
          try clear p2
          try clear p237
          try clear p238
          try clear q237
          try clear q238
          obtain ⟨x14_2, rfl, HA, HK2, HO_11, HO_12, HB⟩ := hrel
          cases gk with
          | zero => exact absurd HA.out (by simp [armillarylaw08_holds.l1])
          | succ k2 =>
            have H := HA.out
            clear HA
            simp only [armillarylaw08_holds.l1] at H
            by_cases c18 : x14_2 < (t231.length : Int)
            · rw [if_pos c18] at H
              have c18b0 : decide (x14_2 < (t231.length : Int)) = true := decide_eq_true c18
              clear c18
              have HC19 := Aside0.mk H
              clear H
              obtain ⟨Ao20, co20, eo20⟩ := Kd.R_slice HO_11.out
              subst eo20
              go_upto_region 10 with (fail)
              go_cut [63] (fun v63 wc => ∃ (kq : Nat) (x63_18 : Bool), v63 = .bool x63_18 ∧ Aside0 (armillarylaw08_holds.j2 kq l0 l1 a3 a4 t231 t234 x14_2 x63_18 = some r) ∧ Aside0 (kq ≤ k2) ∧ Aside0 (Kd.R (Kd.int .i64) 3 wc w.heap.size (fun k_ => some k_ ≠ ((.slice Ao17 t234.length co17) : Value).ownBlock) (.slice Ao20 t231.length co20) t231) ∧ Aside0 (Kd.R (Kd.int .i64) 3 wc w.heap.size (fun k_ => some k_ ≠ ((.slice Ao20 t231.length co20) : Value).ownBlock) (.slice Ao17 t234.length co17) t234) ∧ Aside0 (Below w.heap.size w wc))
              case first =>
                have H := HC19.out
                clear HC19
                by_cases c21 : 0 ≤ x14_2
                · rw [if_pos c21] at H
                  have c21b0 : decide (0 ≤ x14_2) = true := decide_eq_true c21
                  clear c21
                  (first | rw [c21b0] | (simp only [i64_w, i32_w]; rw [c21b0]) | skip)
                  by_cases c22 : (rd t231 x14_2) < 0
                  · rw [if_pos c22] at H
                    have c22b0 : decide ((rd t231 x14_2) < 0) = true := decide_eq_true c22
                    clear c22
                    have H' := Aside0.mk H
                    clear H
                    have p239 : 0 ≤ (x14_2 : Int) := of_decide_eq_true (by first | (with_reducible assumption) | assumption)
                    have q239 : x14_2 < (t231.length : Int) := of_decide_eq_true (by first | (with_reducible assumption) | assumption)
                    obtain ⟨ad239, e239, hx239_0⟩ := Kd.at_int (Kd.R_reads' HO_11.out).2.2 x14_2 p239 q239
                    cases e239
                    replace p239 := eq_true p239
                    replace q239 := eq_true q239
                    go_wp2
                    go_meet
                    case rel => exact ⟨_, (true), (by first | rfl | (simp; done) | (simp [*]; done)), H', ⟨by have := HK1.out; have := HK2.out; first | omega | exact Nat.le_refl _⟩, ⟨by (with_reducible repeat (first | apply Kd.R_alloc | apply Kd.R_drewN | apply Kd.R_drew)); exact HO_11.out⟩, ⟨by (with_reducible repeat (first | apply Kd.R_alloc | apply Kd.R_drewN | apply Kd.R_drew)); exact HO_12.out⟩, ⟨by repeat (first | (with_reducible first | exact HB.out | apply below_alloc | apply pw_below_drewN | apply below_drew1) | exact HB.out)⟩⟩
                  · rw [if_neg c22] at H
                    have c22b0 : decide ((rd t231 x14_2) < 0) = false := decide_eq_false c22
                    clear c22
                    have H' := Aside0.mk H
                    clear H
                    have p239 : 0 ≤ (x14_2 : Int) := of_decide_eq_true (by first | (with_reducible assumption) | assumption)
                    have q239 : x14_2 < (t231.length : Int) := of_decide_eq_true (by first | (with_reducible assumption) | assumption)
                    obtain ⟨ad239, e239, hx239_0⟩ := Kd.at_int (Kd.R_reads' HO_11.out).2.2 x14_2 p239 q239
                    cases e239
                    replace p239 := eq_true p239
                    replace q239 := eq_true q239
                    have p240 : 0 ≤ (x14_2 : Int) := of_decide_eq_true (by first | (with_reducible assumption) | assumption)
                    have q240 : x14_2 < (t231.length : Int) := of_decide_eq_true (by first | (with_reducible assumption) | assumption)
                    obtain ⟨ad240, e240, hx240_0⟩ := Kd.at_int (Kd.R_reads' HO_11.out).2.2 x14_2 p240 q240
                    obtain rfl : ad239 = ad240 := (by injection e240)
                    replace p240 := eq_true p240
                    replace q240 := eq_true q240
                    go_wp2
                    go_meet
                    case rel => exact ⟨_, (decide ((rd t231 x14_2) ≥ (l0.length : Int))), (by first | rfl | (simp; done) | (simp [*]; done)), H', ⟨by have := HK1.out; have := HK2.out; first | omega | exact Nat.le_refl _⟩, ⟨by (with_reducible repeat (first | apply Kd.R_alloc | apply Kd.R_drewN | apply Kd.R_drew)); exact HO_11.out⟩, ⟨by (with_reducible repeat (first | apply Kd.R_alloc | apply Kd.R_drewN | apply Kd.R_drew)); exact HO_12.out⟩, ⟨by repeat (first | (with_reducible first | exact HB.out | apply below_alloc | apply pw_below_drewN | apply below_drew1) | exact HB.out)⟩⟩
                · rw [if_neg c21] at H
                  exact absurd H (by simp)
              case rest =>
                clear HC19
                try clear c1
                try clear c2
                try clear p2
                try clear q2
                try clear hx2
                try clear c3
                try clear p6
                try clear c10
                try clear c10b0
                try clear c11
                try clear c11b0
                try clear c12
                try clear c12b0
                try clear c14
                try clear c14b0
                try clear c18
                try clear c18b0
                try clear c21
                try clear c21b0
                try clear c22
                try clear c22b0
                try clear hx237_0
                try clear hx238_0
                try clear hx239_0
                try clear hx240_0
                try clear p2
                try clear p237
                try clear p238
                try clear p239
                try clear p240
                try clear p6
                try clear q2
                try clear q237
                try clear q238
                try clear q239
                try clear q240
                obtain ⟨kq, x63_18, rfl, HA, HJ18, HO_11, HO_12, HB⟩ := hcut
                cases kq with
                | zero => exact absurd HA.out (by simp [armillarylaw08_holds.j2])
                | succ kj18 =>
                  have H := HA.out
                  clear HA
                  simp only [armillarylaw08_holds.j2] at H
                  by_cases c23 : x63_18 = true
                  · subst c23
                    have H1 : (some false) = some r := by rw [if_pos rfl] at H; exact H
                    clear H
                    have H := H1
                    clear H1
                    obtain rfl := Option.some.inj H
                    go_wp2
                    go_ret
                    exact ⟨by first | rfl | (simp [errW_none, errW_some] <;> rfl) | (simp [*, errW_none, errW_some] <;> rfl), by repeat (first | (with_reducible first | exact HB.out | apply below_alloc | apply pw_below_drewN | apply below_drew1) | exact HB.out)⟩
                  · replace c23 := Bool.eq_false_iff.mpr c23
                    subst c23
                    have H1 : (if 0 ≤ x14_2 then (if x14_2 < (t231.length : Int) then (if 0 ≤ (rd t231 x14_2) then (if (rd t231 x14_2) < (l0.length : Int) then (if ((rd_T37 l0 (rd t231 x14_2)).f0) = 9 then (if 0 < (((rd_T37 l0 (rd t231 x14_2)).f4).length : Int) then (if 0 ≤ (rd ((rd_T37 l0 (rd t231 x14_2)).f4) 0) then (if (rd ((rd_T37 l0 (rd t231 x14_2)).f4) 0) < (l1.length : Int) then (if 0 ≤ a3 then (if a3 < ((rd_L6 l1 (rd ((rd_T37 l0 (rd t231 x14_2)).f4) 0)).length : Int) then (armillarylaw08_holds.j3 kj18 l0 l1 a3 a4 t231 t234 x14_2 (rdOf false (rd_L6 l1 (rd ((rd_T37 l0 (rd t231 x14_2)).f4) 0)) a3) ((rd_T37 l0 (rd t231 x14_2)).f0) ((rd_T37 l0 (rd t231 x14_2)).f1) ((rd_T37 l0 (rd t231 x14_2)).f2) ((rd_T37 l0 (rd t231 x14_2)).f3) ((rd_T37 l0 (rd t231 x14_2)).f4)) else (none)) else (none)) else (none)) else (none)) else (none)) else (armillarylaw08_holds.j3 kj18 l0 l1 a3 a4 t231 t234 x14_2 false ((rd_T37 l0 (rd t231 x14_2)).f0) ((rd_T37 l0 (rd t231 x14_2)).f1) ((rd_T37 l0 (rd t231 x14_2)).f2) ((rd_T37 l0 (rd t231 x14_2)).f3) ((rd_T37 l0 (rd t231 x14_2)).f4))) else (none)) else (none)) else (none)) else (none)) = some r := by rw [if_neg (show ¬ (false = true) by decide)] at H; exact H
                    clear H
                    have H := H1
                    clear H1
                    by_cases c24 : 0 ≤ x14_2
                    · rw [if_pos c24] at H
                      have c24b0 : decide (0 ≤ x14_2) = true := decide_eq_true c24
                      clear c24
                      by_cases c25 : x14_2 < (t231.length : Int)
                      · rw [if_pos c25] at H
                        have c25b0 : decide (x14_2 < (t231.length : Int)) = true := decide_eq_true c25
                        clear c25
                        by_cases c26 : 0 ≤ (rd t231 x14_2)
                        · rw [if_pos c26] at H
                          have c26b0 : decide (0 ≤ (rd t231 x14_2)) = true := decide_eq_true c26
                          clear c26
                          by_cases c27 : (rd t231 x14_2) < (l0.length : Int)
                          · rw [if_pos c27] at H
                            have c27b0 : decide ((rd t231 x14_2) < (l0.length : Int)) = true := decide_eq_true c27
                            clear c27
                            have HC28 := Aside0.mk H
                            clear H
                            have p241 : 0 ≤ (x14_2 : Int) := of_decide_eq_true (by first | (with_reducible assumption) | assumption)
                            have q241 : x14_2 < (t231.length : Int) := of_decide_eq_true (by first | (with_reducible assumption) | assumption)
                            obtain ⟨ad241, e241, hx241_0⟩ := Kd.at_int (Kd.R_reads' HO_11.out).2.2 x14_2 p241 q241
                            cases e241
                            replace p241 := eq_true p241
                            replace q241 := eq_true q241
                            have p242 : 0 ≤ ((rd t231 x14_2) : Int) := of_decide_eq_true (by first | (with_reducible assumption) | assumption)
                            have q242 : (rd t231 x14_2) < (l0.length : Int) := of_decide_eq_true (by first | (with_reducible assumption) | assumption)
                            obtain ⟨ad242, A242_3, c242_3, A242_4, c242_4, e242, hx242_0, hx242_1, hx242_2, hx242_3, hx242_4, hl242_3, hi242_3, hl242_4, hi242_4⟩ := at_T37 HR0.out (rd t231 x14_2) p242 q242
                            cases e242
                            replace hx242_0 := (HB.out.cell (World.block_lt_of_cell? w _ hx242_0)).trans hx242_0
                            replace hx242_1 := (HB.out.cell (World.block_lt_of_cell? w _ hx242_1)).trans hx242_1
                            replace hx242_2 := (HB.out.cell (World.block_lt_of_cell? w _ hx242_2)).trans hx242_2
                            replace hx242_3 := (HB.out.cell (World.block_lt_of_cell? w _ hx242_3)).trans hx242_3
                            replace hx242_4 := (HB.out.cell (World.block_lt_of_cell? w _ hx242_4)).trans hx242_4
                            have HR242_3 := Aside0.mk hi242_3
                            have HC242_3 := Aside0.mk hl242_3
                            clear hi242_3 hl242_3
                            have HR242_4 := Aside0.mk hi242_4
                            have HC242_4 := Aside0.mk hl242_4
                            clear hi242_4 hl242_4
                            replace p242 := eq_true p242
                            replace q242 := eq_true q242
                            go_upto_region 13 with (first | ((with_reducible refine gate_dst (N := 15) rfl ?_); (try (refine gate_guard (by rfl) ?_; dsimp only)); refine box_event ?hg (N := 15) ?hd (cs := #[.int .i64 0, .int .i64 0, .string (⟨#[]⟩ : ByteArray), .slice none 0 0, .slice none 0 0]) (t := 37) ?hr ?_; (case hd => rfl); (case hg => rfl); (case hr => first | (go_simp; done) | (go_simp; rfl)); intro gb243 hg w29 hbox hb; have n0_ := Aside0.mk (Kd.R_below (by (with_reducible repeat (first | apply Kd.R_alloc | apply Kd.R_drewN | apply Kd.R_drew)); exact HO_11.out) hb); have n1_ := Aside0.mk (Kd.R_below (by (with_reducible repeat (first | apply Kd.R_alloc | apply Kd.R_drewN | apply Kd.R_drew)); exact HO_12.out) hb); have n2_ := Aside0.mk (below_step (by repeat (first | (with_reducible first | exact HB.out | apply below_alloc | apply pw_below_drewN | apply below_drew1) | exact HB.out)) hb); have n3_ := Aside0.mk (hbox); have n4_ := Aside0.mk ((by rw [hg]; exact (below_size (by repeat (first | (with_reducible first | exact HB.out | apply below_alloc | apply pw_below_drewN | apply below_drew1) | exact HB.out))) : w.heap.size ≤ gb243)); have n5_ := Aside0.mk ((by rw [hg]; exact (below_size (by repeat (first | (with_reducible first | exact HB.out | apply below_alloc | apply pw_below_drewN | apply below_drew1) | exact HB.out))) : w.heap.size ≤ gb243)); clear HO_11; clear HO_12; clear HB; have HO_11 := n0_; have HO_12 := n1_; have HB := n2_; have BK243 := n3_; have GW243 := n4_; have GE243 := n5_; clear n0_ n1_ n2_ n3_ n4_ n5_; clear hb hbox hg; have hcz30_0 : w29.cell? ⟨gb243, 0, none⟩ = some (.int .i64 0) := (blk_cell BK243.out 0).trans rfl; have hcz30_1 : w29.cell? ⟨gb243, 1, none⟩ = some (.int .i64 0) := (blk_cell BK243.out 1).trans rfl; have hcz30_2 : w29.cell? ⟨gb243, 2, none⟩ = some (.string (⟨#[]⟩ : ByteArray)) := (blk_cell BK243.out 2).trans rfl; have hcz30_3 : w29.cell? ⟨gb243, 3, none⟩ = some (.slice none 0 0) := (blk_cell BK243.out 3).trans rfl; have hcz30_4 : w29.cell? ⟨gb243, 4, none⟩ = some (.slice none 0 0) := (blk_cell BK243.out 4).trans rfl; have hfz30_0 := blk_frozen BK243.out 0; have hfz30_1 := blk_frozen BK243.out 1; have hfz30_2 := blk_frozen BK243.out 2; have hfz30_3 := blk_frozen BK243.out 3; have hfz30_4 := blk_frozen BK243.out 4))
                            (try simp only [Act.put, List.setIfInBounds_toArray, List.set_cons_zero, List.set_cons_succ])
                            go_cut [16] (fun v16 wc => ∃ (kq : Nat) (x16_27 : Bool), v16 = .bool x16_27 ∧ Aside0 (armillarylaw08_holds.j3 kq l0 l1 a3 a4 t231 t234 x14_2 x16_27 ((rd_T37 l0 (rd t231 x14_2)).f0) ((rd_T37 l0 (rd t231 x14_2)).f1) ((rd_T37 l0 (rd t231 x14_2)).f2) ((rd_T37 l0 (rd t231 x14_2)).f3) ((rd_T37 l0 (rd t231 x14_2)).f4) = some r) ∧ Aside0 (kq ≤ kj18) ∧ Aside0 (Kd.R (Kd.int .i64) 3 wc w.heap.size (fun k_ => some k_ ≠ ((.slice Ao17 t234.length co17) : Value).ownBlock) (.slice (some ad241) t231.length co20) t231) ∧ Aside0 (Kd.R (Kd.int .i64) 3 wc w.heap.size (fun k_ => some k_ ≠ ((.slice (some ad241) t231.length co20) : Value).ownBlock) (.slice Ao17 t234.length co17) t234) ∧ Aside0 (wc.heap[gb243]? = some (.cells #[.int .i64 ((rd_T37 l0 (rd t231 x14_2)).f0), .int .i64 ((rd_T37 l0 (rd t231 x14_2)).f1), .string ((rd_T37 l0 (rd t231 x14_2)).f2), (.slice A242_3 ((rd_T37 l0 (rd t231 x14_2)).f3).length c242_3), (.slice A242_4 ((rd_T37 l0 (rd t231 x14_2)).f4).length c242_4)] 37 (0, 0))) ∧ Aside0 (Below w.heap.size w wc))
                            case first =>
                              have H := HC28.out
                              clear HC28
                              by_cases c31 : ((rd_T37 l0 (rd t231 x14_2)).f0) = 9
                              · rw [if_pos c31] at H
                                have c31b0 : (((rd_T37 l0 (rd t231 x14_2)).f0) == 9) = true := beq_iff_eq.mpr c31
                                have c31b1 : (((rd_T37 l0 (rd t231 x14_2)).f0) != 9) = false := bne_eq_false_iff_eq.mpr c31
                                clear c31
                                (first | rw [c31b0] | (simp only [i64_w, i32_w]; rw [c31b0]) | skip)
                                by_cases c32 : 0 < (((rd_T37 l0 (rd t231 x14_2)).f4).length : Int)
                                · rw [if_pos c32] at H
                                  have c32b0 : decide (0 < (((rd_T37 l0 (rd t231 x14_2)).f4).length : Int)) = true := decide_eq_true c32
                                  have c32b1 : decide (0 < ((rd_T37 l0 (rd t231 x14_2)).f4).length) = true := decide_eq_true (by omega)
                                  clear c32
                                  by_cases c33 : 0 ≤ (rd ((rd_T37 l0 (rd t231 x14_2)).f4) 0)
                                  · rw [if_pos c33] at H
                                    have c33b0 : decide (0 ≤ (rd ((rd_T37 l0 (rd t231 x14_2)).f4) 0)) = true := decide_eq_true c33
                                    clear c33
                                    by_cases c34 : (rd ((rd_T37 l0 (rd t231 x14_2)).f4) 0) < (l1.length : Int)
                                    · rw [if_pos c34] at H
                                      have c34b0 : decide ((rd ((rd_T37 l0 (rd t231 x14_2)).f4) 0) < (l1.length : Int)) = true := decide_eq_true c34
                                      clear c34
                                      by_cases c35 : 0 ≤ a3
                                      · rw [if_pos c35] at H
                                        have c35b0 : decide (0 ≤ a3) = true := decide_eq_true c35
                                        clear c35
                                        by_cases c36 : a3 < ((rd_L6 l1 (rd ((rd_T37 l0 (rd t231 x14_2)).f4) 0)).length : Int)
                                        · rw [if_pos c36] at H
                                          have c36b0 : decide (a3 < ((rd_L6 l1 (rd ((rd_T37 l0 (rd t231 x14_2)).f4) 0)).length : Int)) = true := decide_eq_true c36
                                          clear c36
                                          have H' := Aside0.mk H
                                          clear H
                                          have hcz37_0 : w29.cell? ⟨gb243, 0, none⟩ = some (.int .i64 0) := (blk_cell BK243.out 0).trans rfl
                                          have hcz37_1 : w29.cell? ⟨gb243, 1, none⟩ = some (.int .i64 0) := (blk_cell BK243.out 1).trans rfl
                                          have hcz37_2 : w29.cell? ⟨gb243, 2, none⟩ = some (.string (⟨#[]⟩ : ByteArray)) := (blk_cell BK243.out 2).trans rfl
                                          have hcz37_3 : w29.cell? ⟨gb243, 3, none⟩ = some (.slice none 0 0) := (blk_cell BK243.out 3).trans rfl
                                          have hcz37_4 : w29.cell? ⟨gb243, 4, none⟩ = some (.slice none 0 0) := (blk_cell BK243.out 4).trans rfl
                                          have hfz37_0 := blk_frozen BK243.out 0
                                          have hfz37_1 := blk_frozen BK243.out 1
                                          have hfz37_2 := blk_frozen BK243.out 2
                                          have hfz37_3 := blk_frozen BK243.out 3
                                          have hfz37_4 := blk_frozen BK243.out 4
                                          have p244 : 0 ≤ (0 : Int) := (by omega)
                                          have q244 : 0 < (((rd_T37 l0 (rd t231 x14_2)).f4).length : Int) := of_decide_eq_true (by first | (with_reducible assumption) | assumption)
                                          obtain ⟨ad244, e244, hx244_0⟩ := Kd.at_int HR242_4.out 0 p244 q244
                                          cases e244
                                          have qi244 : (0 < ((rd_T37 l0 (rd t231 x14_2)).f4).length) = True := eq_true (by omega)
                                          (try rw [show ((0 : Int)).toNat = 0 from rfl] at hx244_0)
                                          (try rw [Addr.add_zero'] at hx244_0)
                                          have hn244_0 : ad244.block ≠ gb243 := Nat.ne_of_lt (Nat.lt_of_lt_of_le (by have := World.block_lt_of_cell? _ _ hx244_0; first | rwa [add_block] at this | exact this) GW243.out)
                                          have hn244_1 : ad244.block ≠ gb243 := Nat.ne_of_lt (Nat.lt_of_lt_of_le (by have := World.block_lt_of_cell? _ _ hx244_0; first | rwa [add_block] at this | exact this) GW243.out)
                                          have hn244_2 : ad244.block ≠ gb243 := Nat.ne_of_lt (Nat.lt_of_lt_of_le (by have := World.block_lt_of_cell? _ _ hx244_0; first | rwa [add_block] at this | exact this) GW243.out)
                                          have hn244_3 : ad244.block ≠ gb243 := Nat.ne_of_lt (Nat.lt_of_lt_of_le (by have := World.block_lt_of_cell? _ _ hx244_0; first | rwa [add_block] at this | exact this) GW243.out)
                                          have hn244_4 : ad244.block ≠ gb243 := Nat.ne_of_lt (Nat.lt_of_lt_of_le (by have := World.block_lt_of_cell? _ _ hx244_0; first | rwa [add_block] at this | exact this) GW243.out)
                                          replace hx244_0 := (HB.out.cell (World.block_lt_of_cell? w _ hx244_0)).trans hx244_0
                                          replace hx244_0 := (cell_far (p := ⟨gb243, 0, none⟩) (by first | (rw [add_block]; exact hn244_0) | (show (Addr.add _ _).block ≠ _; rw [add_block]; exact hn244_0) | exact hn244_0) (.int .i64 ((rd_T37 l0 (rd t231 x14_2)).f0))).trans hx244_0
                                          replace hx244_0 := (cell_far (p := ⟨gb243, 1, none⟩) (by first | (rw [add_block]; exact hn244_1) | (show (Addr.add _ _).block ≠ _; rw [add_block]; exact hn244_1) | exact hn244_1) (.int .i64 ((rd_T37 l0 (rd t231 x14_2)).f1))).trans hx244_0
                                          replace hx244_0 := (cell_far (p := ⟨gb243, 2, none⟩) (by first | (rw [add_block]; exact hn244_2) | (show (Addr.add _ _).block ≠ _; rw [add_block]; exact hn244_2) | exact hn244_2) (.string ((rd_T37 l0 (rd t231 x14_2)).f2))).trans hx244_0
                                          replace hx244_0 := (cell_far (p := ⟨gb243, 3, none⟩) (by first | (rw [add_block]; exact hn244_3) | (show (Addr.add _ _).block ≠ _; rw [add_block]; exact hn244_3) | exact hn244_3) (.slice A242_3 ((rd_T37 l0 (rd t231 x14_2)).f3).length c242_3)).trans hx244_0
                                          replace hx244_0 := (cell_far (p := ⟨gb243, 4, none⟩) (by first | (rw [add_block]; exact hn244_4) | (show (Addr.add _ _).block ≠ _; rw [add_block]; exact hn244_4) | exact hn244_4) (.slice (some ad244) ((rd_T37 l0 (rd t231 x14_2)).f4).length c242_4)).trans hx244_0
                                          clear hn244_0
                                          clear hn244_1
                                          clear hn244_2
                                          clear hn244_3
                                          clear hn244_4
                                          replace p244 := eq_true p244
                                          replace q244 := eq_true q244
                                          have p245 : 0 ≤ ((rd ((rd_T37 l0 (rd t231 x14_2)).f4) 0) : Int) := of_decide_eq_true (by first | (with_reducible assumption) | assumption)
                                          have q245 : (rd ((rd_T37 l0 (rd t231 x14_2)).f4) 0) < (l1.length : Int) := of_decide_eq_true (by first | (with_reducible assumption) | assumption)
                                          obtain ⟨ad245, A245_0, c245_0, e245, hx245_0, hl245_0, hi245_0⟩ := at_L6 HR1.out (rd ((rd_T37 l0 (rd t231 x14_2)).f4) 0) p245 q245
                                          cases e245
                                          have hn245_0 : ad245.block ≠ gb243 := Nat.ne_of_lt (Nat.lt_of_lt_of_le (by have := World.block_lt_of_cell? _ _ hx245_0; first | rwa [add_block] at this | exact this) GW243.out)
                                          have hn245_1 : ad245.block ≠ gb243 := Nat.ne_of_lt (Nat.lt_of_lt_of_le (by have := World.block_lt_of_cell? _ _ hx245_0; first | rwa [add_block] at this | exact this) GW243.out)
                                          have hn245_2 : ad245.block ≠ gb243 := Nat.ne_of_lt (Nat.lt_of_lt_of_le (by have := World.block_lt_of_cell? _ _ hx245_0; first | rwa [add_block] at this | exact this) GW243.out)
                                          have hn245_3 : ad245.block ≠ gb243 := Nat.ne_of_lt (Nat.lt_of_lt_of_le (by have := World.block_lt_of_cell? _ _ hx245_0; first | rwa [add_block] at this | exact this) GW243.out)
                                          have hn245_4 : ad245.block ≠ gb243 := Nat.ne_of_lt (Nat.lt_of_lt_of_le (by have := World.block_lt_of_cell? _ _ hx245_0; first | rwa [add_block] at this | exact this) GW243.out)
                                          replace hx245_0 := (HB.out.cell (World.block_lt_of_cell? w _ hx245_0)).trans hx245_0
                                          have HR245_0 := Aside0.mk hi245_0
                                          have HC245_0 := Aside0.mk hl245_0
                                          clear hi245_0 hl245_0
                                          replace hx245_0 := (cell_far (p := ⟨gb243, 0, none⟩) (by first | (rw [add_block]; exact hn245_0) | (show (Addr.add _ _).block ≠ _; rw [add_block]; exact hn245_0) | exact hn245_0) (.int .i64 ((rd_T37 l0 (rd t231 x14_2)).f0))).trans hx245_0
                                          replace hx245_0 := (cell_far (p := ⟨gb243, 1, none⟩) (by first | (rw [add_block]; exact hn245_1) | (show (Addr.add _ _).block ≠ _; rw [add_block]; exact hn245_1) | exact hn245_1) (.int .i64 ((rd_T37 l0 (rd t231 x14_2)).f1))).trans hx245_0
                                          replace hx245_0 := (cell_far (p := ⟨gb243, 2, none⟩) (by first | (rw [add_block]; exact hn245_2) | (show (Addr.add _ _).block ≠ _; rw [add_block]; exact hn245_2) | exact hn245_2) (.string ((rd_T37 l0 (rd t231 x14_2)).f2))).trans hx245_0
                                          replace hx245_0 := (cell_far (p := ⟨gb243, 3, none⟩) (by first | (rw [add_block]; exact hn245_3) | (show (Addr.add _ _).block ≠ _; rw [add_block]; exact hn245_3) | exact hn245_3) (.slice A242_3 ((rd_T37 l0 (rd t231 x14_2)).f3).length c242_3)).trans hx245_0
                                          replace hx245_0 := (cell_far (p := ⟨gb243, 4, none⟩) (by first | (rw [add_block]; exact hn245_4) | (show (Addr.add _ _).block ≠ _; rw [add_block]; exact hn245_4) | exact hn245_4) (.slice (some ad244) ((rd_T37 l0 (rd t231 x14_2)).f4).length c242_4)).trans hx245_0
                                          clear hn245_0
                                          clear hn245_1
                                          clear hn245_2
                                          clear hn245_3
                                          clear hn245_4
                                          replace p245 := eq_true p245
                                          replace q245 := eq_true q245
                                          have p246 : 0 ≤ (a3 : Int) := of_decide_eq_true (by first | (with_reducible assumption) | assumption)
                                          have q246 : a3 < ((rd_L6 l1 (rd ((rd_T37 l0 (rd t231 x14_2)).f4) 0)).length : Int) := of_decide_eq_true (by first | (with_reducible assumption) | assumption)
                                          obtain ⟨ad246, e246, hx246_0⟩ := Kd.at_bool HR245_0.out a3 p246 q246
                                          cases e246
                                          have hn246_0 : ad246.block ≠ gb243 := Nat.ne_of_lt (Nat.lt_of_lt_of_le (by have := World.block_lt_of_cell? _ _ hx246_0; first | rwa [add_block] at this | exact this) GW243.out)
                                          have hn246_1 : ad246.block ≠ gb243 := Nat.ne_of_lt (Nat.lt_of_lt_of_le (by have := World.block_lt_of_cell? _ _ hx246_0; first | rwa [add_block] at this | exact this) GW243.out)
                                          have hn246_2 : ad246.block ≠ gb243 := Nat.ne_of_lt (Nat.lt_of_lt_of_le (by have := World.block_lt_of_cell? _ _ hx246_0; first | rwa [add_block] at this | exact this) GW243.out)
                                          have hn246_3 : ad246.block ≠ gb243 := Nat.ne_of_lt (Nat.lt_of_lt_of_le (by have := World.block_lt_of_cell? _ _ hx246_0; first | rwa [add_block] at this | exact this) GW243.out)
                                          have hn246_4 : ad246.block ≠ gb243 := Nat.ne_of_lt (Nat.lt_of_lt_of_le (by have := World.block_lt_of_cell? _ _ hx246_0; first | rwa [add_block] at this | exact this) GW243.out)
                                          replace hx246_0 := (HB.out.cell (World.block_lt_of_cell? w _ hx246_0)).trans hx246_0
                                          replace hx246_0 := (cell_far (p := ⟨gb243, 0, none⟩) (by first | (rw [add_block]; exact hn246_0) | (show (Addr.add _ _).block ≠ _; rw [add_block]; exact hn246_0) | exact hn246_0) (.int .i64 ((rd_T37 l0 (rd t231 x14_2)).f0))).trans hx246_0
                                          replace hx246_0 := (cell_far (p := ⟨gb243, 1, none⟩) (by first | (rw [add_block]; exact hn246_1) | (show (Addr.add _ _).block ≠ _; rw [add_block]; exact hn246_1) | exact hn246_1) (.int .i64 ((rd_T37 l0 (rd t231 x14_2)).f1))).trans hx246_0
                                          replace hx246_0 := (cell_far (p := ⟨gb243, 2, none⟩) (by first | (rw [add_block]; exact hn246_2) | (show (Addr.add _ _).block ≠ _; rw [add_block]; exact hn246_2) | exact hn246_2) (.string ((rd_T37 l0 (rd t231 x14_2)).f2))).trans hx246_0
                                          replace hx246_0 := (cell_far (p := ⟨gb243, 3, none⟩) (by first | (rw [add_block]; exact hn246_3) | (show (Addr.add _ _).block ≠ _; rw [add_block]; exact hn246_3) | exact hn246_3) (.slice A242_3 ((rd_T37 l0 (rd t231 x14_2)).f3).length c242_3)).trans hx246_0
                                          replace hx246_0 := (cell_far (p := ⟨gb243, 4, none⟩) (by first | (rw [add_block]; exact hn246_4) | (show (Addr.add _ _).block ≠ _; rw [add_block]; exact hn246_4) | exact hn246_4) (.slice (some ad244) ((rd_T37 l0 (rd t231 x14_2)).f4).length c242_4)).trans hx246_0
                                          clear hn246_0
                                          clear hn246_1
                                          clear hn246_2
                                          clear hn246_3
                                          clear hn246_4
                                          replace p246 := eq_true p246
                                          replace q246 := eq_true q246
                                          go_wp2
                                          go_meet
                                          case rel => exact ⟨_, (rdOf false (rd_L6 l1 (rd ((rd_T37 l0 (rd t231 x14_2)).f4) 0)) a3), (by first | rfl | (simp; done) | (simp [*]; done)), H', ⟨by have := HK1.out; have := HK2.out; have := HJ18.out; first | omega | exact Nat.le_refl _⟩, ⟨by (with_reducible repeat (first | apply Kd.R_alloc | apply Kd.R_drewN | apply Kd.R_drew)); exact Kd.R_mono (Kd.R_far (p := ⟨gb243, 4, none⟩) (Kd.R_far (p := ⟨gb243, 3, none⟩) (Kd.R_far (p := ⟨gb243, 2, none⟩) (Kd.R_far (p := ⟨gb243, 1, none⟩) (Kd.R_far (p := ⟨gb243, 0, none⟩) (Kd.R_types HO_11.out BK243.out (by decide)) (fun _ hk => hk.2) (.int .i64 ((rd_T37 l0 (rd t231 x14_2)).f0))) (fun _ hk => hk.2) (.int .i64 ((rd_T37 l0 (rd t231 x14_2)).f1))) (fun _ hk => hk.2) (.string ((rd_T37 l0 (rd t231 x14_2)).f2))) (fun _ hk => hk.2) (.slice A242_3 ((rd_T37 l0 (rd t231 x14_2)).f3).length c242_3)) (fun _ hk => hk.2) (.slice (some ad244) ((rd_T37 l0 (rd t231 x14_2)).f4).length c242_4)) (fun _ hk => hk.1)⟩, ⟨by (with_reducible repeat (first | apply Kd.R_alloc | apply Kd.R_drewN | apply Kd.R_drew)); exact Kd.R_mono (Kd.R_far (p := ⟨gb243, 4, none⟩) (Kd.R_far (p := ⟨gb243, 3, none⟩) (Kd.R_far (p := ⟨gb243, 2, none⟩) (Kd.R_far (p := ⟨gb243, 1, none⟩) (Kd.R_far (p := ⟨gb243, 0, none⟩) (Kd.R_types HO_12.out BK243.out (by decide)) (fun _ hk => hk.2) (.int .i64 ((rd_T37 l0 (rd t231 x14_2)).f0))) (fun _ hk => hk.2) (.int .i64 ((rd_T37 l0 (rd t231 x14_2)).f1))) (fun _ hk => hk.2) (.string ((rd_T37 l0 (rd t231 x14_2)).f2))) (fun _ hk => hk.2) (.slice A242_3 ((rd_T37 l0 (rd t231 x14_2)).f3).length c242_3)) (fun _ hk => hk.2) (.slice (some ad244) ((rd_T37 l0 (rd t231 x14_2)).f4).length c242_4)) (fun _ hk => hk.1)⟩, ⟨by (with_reducible repeat (first | refine blk_drewN ?_ _ | refine blk_drew ?_ | refine blk_alloc ?_ _)); refine blk_put (cs := #[.int .i64 ((rd_T37 l0 (rd t231 x14_2)).f0), .int .i64 ((rd_T37 l0 (rd t231 x14_2)).f1), .string ((rd_T37 l0 (rd t231 x14_2)).f2), .slice A242_3 ((rd_T37 l0 (rd t231 x14_2)).f3).length c242_3, .slice none 0 0]) ?_ 4 _ rfl; (with_reducible repeat (first | refine blk_drewN ?_ _ | refine blk_drew ?_ | refine blk_alloc ?_ _)); refine blk_put (cs := #[.int .i64 ((rd_T37 l0 (rd t231 x14_2)).f0), .int .i64 ((rd_T37 l0 (rd t231 x14_2)).f1), .string ((rd_T37 l0 (rd t231 x14_2)).f2), .slice none 0 0, .slice none 0 0]) ?_ 3 _ rfl; (with_reducible repeat (first | refine blk_drewN ?_ _ | refine blk_drew ?_ | refine blk_alloc ?_ _)); refine blk_put (cs := #[.int .i64 ((rd_T37 l0 (rd t231 x14_2)).f0), .int .i64 ((rd_T37 l0 (rd t231 x14_2)).f1), .string (⟨#[]⟩ : ByteArray), .slice none 0 0, .slice none 0 0]) ?_ 2 _ rfl; (with_reducible repeat (first | refine blk_drewN ?_ _ | refine blk_drew ?_ | refine blk_alloc ?_ _)); refine blk_put (cs := #[.int .i64 ((rd_T37 l0 (rd t231 x14_2)).f0), .int .i64 0, .string (⟨#[]⟩ : ByteArray), .slice none 0 0, .slice none 0 0]) ?_ 1 _ rfl; (with_reducible repeat (first | refine blk_drewN ?_ _ | refine blk_drew ?_ | refine blk_alloc ?_ _)); refine blk_put (cs := #[.int .i64 0, .int .i64 0, .string (⟨#[]⟩ : ByteArray), .slice none 0 0, .slice none 0 0]) ?_ 0 _ rfl; (with_reducible repeat (first | refine blk_drewN ?_ _ | refine blk_drew ?_ | refine blk_alloc ?_ _)); exact BK243.out⟩, ⟨by repeat (first | (with_reducible first | exact HB.out | apply below_alloc | apply pw_below_drewN | apply below_drew1 | refine below_set ?_ GE243.out) | exact HB.out)⟩⟩
                                        · rw [if_neg c36] at H
                                          exact absurd H (by simp)
                                      · rw [if_neg c35] at H
                                        exact absurd H (by simp)
                                    · rw [if_neg c34] at H
                                      exact absurd H (by simp)
                                  · rw [if_neg c33] at H
                                    exact absurd H (by simp)
                                · rw [if_neg c32] at H
                                  exact absurd H (by simp)
                              · rw [if_neg c31] at H
                                have c31b0 : (((rd_T37 l0 (rd t231 x14_2)).f0) == 9) = false := beq_eq_false_iff_ne.mpr c31
                                have c31b1 : (((rd_T37 l0 (rd t231 x14_2)).f0) != 9) = true := bne_iff_ne.mpr c31
                                (first | rw [c31b0] | (simp only [i64_w, i32_w]; rw [c31b0]) | skip)
                                have H' := Aside0.mk H
                                clear H
                                have hcz38_0 : w29.cell? ⟨gb243, 0, none⟩ = some (.int .i64 0) := (blk_cell BK243.out 0).trans rfl
                                have hcz38_1 : w29.cell? ⟨gb243, 1, none⟩ = some (.int .i64 0) := (blk_cell BK243.out 1).trans rfl
                                have hcz38_2 : w29.cell? ⟨gb243, 2, none⟩ = some (.string (⟨#[]⟩ : ByteArray)) := (blk_cell BK243.out 2).trans rfl
                                have hcz38_3 : w29.cell? ⟨gb243, 3, none⟩ = some (.slice none 0 0) := (blk_cell BK243.out 3).trans rfl
                                have hcz38_4 : w29.cell? ⟨gb243, 4, none⟩ = some (.slice none 0 0) := (blk_cell BK243.out 4).trans rfl
                                have hfz38_0 := blk_frozen BK243.out 0
                                have hfz38_1 := blk_frozen BK243.out 1
                                have hfz38_2 := blk_frozen BK243.out 2
                                have hfz38_3 := blk_frozen BK243.out 3
                                have hfz38_4 := blk_frozen BK243.out 4
                                go_wp2
                                go_meet
                                case rel => exact ⟨_, (false), (by first | rfl | (simp; done) | (simp [*]; done)), H', ⟨by have := HK1.out; have := HK2.out; have := HJ18.out; first | omega | exact Nat.le_refl _⟩, ⟨by (with_reducible repeat (first | apply Kd.R_alloc | apply Kd.R_drewN | apply Kd.R_drew)); exact Kd.R_mono (Kd.R_far (p := ⟨gb243, 4, none⟩) (Kd.R_far (p := ⟨gb243, 3, none⟩) (Kd.R_far (p := ⟨gb243, 2, none⟩) (Kd.R_far (p := ⟨gb243, 1, none⟩) (Kd.R_far (p := ⟨gb243, 0, none⟩) (Kd.R_types HO_11.out BK243.out (by decide)) (fun _ hk => hk.2) (.int .i64 ((rd_T37 l0 (rd t231 x14_2)).f0))) (fun _ hk => hk.2) (.int .i64 ((rd_T37 l0 (rd t231 x14_2)).f1))) (fun _ hk => hk.2) (.string ((rd_T37 l0 (rd t231 x14_2)).f2))) (fun _ hk => hk.2) (.slice A242_3 ((rd_T37 l0 (rd t231 x14_2)).f3).length c242_3)) (fun _ hk => hk.2) (.slice A242_4 ((rd_T37 l0 (rd t231 x14_2)).f4).length c242_4)) (fun _ hk => hk.1)⟩, ⟨by (with_reducible repeat (first | apply Kd.R_alloc | apply Kd.R_drewN | apply Kd.R_drew)); exact Kd.R_mono (Kd.R_far (p := ⟨gb243, 4, none⟩) (Kd.R_far (p := ⟨gb243, 3, none⟩) (Kd.R_far (p := ⟨gb243, 2, none⟩) (Kd.R_far (p := ⟨gb243, 1, none⟩) (Kd.R_far (p := ⟨gb243, 0, none⟩) (Kd.R_types HO_12.out BK243.out (by decide)) (fun _ hk => hk.2) (.int .i64 ((rd_T37 l0 (rd t231 x14_2)).f0))) (fun _ hk => hk.2) (.int .i64 ((rd_T37 l0 (rd t231 x14_2)).f1))) (fun _ hk => hk.2) (.string ((rd_T37 l0 (rd t231 x14_2)).f2))) (fun _ hk => hk.2) (.slice A242_3 ((rd_T37 l0 (rd t231 x14_2)).f3).length c242_3)) (fun _ hk => hk.2) (.slice A242_4 ((rd_T37 l0 (rd t231 x14_2)).f4).length c242_4)) (fun _ hk => hk.1)⟩, ⟨by (with_reducible repeat (first | refine blk_drewN ?_ _ | refine blk_drew ?_ | refine blk_alloc ?_ _)); refine blk_put (cs := #[.int .i64 ((rd_T37 l0 (rd t231 x14_2)).f0), .int .i64 ((rd_T37 l0 (rd t231 x14_2)).f1), .string ((rd_T37 l0 (rd t231 x14_2)).f2), .slice A242_3 ((rd_T37 l0 (rd t231 x14_2)).f3).length c242_3, .slice none 0 0]) ?_ 4 _ rfl; (with_reducible repeat (first | refine blk_drewN ?_ _ | refine blk_drew ?_ | refine blk_alloc ?_ _)); refine blk_put (cs := #[.int .i64 ((rd_T37 l0 (rd t231 x14_2)).f0), .int .i64 ((rd_T37 l0 (rd t231 x14_2)).f1), .string ((rd_T37 l0 (rd t231 x14_2)).f2), .slice none 0 0, .slice none 0 0]) ?_ 3 _ rfl; (with_reducible repeat (first | refine blk_drewN ?_ _ | refine blk_drew ?_ | refine blk_alloc ?_ _)); refine blk_put (cs := #[.int .i64 ((rd_T37 l0 (rd t231 x14_2)).f0), .int .i64 ((rd_T37 l0 (rd t231 x14_2)).f1), .string (⟨#[]⟩ : ByteArray), .slice none 0 0, .slice none 0 0]) ?_ 2 _ rfl; (with_reducible repeat (first | refine blk_drewN ?_ _ | refine blk_drew ?_ | refine blk_alloc ?_ _)); refine blk_put (cs := #[.int .i64 ((rd_T37 l0 (rd t231 x14_2)).f0), .int .i64 0, .string (⟨#[]⟩ : ByteArray), .slice none 0 0, .slice none 0 0]) ?_ 1 _ rfl; (with_reducible repeat (first | refine blk_drewN ?_ _ | refine blk_drew ?_ | refine blk_alloc ?_ _)); refine blk_put (cs := #[.int .i64 0, .int .i64 0, .string (⟨#[]⟩ : ByteArray), .slice none 0 0, .slice none 0 0]) ?_ 0 _ rfl; (with_reducible repeat (first | refine blk_drewN ?_ _ | refine blk_drew ?_ | refine blk_alloc ?_ _)); exact BK243.out⟩, ⟨by repeat (first | (with_reducible first | exact HB.out | apply below_alloc | apply pw_below_drewN | apply below_drew1 | refine below_set ?_ GE243.out) | exact HB.out)⟩⟩
                            case rest =>
                              clear HC28
                              try clear c1
                              try clear c2
                              try clear p2
                              try clear q2
                              try clear hx2
                              try clear qi2
                              try clear c3
                              try clear p6
                              try clear c10
                              try clear c10b0
                              try clear c11
                              try clear c11b0
                              try clear c12
                              try clear c12b0
                              try clear c14
                              try clear c14b0
                              try clear c18
                              try clear c18b0
                              try clear c21
                              try clear c21b0
                              try clear c22
                              try clear c22b0
                              try clear c23
                              try clear p23
                              try clear q23
                              try clear hx23
                              try clear c24
                              try clear c24b0
                              try clear p24
                              try clear q24
                              try clear hx24
                              try clear qi24
                              try clear c25
                              try clear c25b0
                              try clear c26
                              try clear c26b0
                              try clear c27
                              try clear c27b0
                              try clear c30
                              try clear c31
                              try clear c31b0
                              try clear c31b1
                              try clear c32
                              try clear c32b0
                              try clear c32b1
                              try clear c33
                              try clear c33b0
                              try clear c34
                              try clear c34b0
                              try clear c35
                              try clear c35b0
                              try clear c36
                              try clear c36b0
                              try clear hcz30_0
                              try clear hcz30_1
                              try clear hcz30_2
                              try clear hcz30_3
                              try clear hcz30_4
                              try clear hcz37_0
                              try clear hcz37_1
                              try clear hcz37_2
                              try clear hcz37_3
                              try clear hcz37_4
                              try clear hcz38_0
                              try clear hcz38_1
                              try clear hcz38_2
                              try clear hcz38_3
                              try clear hcz38_4
                              try clear hfz30_0
                              try clear hfz30_1
                              try clear hfz30_2
                              try clear hfz30_3
                              try clear hfz30_4
                              try clear hfz37_0
                              try clear hfz37_1
                              try clear hfz37_2
                              try clear hfz37_3
                              try clear hfz37_4
                              try clear hfz38_0
                              try clear hfz38_1
                              try clear hfz38_2
                              try clear hfz38_3
                              try clear hfz38_4
                              try clear hx237_0
                              try clear hx238_0
                              try clear hx239_0
                              try clear hx240_0
                              try clear hx241_0
                              try clear hx242_0
                              try clear hx242_1
                              try clear hx242_2
                              try clear hx242_3
                              try clear hx242_4
                              try clear hx244_0
                              try clear hx245_0
                              try clear hx246_0
                              try clear p2
                              try clear p237
                              try clear p238
                              try clear p239
                              try clear p240
                              try clear p241
                              try clear p242
                              try clear p244
                              try clear p245
                              try clear p246
                              try clear p6
                              try clear q2
                              try clear q237
                              try clear q238
                              try clear q239
                              try clear q240
                              try clear q241
                              try clear q242
                              try clear q244
                              try clear q245
                              try clear q246
                              obtain ⟨kq, x16_27, rfl, HA, HJ27, HO_11, HO_12, BK243, HB⟩ := hcut
                              cases kq with
                              | zero => exact absurd HA.out (by simp [armillarylaw08_holds.j3])
                              | succ kj27 =>
                                have H := HA.out
                                clear HA
                                simp only [armillarylaw08_holds.j3] at H
                                have H' := Aside0.mk H
                                clear H
                                go_wp2
                                go_loopg [16, 17] kj27 (fun kq v16 v17 w' => ∃ (x16_5 : Bool) (x17_5 : Int), v16 = .bool x16_5 ∧ v17 = .int .i64 x17_5 ∧ Aside0 (armillarylaw08_holds.l2 kq l0 l1 a3 a4 t231 t234 x14_2 x16_5 x17_5 ((rd_T37 l0 (rd t231 x14_2)).f0) ((rd_T37 l0 (rd t231 x14_2)).f1) ((rd_T37 l0 (rd t231 x14_2)).f2) ((rd_T37 l0 (rd t231 x14_2)).f3) ((rd_T37 l0 (rd t231 x14_2)).f4) = some r) ∧ Aside0 (kq ≤ kj27) ∧ Aside0 (Kd.R (Kd.int .i64) 3 w' w.heap.size (fun k_ => some k_ ≠ ((.slice Ao17 t234.length co17) : Value).ownBlock) (.slice (some ad241) t231.length co20) t231) ∧ Aside0 (Kd.R (Kd.int .i64) 3 w' w.heap.size (fun k_ => some k_ ≠ ((.slice (some ad241) t231.length co20) : Value).ownBlock) (.slice Ao17 t234.length co17) t234) ∧ Aside0 (w'.heap[gb243]? = some (.cells #[.int .i64 ((rd_T37 l0 (rd t231 x14_2)).f0), .int .i64 ((rd_T37 l0 (rd t231 x14_2)).f1), .string ((rd_T37 l0 (rd t231 x14_2)).f2), (.slice A242_3 ((rd_T37 l0 (rd t231 x14_2)).f3).length c242_3), (.slice A242_4 ((rd_T37 l0 (rd t231 x14_2)).f4).length c242_4)] 37 (0, 0))) ∧ Aside0 (Below w.heap.size w w'))
                                case atStart => exact ⟨(x16_27), (0), (by first | rfl | (simp; done) | (simp [*]; done)), (by first | rfl | (simp; done) | (simp [*]; done)), H', ⟨Nat.le_refl _⟩, ⟨by (with_reducible repeat (first | apply Kd.R_alloc | apply Kd.R_drewN | apply Kd.R_drew)); exact HO_11.out⟩, ⟨by (with_reducible repeat (first | apply Kd.R_alloc | apply Kd.R_drewN | apply Kd.R_drew)); exact HO_12.out⟩, ⟨by (with_reducible repeat (first | refine blk_drewN ?_ _ | refine blk_drew ?_ | refine blk_alloc ?_ _)); exact BK243.out⟩, ⟨by repeat (first | (with_reducible first | exact HB.out | apply below_alloc | apply pw_below_drewN | apply below_drew1 | refine below_set ?_ GE243.out) | exact HB.out)⟩⟩
                                case round =>
                                  clear H'
                                  try clear c1
                                  try clear c2
                                  try clear p2
                                  try clear q2
                                  try clear hx2
                                  try clear qi2
                                  try clear c3
                                  try clear p6
                                  try clear c10
                                  try clear c10b0
                                  try clear c11
                                  try clear c11b0
                                  try clear c12
                                  try clear c12b0
                                  try clear c14
                                  try clear c14b0
                                  try clear c18
                                  try clear c18b0
                                  try clear c21
                                  try clear c21b0
                                  try clear c22
                                  try clear c22b0
                                  try clear c23
                                  try clear p23
                                  try clear q23
                                  try clear hx23
                                  try clear c24
                                  try clear c24b0
                                  try clear p24
                                  try clear q24
                                  try clear hx24
                                  try clear qi24
                                  try clear c25
                                  try clear c25b0
                                  try clear c26
                                  try clear c26b0
                                  try clear c27
                                  try clear c27b0
                                  try clear c30
                                  try clear c31
                                  try clear c31b0
                                  try clear c31b1
                                  try clear c32
                                  try clear c32b0
                                  try clear c32b1
                                  try clear c33
                                  try clear c33b0
                                  try clear c34
                                  try clear c34b0
                                  try clear c35
                                  try clear c35b0
                                  try clear c36
                                  try clear c36b0
                                  try clear hcz30_0
                                  try clear hcz30_1
                                  try clear hcz30_2
                                  try clear hcz30_3
                                  try clear hcz30_4
                                  try clear hcz37_0
                                  try clear hcz37_1
                                  try clear hcz37_2
                                  try clear hcz37_3
                                  try clear hcz37_4
                                  try clear hcz38_0
                                  try clear hcz38_1
                                  try clear hcz38_2
                                  try clear hcz38_3
                                  try clear hcz38_4
                                  try clear hfz30_0
                                  try clear hfz30_1
                                  try clear hfz30_2
                                  try clear hfz30_3
                                  try clear hfz30_4
                                  try clear hfz37_0
                                  try clear hfz37_1
                                  try clear hfz37_2
                                  try clear hfz37_3
                                  try clear hfz37_4
                                  try clear hfz38_0
                                  try clear hfz38_1
                                  try clear hfz38_2
                                  try clear hfz38_3
                                  try clear hfz38_4
                                  try clear hx237_0
                                  try clear hx238_0
                                  try clear hx239_0
                                  try clear hx240_0
                                  try clear hx241_0
                                  try clear hx242_0
                                  try clear hx242_1
                                  try clear hx242_2
                                  try clear hx242_3
                                  try clear hx242_4
                                  try clear hx244_0
                                  try clear hx245_0
                                  try clear hx246_0
                                  try clear p2
                                  try clear p23
                                  try clear p237
                                  try clear p238
                                  try clear p239
                                  try clear p24
                                  try clear p240
                                  try clear p241
                                  try clear p242
                                  try clear p244
                                  try clear p245
                                  try clear p246
                                  try clear p6
                                  try clear q2
                                  try clear q23
                                  try clear q237
                                  try clear q238
                                  try clear q239
                                  try clear q24
                                  try clear q240
                                  try clear q241
                                  try clear q242
                                  try clear q244
                                  try clear q245
                                  try clear q246
                                  obtain ⟨x16_5, x17_5, rfl, rfl, HA, HK5, HO_11, HO_12, BK243, HB⟩ := hrel
                                  cases gk with
                                  | zero => exact absurd HA.out (by simp [armillarylaw08_holds.l2])
                                  | succ k5 =>
                                    have H := HA.out
                                    clear HA
                                    simp only [armillarylaw08_holds.l2] at H
                                    by_cases c39 : x17_5 < (t234.length : Int)
                                    · rw [if_pos c39] at H
                                      have c39b0 : decide (x17_5 < (t234.length : Int)) = true := decide_eq_true c39
                                      clear c39
                                      by_cases c40 : x16_5 = true
                                      · subst c40
                                        have H1 : (armillarylaw08_holds.l2 k5 l0 l1 a3 a4 t231 t234 x14_2 true (wrap64 (x17_5 + 1)) ((rd_T37 l0 (rd t231 x14_2)).f0) ((rd_T37 l0 (rd t231 x14_2)).f1) ((rd_T37 l0 (rd t231 x14_2)).f2) ((rd_T37 l0 (rd t231 x14_2)).f3) ((rd_T37 l0 (rd t231 x14_2)).f4)) = some r := by rw [if_pos rfl] at H; exact H
                                        clear H
                                        have H := H1
                                        clear H1
                                        have H' := Aside0.mk H
                                        clear H
                                        try go_wp2
                                        have n0_ := Aside0.mk (Kd.R_drew HO_11.out)
                                        have n1_ := Aside0.mk (Kd.R_drew HO_12.out)
                                        have n2_ := Aside0.mk (blk_drew BK243.out)
                                        have n3_ := Aside0.mk (below_drew1 HB.out)
                                        clear HO_11
                                        clear HO_12
                                        clear BK243
                                        clear HB
                                        have HO_11 := n0_
                                        have HO_12 := n1_
                                        have BK243 := n2_
                                        have HB := n3_
                                        clear n0_ n1_ n2_ n3_
                                        refine start_ (n := 15) (S := fun w' => True) (ds := []) #[false, false, false, false, false, false, false, false, false, false, false, false, false, false, false] (by kernel_rfl) rfl rfl trivial (fun hHeld => ?_); refine with_tabW armillarylaw08_holds.tab17 armillarylaw08_holds.bits17 (fun HT_ HW_ => ?_)
                                        generalize wr.drew = w41 at HO_11 HO_12 BK243 HB hHeld ⊢
                                        refine pure_ (i := 0) (N := some 92) (v := ?_) (a' := ?_) #[true, false, false, false, false, false, false, false, false, false, false, false, false, false, false] rfl rfl (any_of HT_.out (by kernel_rfl)) (fun _ _ _ h => h) (Or.inl ⟨by rfl, ?_⟩) ?_ ?_
                                        rotate_left
                                        · intro w'
                                          go_simp
                                          with_reducible rfl
                                        rotate_left
                                        · simp only [Act.put, List.setIfInBounds_toArray, List.set_cons_zero, List.set_cons_succ, i64_w, i32_w]
                                          rfl
                                        refine pure_ (i := 1) (N := some 93) (v := ?_) (a' := ?_) #[true, true, false, false, false, false, false, false, false, false, false, false, false, false, false] rfl rfl (any_of HT_.out (by kernel_rfl)) (fun _ _ _ h => h) (Or.inl ⟨by rfl, ?_⟩) ?_ ?_
                                        rotate_left
                                        · intro w'
                                          go_simp
                                          with_reducible rfl
                                        rotate_left
                                        · simp only [Act.put, List.setIfInBounds_toArray, List.set_cons_zero, List.set_cons_succ, i64_w, i32_w]
                                          rfl
                                        refine pure_ (i := 2) (N := some 94) (v := undef) (a' := ?_) #[true, true, true, false, false, false, false, false, false, false, false, false, false, false, false] rfl rfl (any_of HT_.out (by kernel_rfl)) (fun _ _ _ h => h) (Or.inr ⟨by rfl, rfl⟩) ?_ ?_
                                        rotate_left
                                        · simp only [Act.put, List.setIfInBounds_toArray, List.set_cons_zero, List.set_cons_succ, i64_w, i32_w]
                                          rfl
                                        refine pure_ (i := 3) (N := some 95) (v := undef) (a' := ?_) #[true, true, true, true, false, false, false, false, false, false, false, false, false, false, false] rfl rfl (any_of HT_.out (by kernel_rfl)) (fun _ _ _ h => h) (Or.inr ⟨by rfl, rfl⟩) ?_ ?_
                                        rotate_left
                                        · simp only [Act.put, List.setIfInBounds_toArray, List.set_cons_zero, List.set_cons_succ, i64_w, i32_w]
                                          rfl
                                        refine pure_ (i := 4) (N := some 96) (v := undef) (a' := ?_) #[true, true, true, true, true, false, false, false, false, false, false, false, false, false, false] rfl rfl (any_of HT_.out (by kernel_rfl)) (fun _ _ _ h => h) (Or.inr ⟨by rfl, rfl⟩) ?_ ?_
                                        rotate_left
                                        · simp only [Act.put, List.setIfInBounds_toArray, List.set_cons_zero, List.set_cons_succ, i64_w, i32_w]
                                          rfl
                                        refine pure_ (i := 5) (N := some 97) (v := undef) (a' := ?_) #[true, true, true, true, true, true, false, false, false, false, false, false, false, false, false] rfl rfl (any_of HT_.out (by kernel_rfl)) (fun _ _ _ h => h) (Or.inr ⟨by rfl, rfl⟩) ?_ ?_
                                        rotate_left
                                        · simp only [Act.put, List.setIfInBounds_toArray, List.set_cons_zero, List.set_cons_succ, i64_w, i32_w]
                                          rfl
                                        refine pure_ (i := 6) (N := some 98) (v := undef) (a' := ?_) #[true, true, true, true, true, true, true, false, false, false, false, false, false, false, false] rfl rfl (any_of HT_.out (by kernel_rfl)) (fun _ _ _ h => h) (Or.inr ⟨by rfl, rfl⟩) ?_ ?_
                                        rotate_left
                                        · simp only [Act.put, List.setIfInBounds_toArray, List.set_cons_zero, List.set_cons_succ, i64_w, i32_w]
                                          rfl
                                        refine pure_ (i := 7) (N := some 99) (v := undef) (a' := ?_) #[true, true, true, true, true, true, true, true, false, false, false, false, false, false, false] rfl rfl (any_of HT_.out (by kernel_rfl)) (fun _ _ _ h => h) (Or.inr ⟨by rfl, rfl⟩) ?_ ?_
                                        rotate_left
                                        · simp only [Act.put, List.setIfInBounds_toArray, List.set_cons_zero, List.set_cons_succ, i64_w, i32_w]
                                          rfl
                                        refine pure_ (i := 8) (N := some 100) (v := undef) (a' := ?_) #[true, true, true, true, true, true, true, true, true, false, false, false, false, false, false] rfl rfl (any_of HT_.out (by kernel_rfl)) (fun _ _ _ h => h) (Or.inr ⟨by rfl, rfl⟩) ?_ ?_
                                        rotate_left
                                        · simp only [Act.put, List.setIfInBounds_toArray, List.set_cons_zero, List.set_cons_succ, i64_w, i32_w]
                                          rfl
                                        refine pure_ (i := 9) (N := some 101) (v := undef) (a' := ?_) #[true, true, true, true, true, true, true, true, true, true, false, false, false, false, false] rfl rfl (any_of HT_.out (by kernel_rfl)) (fun _ _ _ h => h) (Or.inr ⟨by rfl, rfl⟩) ?_ ?_
                                        rotate_left
                                        · simp only [Act.put, List.setIfInBounds_toArray, List.set_cons_zero, List.set_cons_succ, i64_w, i32_w]
                                          rfl
                                        refine pure_ (i := 10) (N := some 102) (v := undef) (a' := ?_) #[true, true, true, true, true, true, true, true, true, true, true, false, false, false, false] rfl rfl (any_of HT_.out (by kernel_rfl)) (fun _ _ _ h => h) (Or.inr ⟨by rfl, rfl⟩) ?_ ?_
                                        rotate_left
                                        · simp only [Act.put, List.setIfInBounds_toArray, List.set_cons_zero, List.set_cons_succ, i64_w, i32_w]
                                          rfl
                                        refine pure_ (i := 11) (N := some 103) (v := undef) (a' := ?_) #[true, true, true, true, true, true, true, true, true, true, true, true, false, false, false] rfl rfl (any_of HT_.out (by kernel_rfl)) (fun _ _ _ h => h) (Or.inr ⟨by rfl, rfl⟩) ?_ ?_
                                        rotate_left
                                        · simp only [Act.put, List.setIfInBounds_toArray, List.set_cons_zero, List.set_cons_succ, i64_w, i32_w]
                                          rfl
                                        refine pure_ (i := 12) (N := some 104) (v := undef) (a' := ?_) #[true, true, true, true, true, true, true, true, true, true, true, true, true, false, false] rfl rfl (any_of HT_.out (by kernel_rfl)) (fun _ _ _ h => h) (Or.inr ⟨by rfl, rfl⟩) ?_ ?_
                                        rotate_left
                                        · simp only [Act.put, List.setIfInBounds_toArray, List.set_cons_zero, List.set_cons_succ, i64_w, i32_w]
                                          rfl
                                        refine pure_ (i := 13) (N := some 105) (v := ?_) (a' := ?_) #[true, true, true, true, true, true, true, true, true, true, true, true, true, true, false] rfl rfl (any_of HT_.out (by kernel_rfl)) (fun _ _ _ h => h) (Or.inl ⟨by rfl, ?_⟩) ?_ ?_
                                        rotate_left
                                        · intro w'
                                          go_simp
                                          with_reducible rfl
                                        rotate_left
                                        · simp only [Act.put, List.setIfInBounds_toArray, List.set_cons_zero, List.set_cons_succ, i64_w, i32_w]
                                          rfl
                                        refine pure_ (i := 14) (N := some 16) (v := ?_) (a' := ?_) #[true, true, true, true, true, true, true, true, true, true, true, true, true, true, true] rfl rfl (any_of HT_.out (by kernel_rfl)) (fun _ _ _ h => h) (Or.inl ⟨by rfl, ?_⟩) ?_ ?_
                                        rotate_left
                                        · intro w'
                                          go_simp
                                          with_reducible rfl
                                        rotate_left
                                        · simp only [Act.put, List.setIfInBounds_toArray, List.set_cons_zero, List.set_cons_succ, i64_w, i32_w]
                                          rfl
                                        refine done_ (done_of HT_.out (by kernel_rfl)) ?_
                                        try go_wp2
                                        go_roundg k5
                                        case measure => have := HK1.out; have := HK2.out; have := HJ18.out; have := HJ27.out; have := HK5.out; omega
                                        case rel => exact ⟨(true), (wrap64 (x17_5 + 1)), (by first | rfl | (simp; done) | (simp [*]; done)), (by first | rfl | (simp; done) | (simp [*]; done)), H', ⟨by have := HK1.out; have := HK2.out; have := HJ18.out; have := HJ27.out; have := HK5.out; omega⟩, ⟨by (with_reducible repeat (first | apply Kd.R_alloc | apply Kd.R_drewN | apply Kd.R_drew)); exact HO_11.out⟩, ⟨by (with_reducible repeat (first | apply Kd.R_alloc | apply Kd.R_drewN | apply Kd.R_drew)); exact HO_12.out⟩, ⟨by (with_reducible repeat (first | refine blk_drewN ?_ _ | refine blk_drew ?_ | refine blk_alloc ?_ _)); exact BK243.out⟩, ⟨by repeat (first | (with_reducible first | exact HB.out | apply below_alloc | apply pw_below_drewN | apply below_drew1 | refine below_set ?_ GE243.out) | exact HB.out)⟩⟩
                                      · replace c40 := Bool.eq_false_iff.mpr c40
                                        subst c40
                                        have H1 : (if 0 ≤ x17_5 then (if 0 ≤ (rd t234 x17_5) then (if (rd t234 x17_5) < (l0.length : Int) then ((armillarylaw08_one.f k5 ((rd_T37 l0 (rd t231 x14_2)).f0) ((rd_T37 l0 (rd t231 x14_2)).f1) ((rd_T37 l0 (rd t231 x14_2)).f2) ((rd_T37 l0 (rd t231 x14_2)).f3) ((rd_T37 l0 (rd t231 x14_2)).f4) ((rd_T37 l0 (rd t234 x17_5)).f0) ((rd_T37 l0 (rd t234 x17_5)).f1) ((rd_T37 l0 (rd t234 x17_5)).f2) ((rd_T37 l0 (rd t234 x17_5)).f3) ((rd_T37 l0 (rd t234 x17_5)).f4) l1 a4).bind fun t249 => (armillarylaw08_holds.l2 k5 l0 l1 a3 a4 t231 t234 x14_2 t249 (wrap64 (x17_5 + 1)) ((rd_T37 l0 (rd t231 x14_2)).f0) ((rd_T37 l0 (rd t231 x14_2)).f1) ((rd_T37 l0 (rd t231 x14_2)).f2) ((rd_T37 l0 (rd t231 x14_2)).f3) ((rd_T37 l0 (rd t231 x14_2)).f4))) else (none)) else (none)) else (none)) = some r := by rw [if_neg (show ¬ (false = true) by decide)] at H; exact H
                                        clear H
                                        have H := H1
                                        clear H1
                                        by_cases c42 : 0 ≤ x17_5
                                        · rw [if_pos c42] at H
                                          have c42b0 : decide (0 ≤ x17_5) = true := decide_eq_true c42
                                          clear c42
                                          by_cases c43 : 0 ≤ (rd t234 x17_5)
                                          · rw [if_pos c43] at H
                                            have c43b0 : decide (0 ≤ (rd t234 x17_5)) = true := decide_eq_true c43
                                            clear c43
                                            by_cases c44 : (rd t234 x17_5) < (l0.length : Int)
                                            · rw [if_pos c44] at H
                                              have c44b0 : decide ((rd t234 x17_5) < (l0.length : Int)) = true := decide_eq_true c44
                                              clear c44
                                              replace H := Option.bind_eq_some_iff.mp H
                                              obtain ⟨t249, A450, H⟩ := H
                                              replace H : (armillarylaw08_holds.l2 k5 l0 l1 a3 a4 t231 t234 x14_2 t249 (wrap64 (x17_5 + 1)) ((rd_T37 l0 (rd t231 x14_2)).f0) ((rd_T37 l0 (rd t231 x14_2)).f1) ((rd_T37 l0 (rd t231 x14_2)).f2) ((rd_T37 l0 (rd t231 x14_2)).f3) ((rd_T37 l0 (rd t231 x14_2)).f4)) = some r := H
                                              have A45 := Aside0.mk A450
                                              clear A450
                                              have H' := Aside0.mk H
                                              clear H
                                              try go_wp2
                                              have n0_ := Aside0.mk (Kd.R_drew HO_11.out)
                                              have n1_ := Aside0.mk (Kd.R_drew HO_12.out)
                                              have n2_ := Aside0.mk (blk_drew BK243.out)
                                              have n3_ := Aside0.mk (below_drew1 HB.out)
                                              clear HO_11
                                              clear HO_12
                                              clear BK243
                                              clear HB
                                              have HO_11 := n0_
                                              have HO_12 := n1_
                                              have BK243 := n2_
                                              have HB := n3_
                                              clear n0_ n1_ n2_ n3_
                                              have p247 : 0 ≤ (x17_5 : Int) := of_decide_eq_true (by first | (with_reducible assumption) | assumption)
                                              have q247 : x17_5 < (t234.length : Int) := of_decide_eq_true (by first | (with_reducible assumption) | assumption)
                                              obtain ⟨ad247, e247, hx247_0⟩ := Kd.at_int (Kd.R_reads' HO_12.out).2.2 x17_5 p247 q247
                                              cases e247
                                              replace p247 := eq_true p247
                                              replace q247 := eq_true q247
                                              have p248 : 0 ≤ ((rd t234 x17_5) : Int) := of_decide_eq_true (by first | (with_reducible assumption) | assumption)
                                              have q248 : (rd t234 x17_5) < (l0.length : Int) := of_decide_eq_true (by first | (with_reducible assumption) | assumption)
                                              obtain ⟨ad248, A248_3, c248_3, A248_4, c248_4, e248, hx248_0, hx248_1, hx248_2, hx248_3, hx248_4, hl248_3, hi248_3, hl248_4, hi248_4⟩ := at_T37 HR0.out (rd t234 x17_5) p248 q248
                                              have hw248_4 := hx248_4
                                              have hw248_3 := hx248_3
                                              have hw248_2 := hx248_2
                                              have hw248_1 := hx248_1
                                              have hw248_0 := hx248_0
                                              obtain rfl : ad242 = ad248 := (by injection e248)
                                              replace hx248_0 := (HB.out.cell (World.block_lt_of_cell? w _ hx248_0)).trans hx248_0
                                              replace hx248_1 := (HB.out.cell (World.block_lt_of_cell? w _ hx248_1)).trans hx248_1
                                              replace hx248_2 := (HB.out.cell (World.block_lt_of_cell? w _ hx248_2)).trans hx248_2
                                              replace hx248_3 := (HB.out.cell (World.block_lt_of_cell? w _ hx248_3)).trans hx248_3
                                              replace hx248_4 := (HB.out.cell (World.block_lt_of_cell? w _ hx248_4)).trans hx248_4
                                              have HR248_3 := Aside0.mk hi248_3
                                              have HC248_3 := Aside0.mk hl248_3
                                              clear hi248_3 hl248_3
                                              have HR248_4 := Aside0.mk hi248_4
                                              have HC248_4 := Aside0.mk hl248_4
                                              clear hi248_4 hl248_4
                                              replace p248 := eq_true p248
                                              replace q248 := eq_true q248
                                              refine start_ (n := 15) (S := fun w' => w'.cell? ⟨gb243, 0, none⟩ = some (.int .i64 ((rd_T37 l0 (rd t231 x14_2)).f0)) ∧ w'.cell? ⟨gb243, 1, none⟩ = some (.int .i64 ((rd_T37 l0 (rd t231 x14_2)).f1)) ∧ w'.cell? ⟨gb243, 2, none⟩ = some (.string ((rd_T37 l0 (rd t231 x14_2)).f2)) ∧ w'.cell? ⟨gb243, 3, none⟩ = some (.slice A242_3 ((rd_T37 l0 (rd t231 x14_2)).f3).length c242_3) ∧ w'.cell? ⟨gb243, 4, none⟩ = some (.slice A242_4 ((rd_T37 l0 (rd t231 x14_2)).f4).length c242_4) ∧ w'.cell? (ad247.add (x17_5).toNat) = some (.int .i64 (rd t234 x17_5)) ∧ w'.cell? (ad242.add (((rd t234 x17_5)).toNat * 5)) = some (.int .i64 ((rd_T37 l0 (rd t234 x17_5)).f0)) ∧ w'.cell? ⟨(ad242.add (((rd t234 x17_5)).toNat * 5)).block, (ad242.add (((rd t234 x17_5)).toNat * 5)).off + 1, none⟩ = some (.int .i64 ((rd_T37 l0 (rd t234 x17_5)).f1)) ∧ w'.cell? ⟨(ad242.add (((rd t234 x17_5)).toNat * 5)).block, (ad242.add (((rd t234 x17_5)).toNat * 5)).off + 2, none⟩ = some (.string ((rd_T37 l0 (rd t234 x17_5)).f2)) ∧ w'.cell? ⟨(ad242.add (((rd t234 x17_5)).toNat * 5)).block, (ad242.add (((rd t234 x17_5)).toNat * 5)).off + 3, none⟩ = some (.slice A248_3 ((rd_T37 l0 (rd t234 x17_5)).f3).length c248_3) ∧ w'.cell? ⟨(ad242.add (((rd t234 x17_5)).toNat * 5)).block, (ad242.add (((rd t234 x17_5)).toNat * 5)).off + 4, none⟩ = some (.slice A248_4 ((rd_T37 l0 (rd t234 x17_5)).f4).length c248_4)) (ds := []) #[false, false, false, false, false, false, false, false, false, false, false, false, false, false, false] (by kernel_rfl) rfl rfl ⟨(blk_cell BK243.out 0).trans rfl, (blk_cell BK243.out 1).trans rfl, (blk_cell BK243.out 2).trans rfl, (blk_cell BK243.out 3).trans rfl, (blk_cell BK243.out 4).trans rfl, hx247_0, ((HB.out.cell (World.block_lt_of_cell? w _ hw248_0)).trans hw248_0), ((HB.out.cell (World.block_lt_of_cell? w _ hw248_1)).trans hw248_1), ((HB.out.cell (World.block_lt_of_cell? w _ hw248_2)).trans hw248_2), ((HB.out.cell (World.block_lt_of_cell? w _ hw248_3)).trans hw248_3), ((HB.out.cell (World.block_lt_of_cell? w _ hw248_4)).trans hw248_4)⟩ (fun hHeld => ?_); refine with_tabW armillarylaw08_holds.tab17 armillarylaw08_holds.bits17 (fun HT_ HW_ => ?_)
                                              generalize wr.drew = w46 at HO_11 HO_12 BK243 HB HR248_3 HR248_4 hx247_0 hx248_0 hx248_1 hx248_2 hx248_3 hx248_4 hHeld ⊢
                                              refine pure_ (i := 0) (N := some 92) (v := ?_) (a' := ?_) #[true, false, false, false, false, false, false, false, false, false, false, false, false, false, false] rfl rfl (any_of HT_.out (by kernel_rfl)) (fun _ _ _ h => h) (Or.inl ⟨by rfl, ?_⟩) ?_ ?_
                                              rotate_left
                                              · intro w'
                                                go_simp
                                                with_reducible rfl
                                              rotate_left
                                              · simp only [Act.put, List.setIfInBounds_toArray, List.set_cons_zero, List.set_cons_succ, i64_w, i32_w]
                                                rfl
                                              refine pure_ (i := 1) (N := some 93) (v := ?_) (a' := ?_) #[true, true, false, false, false, false, false, false, false, false, false, false, false, false, false] rfl rfl (any_of HT_.out (by kernel_rfl)) (fun _ _ _ h => h) (Or.inl ⟨by rfl, ?_⟩) ?_ ?_
                                              rotate_left
                                              · intro w'
                                                go_simp
                                                with_reducible rfl
                                              rotate_left
                                              · simp only [Act.put, List.setIfInBounds_toArray, List.set_cons_zero, List.set_cons_succ, i64_w, i32_w]
                                                rfl
                                              refine pure_ (i := 3) (N := some 95) (v := ?_) (a' := ?_) #[true, true, false, true, false, false, false, false, false, false, false, false, false, false, false] rfl rfl (any_of HT_.out (by kernel_rfl)) (fun _ _ _ h => h) (Or.inl ⟨by rfl, ?_⟩) ?_ ?_
                                              rotate_left
                                              · intro w'
                                                go_simp
                                                with_reducible rfl
                                              rotate_left
                                              · simp only [Act.put, List.setIfInBounds_toArray, List.set_cons_zero, List.set_cons_succ, i64_w, i32_w]
                                                rfl
                                              refine pure_ (i := 4) (N := some 96) (v := ?_) (a' := ?_) #[true, true, false, true, true, false, false, false, false, false, false, false, false, false, false] rfl rfl (any_of HT_.out (by kernel_rfl)) (fun _ _ _ h => h) (Or.inl ⟨by rfl, ?_⟩) ?_ ?_
                                              rotate_left
                                              · intro w'
                                                go_simp
                                                with_reducible rfl
                                              rotate_left
                                              · simp only [Act.put, List.setIfInBounds_toArray, List.set_cons_zero, List.set_cons_succ, i64_w, i32_w]
                                                rfl
                                              refine pure_ (i := 5) (N := some 97) (v := ?_) (a' := ?_) #[true, true, false, true, true, true, false, false, false, false, false, false, false, false, false] rfl rfl (any_of HT_.out (by kernel_rfl)) (fun _ _ _ h => h) (Or.inl ⟨by rfl, ?_⟩) ?_ ?_
                                              rotate_left
                                              · intro w'
                                                go_simp
                                                with_reducible rfl
                                              rotate_left
                                              · simp only [Act.put, List.setIfInBounds_toArray, List.set_cons_zero, List.set_cons_succ, i64_w, i32_w]
                                                rfl
                                              refine pure_ (i := 6) (N := some 98) (v := ?_) (a' := ?_) #[true, true, false, true, true, true, true, false, false, false, false, false, false, false, false] rfl rfl (any_of HT_.out (by kernel_rfl)) (fun _ _ _ h => h) (Or.inl ⟨by rfl, ?_⟩) ?_ ?_
                                              rotate_left
                                              · intro w'
                                                go_simp
                                                with_reducible rfl
                                              rotate_left
                                              · simp only [Act.put, List.setIfInBounds_toArray, List.set_cons_zero, List.set_cons_succ, i64_w, i32_w]
                                                rfl
                                              refine pure_ (i := 10) (N := some 102) (v := ?_) (a' := ?_) #[true, true, false, true, true, true, true, false, false, false, true, false, false, false, false] rfl rfl (any_of HT_.out (by kernel_rfl)) (fun _ _ _ h => h) (Or.inl ⟨by rfl, ?_⟩) ?_ ?_
                                              rotate_left
                                              · intro w'
                                                go_simp
                                                with_reducible rfl
                                              rotate_left
                                              · simp only [Act.put, List.setIfInBounds_toArray, List.set_cons_zero, List.set_cons_succ, i64_w, i32_w]
                                                rfl
                                              refine pure_ (i := 11) (N := some 103) (v := ?_) (a' := ?_) #[true, true, false, true, true, true, true, false, false, false, true, true, false, false, false] rfl rfl (any_of HT_.out (by kernel_rfl)) (fun _ _ _ h => h) (Or.inl ⟨by rfl, ?_⟩) ?_ ?_
                                              rotate_left
                                              · intro w'
                                                go_simp
                                                with_reducible rfl
                                              rotate_left
                                              · simp only [Act.put, List.setIfInBounds_toArray, List.set_cons_zero, List.set_cons_succ, i64_w, i32_w]
                                                rfl
                                              refine take_ (i := 2) (N := some 94) (v := ?_) (a' := ?_) #[true, true, true, true, true, true, true, false, false, false, true, true, false, false, false] rfl rfl (take_ofW HT_.out HW_.out (by kernel_rfl)) (fun _ _ _ h => h) (Or.inl ⟨by rfl, ?_⟩) hHeld ?_ ?_
                                              rotate_left
                                              · rintro w' ⟨s0, s1, s2, s3, s4, s5, s6, s7, s8, s9, s10⟩
                                                go_simp
                                                with_reducible rfl
                                              rotate_left
                                              · simp only [Act.put, List.setIfInBounds_toArray, List.set_cons_zero, List.set_cons_succ, i64_w, i32_w]
                                                rfl
                                              refine take_ (i := 7) (N := some 99) (v := ?_) (a' := ?_) #[true, true, true, true, true, true, true, true, false, false, true, true, false, false, false] rfl rfl (take_ofW HT_.out HW_.out (by kernel_rfl)) (fun _ _ _ h => h) (Or.inl ⟨by rfl, ?_⟩) hHeld ?_ ?_
                                              rotate_left
                                              · rintro w' ⟨s0, s1, s2, s3, s4, s5, s6, s7, s8, s9, s10⟩
                                                go_simp
                                                with_reducible rfl
                                              rotate_left
                                              · simp only [Act.put, List.setIfInBounds_toArray, List.set_cons_zero, List.set_cons_succ, i64_w, i32_w]
                                                rfl
                                              refine pure_ (i := 8) (N := some 100) (v := ?_) (a' := ?_) #[true, true, true, true, true, true, true, true, true, false, true, true, false, false, false] rfl rfl (any_of HT_.out (by kernel_rfl)) (fun _ _ _ h => h) (Or.inl ⟨by rfl, ?_⟩) ?_ ?_
                                              rotate_left
                                              · intro w'
                                                go_simp
                                                with_reducible rfl
                                              rotate_left
                                              · simp only [Act.put, List.setIfInBounds_toArray, List.set_cons_zero, List.set_cons_succ, i64_w, i32_w]
                                                rfl
                                              refine take_ (i := 9) (N := some 101) (v := ?_) (a' := ?_) #[true, true, true, true, true, true, true, true, true, true, true, true, false, false, false] rfl rfl (take_ofW HT_.out HW_.out (by kernel_rfl)) (fun _ _ _ h => h) (Or.inl ⟨by rfl, ?_⟩) hHeld ?_ ?_
                                              rotate_left
                                              · rintro w' ⟨s0, s1, s2, s3, s4, s5, s6, s7, s8, s9, s10⟩
                                                go_simp
                                                with_reducible rfl
                                              rotate_left
                                              · simp only [Act.put, List.setIfInBounds_toArray, List.set_cons_zero, List.set_cons_succ, i64_w, i32_w]
                                                rfl
                                              refine one_ (i := 12) (N := some 104) #[true, true, true, true, true, true, true, true, true, true, true, true, true, false, false] rfl rfl (one_of HT_.out (by kernel_rfl)) (by decide) (fun K hK => ?_)
                                              refine goes_ Tryd.func52 (by kernel_rfl) rfl #[.agg #[.int .i64 ((rd_T37 l0 (rd t231 x14_2)).f0), .int .i64 ((rd_T37 l0 (rd t231 x14_2)).f1), .string ((rd_T37 l0 (rd t231 x14_2)).f2), .slice A242_3 ((rd_T37 l0 (rd t231 x14_2)).f3).length c242_3, .slice A242_4 ((rd_T37 l0 (rd t231 x14_2)).f4).length c242_4], .agg #[.int .i64 ((rd_T37 l0 (rd t234 x17_5)).f0), .int .i64 ((rd_T37 l0 (rd t234 x17_5)).f1), .string ((rd_T37 l0 (rd t234 x17_5)).f2), .slice A248_3 ((rd_T37 l0 (rd t234 x17_5)).f3).length c248_3, .slice A248_4 ((rd_T37 l0 (rd t234 x17_5)).f4).length c248_4], .slice A1 l1.length c1, .bool a4] (by rfl) rfl rfl (by (try simp only [List.map_toArray, List.map_cons, List.map_nil]); first | done | rfl | (simp only [List.length_drop, List.length_take]; rfl)) ?_
                                              with_reducible refine (armillarylaw08_one.calls k5 ((rd_T37 l0 (rd t231 x14_2)).f0) ((rd_T37 l0 (rd t231 x14_2)).f1) ((rd_T37 l0 (rd t231 x14_2)).f2) _ _ ((rd_T37 l0 (rd t231 x14_2)).f3) _ _ ((rd_T37 l0 (rd t231 x14_2)).f4) ((rd_T37 l0 (rd t234 x17_5)).f0) ((rd_T37 l0 (rd t234 x17_5)).f1) ((rd_T37 l0 (rd t234 x17_5)).f2) _ _ ((rd_T37 l0 (rd t234 x17_5)).f3) _ _ ((rd_T37 l0 (rd t234 x17_5)).f4) _ _ l1 a4 t249 _ ?side1 ?side2 ?side3 ?side4 ?side5 ?side6 ?side7 ?side8 ?side9 ?side10 A45.out).mono ?_
                                              (case side1 => repeat (first | exact (Kd.C_below HR242_3.out HB.out) | (with_reducible refine Kd.C_alloc ?_ _) | (with_reducible refine Kd.C_drewN ?_ _) | (with_reducible refine Kd.C_drew ?_)))
                                              (case side2 => exact HC242_3.out)
                                              (case side3 => repeat (first | exact (Kd.C_below HR242_4.out HB.out) | (with_reducible refine Kd.C_alloc ?_ _) | (with_reducible refine Kd.C_drewN ?_ _) | (with_reducible refine Kd.C_drew ?_)))
                                              (case side4 => exact HC242_4.out)
                                              (case side5 => repeat (first | exact (Kd.C_below HR248_3.out HB.out) | (with_reducible refine Kd.C_alloc ?_ _) | (with_reducible refine Kd.C_drewN ?_ _) | (with_reducible refine Kd.C_drew ?_)))
                                              (case side6 => exact HC248_3.out)
                                              (case side7 => repeat (first | exact (Kd.C_below HR248_4.out HB.out) | (with_reducible refine Kd.C_alloc ?_ _) | (with_reducible refine Kd.C_drewN ?_ _) | (with_reducible refine Kd.C_drew ?_)))
                                              (case side8 => exact HC248_4.out)
                                              (case side9 => repeat (first | exact (Kd.C_below HR1.out HB.out) | (with_reducible refine Kd.C_alloc ?_ _) | (with_reducible refine Kd.C_drewN ?_ _) | (with_reducible refine Kd.C_drew ?_)))
                                              (case side10 => exact HC1.out)
                                              rintro e w47 ⟨rfl, hb⟩
                                              have HS5_ := (hb.cell (World.block_lt_of_cell? _ _ (hHeld.2.2.2.2.2.1))).trans (hHeld.2.2.2.2.2.1)
                                              refine ⟨_, rfl, ?_⟩
                                              have n0_ := Aside0.mk (Kd.R_below (by (with_reducible repeat (first | apply Kd.R_alloc | apply Kd.R_drewN | apply Kd.R_drew)); exact HO_11.out) hb)
                                              have n1_ := Aside0.mk (Kd.R_below (by (with_reducible repeat (first | apply Kd.R_alloc | apply Kd.R_drewN | apply Kd.R_drew)); exact HO_12.out) hb)
                                              have n2_ := Aside0.mk (blk_below (g := gb243) (o := .cells #[.int .i64 ((rd_T37 l0 (rd t231 x14_2)).f0), .int .i64 ((rd_T37 l0 (rd t231 x14_2)).f1), .string ((rd_T37 l0 (rd t231 x14_2)).f2), .slice A242_3 ((rd_T37 l0 (rd t231 x14_2)).f3).length c242_3, .slice A242_4 ((rd_T37 l0 (rd t231 x14_2)).f4).length c242_4] 37 (0, 0)) (by (with_reducible repeat (first | refine blk_drewN ?_ _ | refine blk_drew ?_ | refine blk_alloc ?_ _)); exact BK243.out) hb)
                                              have n3_ := Aside0.mk (below_step (by repeat (first | (with_reducible first | exact HB.out | apply below_alloc | apply pw_below_drewN | apply below_drew1 | refine below_set ?_ GE243.out) | exact HB.out)) hb)
                                              clear HO_11
                                              clear HO_12
                                              clear BK243
                                              clear HB
                                              have HO_11 := n0_
                                              have HO_12 := n1_
                                              have BK243 := n2_
                                              have HB := n3_
                                              clear n0_ n1_ n2_ n3_
                                              (try clear hb)
                                              (try clear hb2)
                                              (try clear hk)
                                              (try clear hi)
                                              refine hK.out _ _ ⟨(blk_cell BK243.out 0).trans rfl, (blk_cell BK243.out 1).trans rfl, (blk_cell BK243.out 2).trans rfl, (blk_cell BK243.out 3).trans rfl, (blk_cell BK243.out 4).trans rfl, HS5_, ((HB.out.cell (World.block_lt_of_cell? w _ hw248_0)).trans hw248_0), ((HB.out.cell (World.block_lt_of_cell? w _ hw248_1)).trans hw248_1), ((HB.out.cell (World.block_lt_of_cell? w _ hw248_2)).trans hw248_2), ((HB.out.cell (World.block_lt_of_cell? w _ hw248_3)).trans hw248_3), ((HB.out.cell (World.block_lt_of_cell? w _ hw248_4)).trans hw248_4)⟩ (fun hHeld => ?_)
                                              clear hK K
                                              refine norm_ (a' := ?_) ?_ ?_
                                              rotate_left
                                              · show Act.put _ (some 104) _ = _
                                                simp only [Act.put, List.setIfInBounds_toArray, List.set_cons_zero, List.set_cons_succ, i64_w, i32_w]
                                                rfl
                                              refine pure_ (i := 13) (N := some 105) (v := ?_) (a' := ?_) #[true, true, true, true, true, true, true, true, true, true, true, true, true, true, false] rfl rfl (any_of HT_.out (by kernel_rfl)) (fun _ _ _ h => h) (Or.inl ⟨by rfl, ?_⟩) ?_ ?_
                                              rotate_left
                                              · intro w'
                                                go_simp
                                                with_reducible rfl
                                              rotate_left
                                              · simp only [Act.put, List.setIfInBounds_toArray, List.set_cons_zero, List.set_cons_succ, i64_w, i32_w]
                                                rfl
                                              refine pure_ (i := 14) (N := some 16) (v := ?_) (a' := ?_) #[true, true, true, true, true, true, true, true, true, true, true, true, true, true, true] rfl rfl (any_of HT_.out (by kernel_rfl)) (fun _ _ _ h => h) (Or.inl ⟨by rfl, ?_⟩) ?_ ?_
                                              rotate_left
                                              · intro w'
                                                go_simp
                                                with_reducible rfl
                                              rotate_left
                                              · simp only [Act.put, List.setIfInBounds_toArray, List.set_cons_zero, List.set_cons_succ, i64_w, i32_w]
                                                rfl
                                              refine done_ (done_of HT_.out (by kernel_rfl)) ?_
                                              try go_wp2
                                              go_roundg k5
                                              case measure => have := HK1.out; have := HK2.out; have := HJ18.out; have := HJ27.out; have := HK5.out; omega
                                              case rel => exact ⟨(t249), (wrap64 (x17_5 + 1)), (by first | rfl | (simp; done) | (simp [*]; done)), (by first | rfl | (simp; done) | (simp [*]; done)), H', ⟨by have := HK1.out; have := HK2.out; have := HJ18.out; have := HJ27.out; have := HK5.out; omega⟩, ⟨by (with_reducible repeat (first | apply Kd.R_alloc | apply Kd.R_drewN | apply Kd.R_drew)); exact HO_11.out⟩, ⟨by (with_reducible repeat (first | apply Kd.R_alloc | apply Kd.R_drewN | apply Kd.R_drew)); exact HO_12.out⟩, ⟨by (with_reducible repeat (first | refine blk_drewN ?_ _ | refine blk_drew ?_ | refine blk_alloc ?_ _)); exact BK243.out⟩, ⟨by repeat (first | (with_reducible first | exact HB.out | apply below_alloc | apply pw_below_drewN | apply below_drew1 | refine below_set ?_ GE243.out) | exact HB.out)⟩⟩
                                            · rw [if_neg c44] at H
                                              exact absurd H (by simp)
                                          · rw [if_neg c43] at H
                                            exact absurd H (by simp)
                                        · rw [if_neg c42] at H
                                          exact absurd H (by simp)
                                    · rw [if_neg c39] at H
                                      have c39b0 : decide (x17_5 < (t234.length : Int)) = false := decide_eq_false c39
                                      clear c39
                                      by_cases c48 : x16_5 = true
                                      · subst c48
                                        have H1 : (armillarylaw08_holds.l1 k5 l0 l1 a3 a4 t231 t234 (wrap64 (x14_2 + 1))) = some r := by rw [if_pos rfl] at H; exact H
                                        clear H
                                        have H := H1
                                        clear H1
                                        have H' := Aside0.mk H
                                        clear H
                                        go_wp2
                                        go_roundg k5
                                        case measure => have := HK1.out; have := HK2.out; have := HJ18.out; have := HJ27.out; have := HK5.out; omega
                                        case rel => exact ⟨(wrap64 (x14_2 + 1)), (by first | rfl | (simp; done) | (simp [*]; done)), H', ⟨by have := HK1.out; have := HK2.out; have := HJ18.out; have := HJ27.out; have := HK5.out; omega⟩, ⟨by (with_reducible repeat (first | apply Kd.R_alloc | apply Kd.R_drewN | apply Kd.R_drew)); exact HO_11.out⟩, ⟨by (with_reducible repeat (first | apply Kd.R_alloc | apply Kd.R_drewN | apply Kd.R_drew)); exact HO_12.out⟩, ⟨by repeat (first | (with_reducible first | exact HB.out | apply below_alloc | apply pw_below_drewN | apply below_drew1 | refine below_set ?_ GE243.out) | exact HB.out)⟩⟩
                                      · replace c48 := Bool.eq_false_iff.mpr c48
                                        subst c48
                                        have H1 : (some false) = some r := by rw [if_neg (show ¬ (false = true) by decide)] at H; exact H
                                        clear H
                                        have H := H1
                                        clear H1
                                        obtain rfl := Option.some.inj H
                                        go_wp2
                                        go_ret
                                        exact ⟨by first | rfl | (simp [errW_none, errW_some] <;> rfl) | (simp [*, errW_none, errW_some] <;> rfl), by repeat (first | (with_reducible first | exact HB.out | apply below_alloc | apply pw_below_drewN | apply below_drew1 | refine below_set ?_ GE243.out) | exact HB.out)⟩
                          · rw [if_neg c27] at H
                            exact absurd H (by simp)
                        · rw [if_neg c26] at H
                          exact absurd H (by simp)
                      · rw [if_neg c25] at H
                        exact absurd H (by simp)
                    · rw [if_neg c24] at H
                      exact absurd H (by simp)
            · rw [if_neg c18] at H
              have c18b0 : decide (x14_2 < (t231.length : Int)) = false := decide_eq_false c18
              clear c18
              obtain rfl := Option.some.inj H
              obtain ⟨Ao49, co49, eo49⟩ := Kd.R_slice HO_11.out
              subst eo49
              go_wp2
              go_ret
              exact ⟨by first | rfl | (simp [errW_none, errW_some] <;> rfl) | (simp [*, errW_none, errW_some] <;> rfl), by repeat (first | (with_reducible first | exact HB.out | apply below_alloc | apply pw_below_drewN | apply below_drew1) | exact HB.out)⟩

end Go.Proofs.YtgllcpimkjlklaaDoor.P

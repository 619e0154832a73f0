/- Calls through a function value, in a drawn region. -/
/- graph: what may be. -/
import Derived.Test.YtgppcpghpeenhaaDoorProg
import Derived.Test.YtgppcpghpeenhaaDoorWWords
import Derived.Test.YtgppcpghpeenhaaDoorWLast
import Derived.Test.YtgppcpghpeenhaaDoorK0
import Derived.Test.YtgppcpghpeenhaaDoorL3
import Derived.Test.YtgppcpghpeenhaaDoorWTab
import Derived.Laws.Cover1
namespace Go.Proofs.YtgppcpghpeenhaaDoor.L0
open Go.RowKit Go.Proofs.YtgppcpghpeenhaaDoorW.PrintWords Go.Proofs.YtgppcpghpeenhaaDoorW.PrintLast Go.Proofs.YtgppcpghpeenhaaDoorW.PrintMore Go.Proofs.YtgppcpghpeenhaaDoor
set_option linter.unusedVariables false
set_option linter.unusedSimpArgs false
section
variable {P : Program} {ops : Array Oper} {Q : Exit → Act → World → Prop}
theorem goesV_ {oi : Oper} {N : Option Tmp} {a : Act} {w : World} {K : Act → World → Prop} {f : FuncId} {fn : Func} {c : Operand} {xs : Array Operand} {ts : Array TypeId} (hf : P.funcs[f]? = some fn) (hname : (fn.name == "runtime.NumGoroutine") = false) (hb : fn.body.isSome = true) (args : Array Value)
    (hw : Region.wanted oi (yielded ops a.tmps) = true) (hN : oi.dst = N) (hop : oi.op = .call { callee := .value c, args := xs, argTypes := ts }) (hc : a.eval c = .func (.func f) #[] #[]) (hargs : xs.map a.eval = args)
    (h : Calls P f args w fun e w' => ∃ v, e = .returned v ∧ K (a.put N v) w') : if Region.wanted oi (yielded ops a.tmps) = true then Oper.wp P oi a w K Q else K (a.put N undef) w := by
  refine call_ f args hw hN ?_ h
  have he := enters_ hf hname hb args w
  unfold execOp
  simp [hop, resolve, Deferred.ofValue, invoke, hc, hargs, he]
end
end Go.Proofs.YtgppcpghpeenhaaDoor.L0
namespace Go.Proofs.YtgppcpghpeenhaaDoor.L4
open Go.RowKit Go.Proofs.YtgppcpghpeenhaaDoorW.PrintWords Go.Proofs.YtgppcpghpeenhaaDoorW.PrintLast Go.Proofs.YtgppcpghpeenhaaDoorW.PrintMore Go.Proofs.YtgppcpghpeenhaaDoor L1 L2 L3
set_option linter.unusedVariables false
set_option linter.unusedSimpArgs false
def srt.T4 : Bool × List (List Nat × List Nat) := (true, [([], []), ([], []), ([], []), ([1, 2], [1, 2]), ([3], [3]), ([], []), ([], []), ([6], [6]), ([5, 7], [5, 7]), ([8], [8]), ([0, 4, 9], [0, 4, 9]), ([10], [10])])
def srt.B4 : List Nat := [0, 0, 0, 6, 14, 0, 0, 64, 224, 480, 1023, 2047]
theorem srt.tab4 : rtab .any (opsOf Tryd.f41 4) = srt.T4 := by kernel_rfl
theorem srt.bits4 : waitsOk srt.T4.2 srt.B4 = true := by kernel_rfl
def outP (n : Nat) (k : Int) : Bool := decide (k < 0) || decide ((n : Int) ≤ k)
set_option maxRecDepth 100000 in
theorem out_yes (k : Int) (gb n : Nat) (A0 : Option Addr) (c0 : Nat) (w : World) (h : w.cell? ⟨gb, 0, none⟩ = some (.slice A0 n c0)) :
    Calls Tryd.prog 38 #[.int .i64 k, .pointer (some ⟨gb, 0, none⟩)] w fun e w' => e = .returned (.bool (outP n k)) ∧ w = w' := by
  by_cases h1 : k < 0
  · have HP := Aside0.mk (show outP n k = true by unfold outP; rw [decide_eq_true h1]; rfl)
    go_enter Tryd.func38, Tryd.ntmps38
    go_wp2_with (fail)
    go_ret
    exact ⟨by rw [HP.out]; rfl, rfl⟩
  · have HP := Aside0.mk (show outP n k = decide ((n : Int) ≤ k) by unfold outP; rw [decide_eq_false h1]; rfl)
    go_enter Tryd.func38, Tryd.ntmps38
    go_wp2_with (fail)
    go_ret
    exact ⟨by rw [HP.out]; rfl, rfl⟩
set_option maxRecDepth 100000 in
theorem out2_yes (k : Int) (gb n : Nat) (A0 : Option Addr) (c0 : Nat) (w : World) (h : w.cell? ⟨gb, 0, none⟩ = some (.slice A0 n c0)) :
    Calls Tryd.prog 26 #[.int .i64 k, .pointer (some ⟨gb, 0, none⟩)] w fun e w' => e = .returned (.bool (outP n k)) ∧ w = w' := by
  by_cases h1 : k < 0
  · have HP := Aside0.mk (show outP n k = true by unfold outP; rw [decide_eq_true h1]; rfl)
    go_enter Tryd.func26, Tryd.ntmps26
    go_wp2_with (fail)
    go_ret
    exact ⟨by rw [HP.out]; rfl, rfl⟩
  · have HP := Aside0.mk (show outP n k = decide ((n : Int) ≤ k) by unfold outP; rw [decide_eq_false h1]; rfl)
    go_enter Tryd.func26, Tryd.ntmps26
    go_wp2_with (fail)
    go_ret
    exact ⟨by rw [HP.out]; rfl, rfl⟩
set_option maxRecDepth 100000 in
theorem nan_no (a : ByteArray) (w : World) : Calls Tryd.prog 60 #[.string a] w fun e w' => e = .returned (.bool false) ∧ w = w' := by
  go_enter Tryd.func60, Tryd.ntmps60
  go_wp2_with (fail)
  go_ret
  exact ⟨by simp, rfl⟩
def cmpP (a b : ByteArray) : Int := if Op.bytesLess a.toList b.toList then -1 else if a.toList = b.toList then 0 else 1
set_option maxRecDepth 100000 in
theorem compare_yes (a b : ByteArray) (w : World) : Calls Tryd.prog 43 #[.string a, .string b] w fun e w' => e = .returned (.int .i64 (cmpP a b)) ∧ w = w' := by
  cases h1 : Op.bytesLess a.toList b.toList with
  | true =>
    have HP := Aside0.mk (show cmpP a b = -1 by unfold cmpP; rw [h1]; rfl)
    go_enter Tryd.func43, Tryd.ntmps43
    go_wp2_with (fail)
    refine (nan_no a w).mono ?_
    rintro e w' ⟨rfl, rfl⟩
    go_wp2_with (fail)
    refine (nan_no b w).mono ?_
    rintro e w' ⟨rfl, rfl⟩
    go_wp2_with (fail)
    go_ret
    exact ⟨by rw [HP.out]; rfl, rfl⟩
  | false =>
    by_cases h2 : a.toList = b.toList
    · have h2b : (a.toList == b.toList) = true := by simp [h2]
      have HP := Aside0.mk (show cmpP a b = 0 by unfold cmpP; rw [h1, if_pos h2]; rfl)
      clear h2
      go_enter Tryd.func43, Tryd.ntmps43
      go_wp2_with (fail)
      refine (nan_no a w).mono ?_
      rintro e w' ⟨rfl, rfl⟩
      go_wp2_with (fail)
      refine (nan_no b w).mono ?_
      rintro e w' ⟨rfl, rfl⟩
      go_wp2_with (fail)
      go_ret
      exact ⟨by rw [HP.out]; rfl, rfl⟩
    · have h2b : (a.toList == b.toList) = false := by simp [h2]
      have HP := Aside0.mk (show cmpP a b = 1 by unfold cmpP; rw [h1, if_neg h2]; rfl)
      clear h2
      go_enter Tryd.func43, Tryd.ntmps43
      go_wp2_with (fail)
      refine (nan_no a w).mono ?_
      rintro e w' ⟨rfl, rfl⟩
      go_wp2_with (fail)
      refine (nan_no b w).mono ?_
      rintro e w' ⟨rfl, rfl⟩
      go_wp2_with (fail)
      go_ret
      exact ⟨by rw [HP.out]; rfl, rfl⟩
def cmp2P (a b : ByteArray) : Int := if a.toList = b.toList then 1 else cmpP a b
set_option maxRecDepth 100000 in
theorem may2_yes (a b : ByteArray) (w : World) : Calls Tryd.prog 42 #[.string a, .string b] w fun e w' => e = .returned (.int .i64 (cmp2P a b)) ∧ w = w' := by
  by_cases h2 : a.toList = b.toList
  · have h2b : (a.toList == b.toList) = true := by simp [h2]
    have HP := Aside0.mk (show cmp2P a b = 1 by unfold cmp2P; rw [if_pos h2])
    clear h2
    go_enter Tryd.func42, Tryd.ntmps42
    go_wp2_with (fail)
    go_ret
    exact ⟨by rw [HP.out]; rfl, rfl⟩
  · have h2b : (a.toList == b.toList) = false := by simp [h2]
    have HP := Aside0.mk (show cmp2P a b = cmpP a b by unfold cmp2P; rw [if_neg h2])
    clear h2
    go_enter Tryd.func42, Tryd.ntmps42
    go_wp2_with (fail)
    refine (compare_yes a b w).mono ?_
    rintro e w' ⟨rfl, rfl⟩
    go_wp2_with (fail)
    go_ret
    exact ⟨by rw [HP.out]; rfl, rfl⟩
/-- No key is below the one ahead of it. -/
def RiseP (l : List ByteArray) : Prop := ∀ i, i + 1 < l.length → 0 ≤ cmp2P (l.getD (i + 1) ByteArray.empty) (l.getD i ByteArray.empty)
instance (l : List ByteArray) : Decidable (RiseP l) := decidable_of_iff (∀ i, i < l.length - 1 → 0 ≤ cmp2P (l.getD (i + 1) ByteArray.empty) (l.getD i ByteArray.empty)) ⟨fun h i hi => h i (by omega), fun h i hi => h i (by omega)⟩
set_option maxHeartbeats 4000000 in
set_option maxRecDepth 100000 in
theorem sorted_yes (A : Option Addr) (c : Nat) (l : List ByteArray) (w : World) (hr : Kd.C Kd.string w A l.length l) (hc : l.length ≤ c) :
    Calls Tryd.prog 41 #[.slice A l.length c, .func (.func 42) #[] #[]] w fun e w' => e = .returned (.bool (decide (RiseP l))) ∧ Below w.heap.size w w' := by
  have HR := Aside0.mk hr
  have HC := Aside0.mk hc
  have HL := Aside0.mk hr.2.1
  clear hr hc
  go_enter Tryd.func41, Tryd.ntmps41
  have hL := HL.out
  have hw0 : wrap64 ((l.length : Int) - 1) = (l.length : Int) - 1 := by unfold wrap64; omega
  go_wp2_with (fail)
  clear hL hw0
  go_loopw [5] (fun v5 wr => ∃ k : Int, -1 ≤ k ∧ k ≤ (l.length : Int) - 1 ∧ v5 = .int .i64 k ∧ Aside0 (∀ i : Nat, k ≤ i → i + 1 < l.length → 0 ≤ cmp2P (l.getD (i + 1) ByteArray.empty) (l.getD i ByteArray.empty)) ∧ Aside0 (Below w.heap.size w wr)) (fun v5 _ => (intOf v5 + 1).toNat)
  case atStart => exact ⟨(l.length : Int) - 1, by omega, by omega, rfl, ⟨fun i h1 h2 => by omega⟩, ⟨Below.refl _ _⟩⟩
  case round =>
    obtain ⟨k, hk0, hk1, rfl, HA, HB⟩ := hrel
    by_cases hk : 0 < k
    · obtain ⟨i, rfl⟩ : ∃ i : Nat, k = (i : Int) + 1 := ⟨(k - 1).toNat, by omega⟩
      obtain ⟨ad, ea, hx⟩ := Kd.at_string HR.out ((i + 1 : Nat) : Int) (by omega) (by omega)
      cases ea
      obtain ⟨ad', ea, hz⟩ := Kd.at_string HR.out (i : Int) (by omega) (by omega)
      cases ea
      rw [Int.toNat_natCast] at hx hz
      obtain ⟨y, hy⟩ : ∃ y, y = rdOf ByteArray.empty l ((i + 1 : Nat) : Int) := ⟨_, rfl⟩
      obtain ⟨z, hzz⟩ : ∃ z, z = rdOf ByteArray.empty l (i : Int) := ⟨_, rfl⟩
      have HY := Aside0.mk (show y = l.getD (i + 1) ByteArray.empty from hy)
      have HZ := Aside0.mk (show z = l.getD i ByteArray.empty from hzz)
      rw [← hy] at hx
      rw [← hzz] at hz
      have p0 : wr.drew.cell? { block := ad.block, off := ad.off + (i + 1) } = some (.string y) := (HB.out.cell (World.block_lt_of_cell? w _ hx)).trans hx
      have hL := HL.out
      have e1 := eq_true (show (0 : Int) ≤ (i : Int) + 1 by omega)
      have e2 := eq_true (show (i : Int) + 1 < (l.length : Int) by omega)
      have e3 : wrap64 (i : Int) = (i : Int) := by unfold wrap64; omega
      have e4 := eq_true (show (i : Int) < (l.length : Int) by omega)
      have p1 : wr.drew.cell? (ad.add i) = some (.string z) := pw_cell_below (Below.refl _ _) ((HB.out.cell (World.block_lt_of_cell? w _ hz)).trans hz)
      clear hx hz hy hzz
      go_wp2_with (fail)
      refine start_ (n := 12) (S := fun w' => w'.cell? { block := ad.block, off := ad.off + (i + 1) } = some (.string y) ∧ w'.cell? (ad.add i) = some (.string z)) (ds := []) #[φ,φ,φ,φ,φ,φ,φ,φ,φ,φ,φ,φ] (by kernel_rfl) rfl rfl ⟨p0, p1⟩ (fun hHeld => ?_)
      refine with_tabW srt.tab4 srt.bits4 (fun HT_ HW_ => ?_)
      refine pure_ (i := 0) (N := some 13) (v := ?_) (a' := ?_) #[τ,φ,φ,φ,φ,φ,φ,φ,φ,φ,φ,φ] rfl rfl (any_of HT_.out (by kernel_rfl)) (fun _ _ _ h => h) (Or.inl ⟨by rfl, ?_⟩) ?_ ?_
      rotate_left; (intro w'; go_simp; with_reducible rfl); rotate_left; (simp only [Act.put, zz1, zz2, zz3, i64_w, i32_w]; rfl)
      refine pure_ (i := 1) (N := some 14) (v := ?_) (a' := ?_) #[τ,τ,φ,φ,φ,φ,φ,φ,φ,φ,φ,φ] rfl rfl (any_of HT_.out (by kernel_rfl)) (fun _ _ _ h => h) (Or.inl ⟨by rfl, ?_⟩) ?_ ?_
      rotate_left; (intro w'; go_simp; with_reducible rfl); rotate_left; (simp only [Act.put, zz1, zz2, zz3, i64_w, i32_w]; rfl)
      refine pure_ (i := 2) (N := some 15) (v := ?_) (a' := ?_) #[τ,τ,τ,φ,φ,φ,φ,φ,φ,φ,φ,φ] rfl rfl (any_of HT_.out (by kernel_rfl)) (fun _ _ _ h => h) (Or.inl ⟨by rfl, ?_⟩) ?_ ?_
      rotate_left; (intro w'; go_simp; with_reducible rfl); rotate_left; (simp only [Act.put, zz1, zz2, zz3, i64_w, i32_w]; rfl)
      refine pure_ (i := 3) (N := some 16) (v := ?_) (a' := ?_) #[τ,τ,τ,τ,φ,φ,φ,φ,φ,φ,φ,φ] rfl rfl (any_of HT_.out (by kernel_rfl)) (fun _ _ _ h => h) (Or.inl ⟨by rfl, ?_⟩) ?_ ?_
      rotate_left; (intro w'; go_simp; with_reducible rfl); rotate_left; (simp only [Act.put, zz1, zz2, zz3, i64_w, i32_w]; rfl)
      refine pure_ (i := 5) (N := some 18) (v := ?_) (a' := ?_) #[τ,τ,τ,τ,φ,τ,φ,φ,φ,φ,φ,φ] rfl rfl (any_of HT_.out (by kernel_rfl)) (fun _ _ _ h => h) (Or.inl ⟨by rfl, ?_⟩) ?_ ?_
      rotate_left; (intro w'; go_simp; with_reducible rfl); rotate_left; (simp only [Act.put, zz1, zz2, zz3, i64_w, i32_w]; rfl)
      refine pure_ (i := 6) (N := some 19) (v := ?_) (a' := ?_) #[τ,τ,τ,τ,φ,τ,τ,φ,φ,φ,φ,φ] rfl rfl (any_of HT_.out (by kernel_rfl)) (fun _ _ _ h => h) (Or.inl ⟨by rfl, ?_⟩) ?_ ?_
      rotate_left; (intro w'; go_simp; with_reducible rfl); rotate_left; (simp only [Act.put, zz1, zz2, zz3, i64_w, i32_w]; rfl)
      refine pure_ (i := 7) (N := some 20) (v := ?_) (a' := ?_) #[τ,τ,τ,τ,φ,τ,τ,τ,φ,φ,φ,φ] rfl rfl (any_of HT_.out (by kernel_rfl)) (fun _ _ _ h => h) (Or.inl ⟨by rfl, ?_⟩) ?_ ?_
      rotate_left; (intro w'; go_simp; with_reducible rfl); rotate_left; (simp only [Act.put, zz1, zz2, zz3, i64_w, i32_w]; rfl)
      refine pure_ (i := 8) (N := some 21) (v := ?_) (a' := ?_) #[τ,τ,τ,τ,φ,τ,τ,τ,τ,φ,φ,φ] rfl rfl (any_of HT_.out (by kernel_rfl)) (fun _ _ _ h => h) (Or.inl ⟨by rfl, ?_⟩) ?_ ?_
      rotate_left; (intro w'; go_simp; with_reducible rfl); rotate_left; (simp only [Act.put, zz1, zz2, zz3, i64_w, i32_w]; rfl)
      refine take_ (i := 4) (N := some 17) (v := ?_) (a' := ?_) #[τ,τ,τ,τ,τ,τ,τ,τ,τ,φ,φ,φ] rfl rfl (take_ofW HT_.out HW_.out (by kernel_rfl)) (fun _ _ _ h => h) (Or.inl ⟨by rfl, ?_⟩) hHeld ?_ ?_
      rotate_left; (rintro w' ⟨s0, s1⟩; go_simp; with_reducible rfl); rotate_left; (simp only [Act.put, zz1, zz2, zz3, i64_w, i32_w]; rfl)
      refine take_ (i := 9) (N := some 22) (v := ?_) (a' := ?_) #[τ,τ,τ,τ,τ,τ,τ,τ,τ,τ,φ,φ] rfl rfl (take_ofW HT_.out HW_.out (by kernel_rfl)) (fun _ _ _ h => h) (Or.inl ⟨by rfl, ?_⟩) hHeld ?_ ?_
      rotate_left; (rintro w' ⟨s0, s1⟩; go_simp; with_reducible rfl); rotate_left; (simp only [Act.put, zz1, zz2, zz3, i64_w, i32_w]; rfl)
      refine one_ (i := 10) (N := some 23) #[τ,τ,τ,τ,τ,τ,τ,τ,τ,τ,τ,φ] rfl rfl (one_of HT_.out (by kernel_rfl)) (by decide) (fun K hK => ?_)
      refine L0.goesV_ Tryd.func42 (by kernel_rfl) rfl #[.string y, .string z] (by rfl) rfl rfl (by rfl) (by simp only [List.map_toArray, List.map_cons, List.map_nil]; rfl) ?_
      with_reducible refine (may2_yes y z _).mono ?_
      rintro e w2 ⟨rfl, rfl⟩
      refine ⟨_, rfl, ?_⟩
      refine hK.out _ _ ⟨p0, p1⟩ (fun hHeld => ?_)
      clear hK K
      refine norm_ (a' := ?_) ?_ ?_
      rotate_left
      · show Act.put _ (some 23) _ = _
        simp only [Act.put, zz1, zz2, zz3, i64_w, i32_w]
        rfl
      refine pure_ (i := 11) (N := some 24) (v := ?_) (a' := ?_) #[τ,τ,τ,τ,τ,τ,τ,τ,τ,τ,τ,τ] rfl rfl (any_of HT_.out (by kernel_rfl)) (fun _ _ _ h => h) (Or.inl ⟨by rfl, ?_⟩) ?_ ?_
      rotate_left; (intro w'; go_simp; with_reducible rfl); rotate_left; (simp only [Act.put, zz1, zz2, zz3, i64_w, i32_w]; rfl)
      refine done_ (done_of HT_.out (by kernel_rfl)) ?_
      by_cases hlt : cmp2P y z < 0
      · have HN := Aside0.mk (show ¬ RiseP l from fun h => by
          have := h i (by omega)
          rw [← HY.out, ← HZ.out] at this
          omega)
        go_wp2_with (fail)
        go_ret
        exact ⟨by rw [decide_eq_false HN.out]; rfl, below_drew1 HB.out⟩
      · have HA2 := Aside0.mk (show ∀ j : Nat, (i : Int) ≤ j → j + 1 < l.length → 0 ≤ cmp2P (l.getD (j + 1) ByteArray.empty) (l.getD j ByteArray.empty) from fun j h1 h2 => by
          by_cases he : j = i
          · rw [he, ← HY.out, ← HZ.out]; omega
          · exact HA.out j (by omega) h2)
        go_wp2_with (fail)
        go_roundw
        case rel => exact ⟨(i : Int), by omega, by omega, rfl, HA2, ⟨below_drew1 HB.out⟩⟩
        case measure => simp only [intOf]; omega
    · go_wp2_with (fail)
      go_ret
      exact ⟨by rw [decide_eq_true (show RiseP l from fun i hi => HA.out i (by omega) hi)]; rfl, HB.out⟩
end Go.Proofs.YtgppcpghpeenhaaDoor.L4

/- slices.Index at strings. -/
import Derived.Test.YtgppcpghpeenhaaDoorProg
import Derived.Test.YtgppcpghpeenhaaDoorWWords
import Derived.Test.YtgppcpghpeenhaaDoorWLast
import Derived.Test.YtgppcpghpeenhaaDoorS1
namespace Go.Proofs.YtgppcpghpeenhaaDoor.S2
open Go.RowKit Go.Proofs.YtgppcpghpeenhaaDoorW.PrintWords Go.Proofs.YtgppcpghpeenhaaDoorW.PrintLast Go.Proofs.YtgppcpghpeenhaaDoorW.PrintMore Go.Proofs.YtgppcpghpeenhaaDoor L1
set_option linter.unusedVariables false
set_option linter.unusedSimpArgs false
def idxF (s : ByteArray) : List ByteArray → Nat → Option Nat
  | [], _ => none
  | x :: r, i => if s = x then some i else idxF s r (i + 1)
def ixv : Option Nat → Int
  | none => -1
  | some k => k
set_option maxHeartbeats 4000000 in
set_option maxRecDepth 100000 in
theorem index_yes (A : Option Addr) (c : Nat) (l : List ByteArray) (s : ByteArray) (w : World) (hr : Kd.C Kd.string w A l.length l) (hc : l.length ≤ c) :
    Calls Tryd.prog 90 #[.slice A l.length c, .string s] w fun e w' => e = .returned (.int .i64 (ixv (idxF s l 0))) ∧ w = w' := by
  have HC := Aside0.mk hr
  have Hc := Aside0.mk hc
  have HL := Aside0.mk hr.2.1
  clear hr hc
  go_enter Tryd.func90, Tryd.ntmps90
  go_wp2_with (fail)
  go_loopw [8] (fun v8 wr => ∃ i : Nat, i ≤ l.length ∧ v8 = .int .i64 i ∧ Aside0 (w = wr) ∧ Aside0 (idxF s l 0 = idxF s (l.drop i) i)) (fun v8 _ => l.length + 1 - (intOf v8).toNat)
  case atStart => exact ⟨0, by omega, rfl, ⟨rfl⟩, ⟨rfl⟩⟩
  case round =>
    obtain ⟨i, hi, rfl, ⟨rfl⟩, HI⟩ := hrel
    by_cases hlt : i < l.length
    · obtain ⟨ad, ea, hx⟩ := Kd.at_string HC.out (i : Int) (by omega) (by omega)
      cases ea
      simp only [Int.toNat_natCast] at hx
      have hL := HL.out
      have hx0 : rdOf ByteArray.empty l (i : Int) = l[i] := by
        show l.getD i _ = _
        rw [List.getD_eq_getElem?_getD, List.getElem?_eq_getElem hlt]; rfl
      obtain ⟨y, hy⟩ : ∃ y, y = l[i] := ⟨_, rfl⟩
      rw [hx0, ← hy] at hx
      have hs : idxF s (l.drop i) i = if s = y then some i else idxF s (l.drop (i + 1)) (i + 1) := by
        rw [List.drop_eq_getElem_cons hlt, ← hy]; rfl
      have HS := Aside0.mk hs
      have hw : wrap64 ((i : Int) + 1) = ((i + 1 : Nat) : Int) := by unfold wrap64; omega
      clear hs hx0 hy
      by_cases hsy : s = y
      · have HSY := Aside0.mk (show idxF s l 0 = some i by rw [HI.out, HS.out, if_pos hsy])
        clear HS HI
        subst hsy
        go_wp2_with (fail)
        go_ret
        exact ⟨by rw [HSY.out]; rfl, rfl⟩
      · have HSY := Aside0.mk hsy
        have hsb : (s.toList == y.toList) = false := by rw [beq_eq_false_iff_ne]; exact fun h => hsy (toList_inj h)
        clear hsy
        go_wp2_with (fail)
        go_roundw
        case rel => exact ⟨i + 1, by omega, by first | (rw [hw]; done) | (rw [Int.natCast_add]; rfl), ⟨by first | trivial | rfl⟩, ⟨by rw [HI.out, HS.out, if_neg HSY.out]⟩⟩
        case measure => first | (rw [hw]; simp only [intOf]; omega) | (simp only [intOf]; omega)
    · obtain rfl : i = l.length := by omega
      have HF := Aside0.mk (show idxF s l 0 = none by rw [HI.out, List.drop_length]; rfl)
      go_wp2_with (fail)
      go_ret
      exact ⟨by rw [HF.out]; rfl, rfl⟩
end Go.Proofs.YtgppcpghpeenhaaDoor.S2

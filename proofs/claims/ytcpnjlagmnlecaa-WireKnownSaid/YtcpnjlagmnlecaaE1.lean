/- Readers that are none. -/
import Derived.Test.YtcpnjlagmnlecaaProg
import Derived.Below
import Derived.Deep.Draws
import Derived.Deep.AppendLies
import Derived.Maps.AppendAt
import Derived.OwnWalk
import Derived.Laws.BytesArg
import Derived.Laws.MakeOwn
import Derived.Laws.OwnMore
import Derived.Deep.OwnRows
import Derived.Tactics
import Derived.Lib.ConvBytes
import Derived.Laws.Slices
import Derived.WalkKit
import Derived.KernelRfl
import Derived.RowKit3
import Derived.Deep.LoopGhost
import Derived.Deep.QuietTactic
import Derived.BigQuiet
import Derived.WideLaws
import Derived.Deep.DeepCutAuto
import Derived.Deep.CutBlock
import Derived.Deep.RegionHeld3
import Derived.Laws.Rows
import Derived.Lib.AppendStr
import Derived.ArgAppend
import Derived.Laws.IdiomCopy
import Derived.OrdersHeld
import Derived.Laws.BitsLemmas
import Derived.RowKit
import Derived.WalkSpells
import Derived.Laws.CopyOwn
import Derived.Test.YtcpnjlagmnlecaaWWords
import Derived.Test.YtcpnjlagmnlecaaWLast
import Derived.Test.YtcpnjlagmnlecaaWMore
import Derived.Test.YtcpnjlagmnlecaaA6
namespace Go.Proofs.Ytcpnjlagmnlecaa.E1
open Go.RowKit Go.Proofs.YtcpnjlagmnlecaaW.PrintWords Go.Proofs.YtcpnjlagmnlecaaW.PrintLast Go.Proofs.YtcpnjlagmnlecaaW.PrintMore Go.Proofs.Ytcpnjlagmnlecaa Go.Proofs.Ytcpnjlagmnlecaa.A2 Go.Proofs.Ytcpnjlagmnlecaa.A3 Go.Proofs.Ytcpnjlagmnlecaa.A4 Go.Proofs.Ytcpnjlagmnlecaa.A5 Go.Proofs.Ytcpnjlagmnlecaa.A6
set_option linter.unusedVariables false
set_option linter.unusedSimpArgs false
theorem okB_app {a b : List Int} (ha : okB a = true) (hb : okB b = true) : okB (a ++ b) = true := by
  unfold okB at *
  rw [List.all_append, ha, hb]; rfl
def NoneR (W : World) (p : Option Addr) : Prop := p = none ∨ ∃ g, p = some ⟨g, 0, none⟩ ∧ W.heap[g]? = some (.cells #[.slice none 0 0, .int .i64 0, .bool false] 65 (0, 0))
set_option maxRecDepth 100000 in
theorem none_is (p : Option Addr) (w : World) (h : NoneR w p) :
    Calls Try.prog 57 #[.pointer p] w fun e w' => e = .returned (.bool true) ∧ w = w' := by
  rcases h with rfl | ⟨g, rfl, hg⟩
  · go_enter Try.func57, Try.ntmps57
    go_wp2
    go_ret
    exact ⟨rfl, rfl⟩
  · have h2 : w.cell? ⟨g, 2, none⟩ = some (.bool false) := (blk_cell hg 2).trans rfl
    have HG := Aside0.mk hg
    clear hg
    go_enter Try.func57, Try.ntmps57
    go_wp2
    go_ret
    exact ⟨rfl, rfl⟩
set_option maxRecDepth 100000 in
theorem none_num (p : Option Addr) (w : World) (h : NoneR w p) :
    Calls Try.prog 36 #[.pointer p] w fun e w' => e = .returned (.int .i64 0) ∧ w = w' := by
  have HN := Aside0.mk h
  clear h
  go_enter Try.func36, Try.ntmps36
  go_wp2_with (fail)
  refine (none_is _ _ HN.out).mono ?_
  rintro e w' ⟨rfl, rfl⟩
  go_wp2_with (fail)
  go_ret
  exact ⟨rfl, rfl⟩
set_option maxRecDepth 100000 in
theorem none_left (p : Option Addr) (w : World) (h : NoneR w p) :
    Calls Try.prog 29 #[.pointer p] w fun e w' => e = .returned (.int .i64 0) ∧ w = w' := by
  have HN := Aside0.mk h
  clear h
  go_enter Try.func29, Try.ntmps29
  go_wp2_with (fail)
  refine (none_is _ _ HN.out).mono ?_
  rintro e w' ⟨rfl, rfl⟩
  go_wp2_with (fail)
  go_ret
  exact ⟨rfl, rfl⟩
set_option maxRecDepth 100000 in
theorem none_err (p : Option Addr) (w : World) (h : NoneR w p) :
    Calls Try.prog 31 #[.pointer p] w fun e w' => e = .returned (.int .i64 1) ∧ w = w' := by
  have HN := Aside0.mk h
  clear h
  go_enter Try.func31, Try.ntmps31
  go_wp2_with (fail)
  refine (none_is _ _ HN.out).mono ?_
  rintro e w' ⟨rfl, rfl⟩
  go_wp2_with (fail)
  go_ret
  exact ⟨rfl, rfl⟩
set_option maxRecDepth 100000 in
theorem none_end (p : Option Addr) (w : World) (h : NoneR w p) :
    Calls Try.prog 32 #[.pointer p] w fun e w' => e = .returned (.int .i64 1) ∧ w = w' := by
  have HN := Aside0.mk h
  clear h
  go_enter Try.func32, Try.ntmps32
  go_wp2_with (fail)
  refine (none_left _ _ HN.out).mono ?_
  rintro e w' ⟨rfl, rfl⟩
  go_wp2_with (fail)
  refine (none_err _ _ HN.out).mono ?_
  rintro e w' ⟨rfl, rfl⟩
  go_wp2_with (fail)
  go_ret
  exact ⟨rfl, rfl⟩
set_option maxRecDepth 100000 in
theorem none_many (p : Option Addr) (most : Int) (hm : 0 ≤ most) (w : World) (h : NoneR w p) :
    Calls Try.prog 62 #[.pointer p, .int .i64 most] w fun e w' => e = .returned (.int .i64 0) ∧ w = w' := by
  have HN := Aside0.mk h
  have d1 : decide (most < 0) = false := decide_eq_false (by omega)
  have d2 : ¬ most < 0 := by omega
  clear h
  go_enter Try.func62, Try.ntmps62
  go_wp2_with (fail)
  refine (none_num _ _ HN.out).mono ?_
  rintro e w' ⟨rfl, rfl⟩
  go_wp2_with (fail)
  go_ret
  exact ⟨rfl, rfl⟩
set_option maxRecDepth 100000 in
theorem none_text (p : Option Addr) (w : World) (h : NoneR w p) :
    Calls Try.prog 37 #[.pointer p] w fun e w' => e = .returned (.string ⟨#[]⟩) ∧ w = w' := by
  have HN := Aside0.mk h
  clear h
  go_enter Try.func37, Try.ntmps37
  go_wp2_with (fail)
  refine (none_many _ 65536 (by decide) _ HN.out).mono ?_
  rintro e w' ⟨rfl, rfl⟩
  go_wp2_with (fail)
  refine (none_err _ _ HN.out).mono ?_
  rintro e w' ⟨rfl, rfl⟩
  go_wp2_with (fail)
  go_ret
  exact ⟨rfl, rfl⟩
set_option maxRecDepth 100000 in
theorem none_alln (p : Option Addr) (w : World) (h : NoneR w p) :
    Calls Try.prog 63 #[.pointer p, .func (.func 36) #[.pointer p] #[]] w fun e w' => e = .returned (.slice none 0 0) ∧ w = w' := by
  have HN := Aside0.mk h
  clear h
  go_enter Try.func63, Try.ntmps63
  go_wp2_with (fail)
  refine (none_many _ 8000 (by decide) _ HN.out).mono ?_
  rintro e w' ⟨rfl, rfl⟩
  go_wp2_with (fail)
  go_loopw [4, 7] (fun v4 v7 wr => v4 = .slice none 0 0 ∧ v7 = .int .i64 0 ∧ w = wr) (fun _ _ _ => 0)
  case atStart => exact ⟨rfl, rfl, rfl⟩
  case round =>
    obtain ⟨rfl, rfl, rfl⟩ := hrel
    go_wp2_with (fail)
    go_ret
    exact ⟨rfl, rfl⟩
set_option maxRecDepth 100000 in
theorem none_allt (p : Option Addr) (w : World) (h : NoneR w p) :
    Calls Try.prog 64 #[.pointer p, .func (.func 37) #[.pointer p] #[]] w fun e w' => e = .returned (.slice none 0 0) ∧ w = w' := by
  have HN := Aside0.mk h
  clear h
  go_enter Try.func64, Try.ntmps64
  go_wp2_with (fail)
  refine (none_many _ 8000 (by decide) _ HN.out).mono ?_
  rintro e w' ⟨rfl, rfl⟩
  go_wp2_with (fail)
  go_loopw [4, 7] (fun v4 v7 wr => v4 = .slice none 0 0 ∧ v7 = .int .i64 0 ∧ w = wr) (fun _ _ _ => 0)
  case atStart => exact ⟨rfl, rfl, rfl⟩
  case round =>
    obtain ⟨rfl, rfl, rfl⟩ := hrel
    go_wp2_with (fail)
    go_ret
    exact ⟨rfl, rfl⟩
set_option maxRecDepth 100000 in
theorem none_nums (p : Option Addr) (w : World) (h : NoneR w p) :
    Calls Try.prog 38 #[.pointer p] w fun e w' => e = .returned (.slice none 0 0) ∧ w = w' := by
  have HN := Aside0.mk h
  clear h
  go_enter Try.func38, Try.ntmps38
  go_wp2_with (fail)
  refine (none_alln _ _ HN.out).mono ?_
  rintro e w' ⟨rfl, rfl⟩
  go_wp2_with (fail)
  go_ret
  exact ⟨rfl, rfl⟩
set_option maxRecDepth 100000 in
theorem none_texts (p : Option Addr) (w : World) (h : NoneR w p) :
    Calls Try.prog 39 #[.pointer p] w fun e w' => e = .returned (.slice none 0 0) ∧ w = w' := by
  have HN := Aside0.mk h
  clear h
  go_enter Try.func39, Try.ntmps39
  go_wp2_with (fail)
  refine (none_allt _ _ HN.out).mono ?_
  rintro e w' ⟨rfl, rfl⟩
  go_wp2_with (fail)
  go_ret
  exact ⟨rfl, rfl⟩
end Go.Proofs.Ytcpnjlagmnlecaa.E1

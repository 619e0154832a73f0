/- wire.Reader: its state in memory, and its methods that only look. -/
import Derived.Test.YtcpnjlagmnlecaaProg
import Derived.Below
import Derived.Deep.Draws
import Derived.Deep.AppendLies
import Derived.Maps.AppendAt
import Derived.OwnWalk
import Derived.Laws.BytesArg
import Derived.Laws.MakeOwn
import Derived.Laws.OwnMore
import Derived.Deep.OwnRows
import Derived.Tactics
import Derived.Lib.ConvBytes
import Derived.Laws.Slices
import Derived.WalkKit
import Derived.KernelRfl
import Derived.RowKit3
import Derived.Deep.LoopGhost
import Derived.Deep.QuietTactic
import Derived.BigQuiet
import Derived.WideLaws
import Derived.Deep.DeepCutAuto
import Derived.Deep.CutBlock
import Derived.Deep.RegionHeld3
import Derived.Laws.Rows
import Derived.Lib.AppendStr
import Derived.ArgAppend
import Derived.Laws.IdiomCopy
import Derived.OrdersHeld
import Derived.Laws.BitsLemmas
import Derived.RowKit
import Derived.WalkSpells
import Derived.Laws.CopyOwn
import Derived.Test.YtcpnjlagmnlecaaWWords
import Derived.Test.YtcpnjlagmnlecaaWLast
import Derived.Test.YtcpnjlagmnlecaaWMore
import Derived.Test.YtcpnjlagmnlecaaA2
import Derived.Test.YtcpnjlagmnlecaaWireP
namespace Go.Proofs.Ytcpnjlagmnlecaa.A3
open Go.RowKit Go.Proofs.YtcpnjlagmnlecaaW.PrintWords Go.Proofs.YtcpnjlagmnlecaaW.PrintLast Go.Proofs.YtcpnjlagmnlecaaW.PrintMore Go.Proofs.Ytcpnjlagmnlecaa Go.Proofs.Ytcpnjlagmnlecaa.A2
set_option linter.unusedVariables false
set_option linter.unusedSimpArgs false

/-- All is as it was, but block g (and what is new). -/
structure Kp (w w' : World) (g : Nat) : Prop where
  low : Below g w w'
  high : ∀ i, g < i → i < w.heap.size → w'.heap[i]? = w.heap[i]?
theorem Kp.refl (w : World) (g : Nat) : Kp w w g := ⟨Below.refl _ _, fun _ _ _ => rfl⟩
theorem Kp.size {w w' : World} {g : Nat} (h : Kp w w' g) : w.heap.size ≤ w'.heap.size := h.low.size
theorem Kp.trans {w w1 w2 : World} {g : Nat} (h : Kp w w1 g) (k : Kp w1 w2 g) : Kp w w2 g :=
  ⟨h.low.trans k.low, fun i hi hl => (k.high i hi (Nat.lt_of_lt_of_le hl h.size)).trans (h.high i hi hl)⟩
theorem Kp.set {w w1 : World} {g : Nat} (h : Kp w w1 g) (j : Nat) (u : Value) : Kp w (w1.setCell ⟨g, j, none⟩ u) g :=
  ⟨h.low.setCell (Nat.le_refl _) u, fun i hi hl => (Below.heap_setCell w1 ⟨g, j, none⟩ u i (by show i ≠ g; omega)).trans (h.high i hi hl)⟩
theorem Kp.of_below {w w1 : World} {g : Nat} (h : Below w.heap.size w w1) (hg : g ≤ w.heap.size) : Kp w w1 g := ⟨h.mono hg, fun i _ hl => h.block i hl⟩
theorem Kp.drewN {w w1 : World} {g : Nat} (h : Kp w w1 g) (n : Nat) : Kp w (w1.drewN n) g := ⟨pw_below_drewN h.low n, h.high⟩
theorem Kp.block {w w1 : World} {g : Nat} (h : Kp w w1 g) {i : Nat} (hi : i < w.heap.size) (hne : i ≠ g) : w1.heap[i]? = w.heap[i]? := by
  rcases Nat.lt_or_gt_of_ne hne with hl | hl
  · exact h.low.block i hl
  · exact h.high i hl hi
theorem Kp.below {w w1 : World} {g B : Nat} (h : Kp w w1 g) (hB : B ≤ g) : Below B w w1 := h.low.mono hB

/-- The cells that a row of bytes is read from lie in old blocks that are not g: it is read as before. -/
theorem C_block {k : IntKind} {w w1 : World} {A : Option Addr} {l : List Int} (h : Kd.C (Kd.int k) w A l.length l) (hb : ∀ ad, A = some ad → w1.heap[ad.block]? = w.heap[ad.block]?) : Kd.C (Kd.int k) w1 A l.length l := by
  obtain ⟨h1, h2, h3⟩ := h
  refine ⟨h1, h2, fun hn => ?_⟩
  obtain ⟨ad, rfl, hc⟩ := h3 hn
  refine ⟨ad, rfl, fun j p hj => ?_⟩
  obtain ⟨c, hl, hk, hcell⟩ := hc j p hj
  refine ⟨c, hl, hk, fun i u hu => ?_⟩
  rw [← hcell i u hu]
  have e : ∀ n, (ad.add n).block = ad.block := fun n => by unfold Addr.add; split <;> rfl
  unfold World.cell?
  rw [e, hb ad rfl]

/-- A reader at block g; its bytes lie in a block from lo on, below g. -/
def Rd (W : World) (lo g : Nat) (b : List Int) (e : Int) : Prop :=
  ∃ A c, W.heap[g]? = some (.cells #[.slice A b.length c, .int .i64 e, .bool true] 65 (0, 0)) ∧ b.length ≤ c ∧ Kd.C (Kd.int .u8) W A b.length b ∧ (∀ ad, A = some ad → lo ≤ ad.block ∧ ad.block < g) ∧ okB b = true
theorem Rd.lt {W : World} {lo g : Nat} {b : List Int} {e : Int} (h : Rd W lo g b e) : g < W.heap.size := by
  obtain ⟨A, c, hg, _⟩ := h
  exact blk_lt hg
theorem Rd.keep {W W1 : World} {lo g g' : Nat} {b : List Int} {e : Int} (h : Rd W lo g b e) (hk : Kp W W1 g') (hne : g' ≠ g) (hlo : g' < lo ∨ g < g') : Rd W1 lo g b e := by
  obtain ⟨A, c, hg, hc, hC, hb, ho⟩ := h
  have hl := blk_lt hg
  refine ⟨A, c, (hk.block hl (Ne.symm hne)).trans hg, hc, C_block hC (fun ad e => hk.block (by have := hb ad e; omega) (by have := hb ad e; omega)), hb, ho⟩
theorem Rd.below {W W1 : World} {lo g : Nat} {b : List Int} {e : Int} (h : Rd W lo g b e) (hk : Below W.heap.size W W1) : Rd W1 lo g b e :=
  h.keep (g' := W.heap.size) (Kp.of_below hk (Nat.le_refl _)) (by have := h.lt; omega) (.inr h.lt)

set_option maxRecDepth 100000 in
theorem none_no (g : Nat) (v0 v1 : Value) (w : World) (hg : w.heap[g]? = some (.cells #[v0, v1, .bool true] 65 (0, 0))) :
    Calls Try.prog 57 #[.pointer (some ⟨g, 0, none⟩)] w fun e w' => e = .returned (.bool false) ∧ w = w' := by
  have h2 : w.cell? ⟨g, 2, none⟩ = some (.bool true) := (blk_cell hg 2).trans rfl
  have HG := Aside0.mk hg
  clear hg
  go_enter Try.func57, Try.ntmps57
  go_wp2
  go_ret
  exact ⟨rfl, rfl⟩
set_option maxRecDepth 100000 in
theorem err_yes (lo g : Nat) (b : List Int) (e : Int) (w : World) (h : Rd w lo g b e) :
    Calls Try.prog 31 #[.pointer (some ⟨g, 0, none⟩)] w fun en w' => en = .returned (.int .i64 e) ∧ w = w' := by
  obtain ⟨A, c, hg, _⟩ := h
  have h1 : w.cell? ⟨g, 1, none⟩ = some (.int .i64 e) := (blk_cell hg 1).trans rfl
  have HG := Aside0.mk hg
  clear hg
  go_enter Try.func31, Try.ntmps31
  go_wp2_with (go_at_call 57; refine (none_no _ _ _ _ HG.out).mono ?_; rintro e w' ⟨rfl, rfl⟩)
  go_ret
  exact ⟨rfl, rfl⟩
def left (b : List Int) (e : Int) : Int := if e = 0 then (b.length : Int) else 0
set_option maxRecDepth 100000 in
theorem left_yes (lo g : Nat) (b : List Int) (e : Int) (w : World) (h : Rd w lo g b e) :
    Calls Try.prog 29 #[.pointer (some ⟨g, 0, none⟩)] w fun en w' => en = .returned (.int .i64 (left b e)) ∧ w = w' := by
  obtain ⟨A, c, hg, _⟩ := h
  have h1 : w.cell? ⟨g, 1, none⟩ = some (.int .i64 e) := (blk_cell hg 1).trans rfl
  have h0 : w.cell? ⟨g, 0, none⟩ = some (.slice A b.length c) := (blk_cell hg 0).trans rfl
  have HG := Aside0.mk hg
  clear hg
  by_cases he : e = 0
  · have hE := Aside0.mk he
    subst he
    go_enter Try.func29, Try.ntmps29
    go_wp2_with (go_at_call 57; refine (none_no _ _ _ _ HG.out).mono ?_; rintro e w' ⟨rfl, rfl⟩)
    go_ret
    exact ⟨rfl, rfl⟩
  · have he1 : (e != 0) = true := by simp [he]
    have hl : left b e = 0 := if_neg he
    have HE := Aside0.mk he
    have HL := Aside0.mk hl
    clear he hl
    go_enter Try.func29, Try.ntmps29
    go_wp2_with (go_at_call 57; refine (none_no _ _ _ _ HG.out).mono ?_; rintro e w' ⟨rfl, rfl⟩)
    go_ret
    exact ⟨by rw [HL.out]; rfl, rfl⟩
/-- A store of the error. -/
theorem Rd.err {W : World} {lo g : Nat} {b : List Int} {e : Int} (h : Rd W lo g b e) (x : Int) : Rd (W.setCell ⟨g, 1, none⟩ (.int .i64 x)) lo g b x := by
  obtain ⟨A, c, hg, hc, hC, hb, ho⟩ := h
  refine ⟨A, c, by simpa using blk_set hg 1 (.int .i64 x), hc, C_block hC (fun ad e => Below.heap_setCell W ⟨g, 1, none⟩ _ _ (by have := hb ad e; show ad.block ≠ g; omega)), hb, ho⟩
def failed (e x : Int) : Int := if e = 0 then x else e
set_option maxRecDepth 100000 in
theorem fail_yes (lo g : Nat) (b : List Int) (e x : Int) (w : World) (h : Rd w lo g b e) :
    Calls Try.prog 58 #[.pointer (some ⟨g, 0, none⟩), .int .i64 x] w fun en w' => en = .returned (.tuple #[]) ∧ Rd w' lo g b (failed e x) ∧ Kp w w' g := by
  have HR := Aside0.mk h
  obtain ⟨A, c, hg, _⟩ := h
  have h1 : w.cell? ⟨g, 1, none⟩ = some (.int .i64 e) := (blk_cell hg 1).trans rfl
  have hf : w.frozen? ⟨g, 1, none⟩ = false := blk_frozen hg 1
  clear hg
  by_cases he : e = 0
  · have hx := Aside0.mk (show failed e x = x from if_pos he)
    subst he
    go_enter Try.func58, Try.ntmps58
    go_wp2
    first | go_end0 | ((try simp only [Exit.inBlock, Exit.then]); refine bodyPost_ret (results_none rfl _ _ _) rfl ?_)
    exact ⟨rfl, by rw [hx.out]; exact HR.out.err x, (Kp.refl _ _).set 1 _⟩
  · have hx := Aside0.mk (show failed e x = e from if_neg he)
    have he1 : (e == 0) = false := by simp [he]
    clear he
    go_enter Try.func58, Try.ntmps58
    go_wp2
    first | go_end0 | ((try simp only [Exit.inBlock, Exit.then]); refine bodyPost_ret (results_none rfl _ _ _) rfl ?_)
    exact ⟨rfl, by rw [hx.out]; exact HR.out, Kp.refl _ _⟩
def ended (b : List Int) (e : Int) : Int := if e = 0 then (if b = [] then 0 else 4) else e
set_option maxRecDepth 100000 in
theorem end_yes (lo g : Nat) (b : List Int) (e : Int) (w : World) (h : Rd w lo g b e) :
    Calls Try.prog 32 #[.pointer (some ⟨g, 0, none⟩)] w fun en w' => en = .returned (.int .i64 (ended b e)) ∧ Rd w' lo g b (ended b e) ∧ Kp w w' g := by
  have HR := Aside0.mk h
  clear h
  by_cases hl : 0 < left b e
  · have hE : Aside0 (failed e 4 = ended b e) := ⟨by
      unfold left at hl
      by_cases he : e = 0
      · rw [if_pos he] at hl
        unfold failed ended
        rw [if_pos he, if_pos he, if_neg (by rintro rfl; simp at hl)]
      · rw [if_neg he] at hl; omega⟩
    have hl1 : decide (0 < left b e) = true := decide_eq_true hl
    clear hl
    go_enter Try.func32, Try.ntmps32
    go_wp2_with (first | (go_at_call 29; refine (left_yes _ _ _ _ _ HR.out).mono ?_; rintro e w' ⟨rfl, rfl⟩) | (go_at_call 58; refine (fail_yes _ _ _ _ _ _ HR.out).mono ?_; rintro e w1 ⟨rfl, hr, hk⟩; have HR1 := Aside0.mk hr; have HK := Aside0.mk hk; clear hr hk) | (go_at_call 31; refine (err_yes _ _ _ _ _ HR1.out).mono ?_; rintro e w' ⟨rfl, rfl⟩))
    go_ret
    exact ⟨by rw [← hE.out]; rfl, by rw [← hE.out]; exact HR1.out, HK.out⟩
  · have hE : Aside0 (e = ended b e) := ⟨by
      unfold left at hl
      unfold ended
      by_cases he : e = 0
      · rw [if_pos he] at hl ⊢
        rw [if_pos (List.eq_nil_of_length_eq_zero (by omega))]
        exact he
      · rw [if_neg he]⟩
    have hl1 : decide (0 < left b e) = false := decide_eq_false hl
    clear hl
    go_enter Try.func32, Try.ntmps32
    go_wp2_with (first | (go_at_call 29; refine (left_yes _ _ _ _ _ HR.out).mono ?_; rintro e w' ⟨rfl, rfl⟩) | (go_at_call 31; refine (err_yes _ _ _ _ _ HR.out).mono ?_; rintro e w' ⟨rfl, rfl⟩))
    go_ret
    exact ⟨by rw [← hE.out]; rfl, by rw [← hE.out]; exact HR.out, Kp.refl _ _⟩
end Go.Proofs.Ytcpnjlagmnlecaa.A3

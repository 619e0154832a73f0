/- wire.table and wire.Sum: the checksum by its table. -/
import Derived.Test.YtcpnjlagmnlecaaProg
import Derived.Below
import Derived.Deep.Draws
import Derived.Deep.AppendLies
import Derived.Maps.AppendAt
import Derived.OwnWalk
import Derived.Laws.BytesArg
import Derived.Laws.MakeOwn
import Derived.Laws.OwnMore
import Derived.Deep.OwnRows
import Derived.Tactics
import Derived.Lib.ConvBytes
import Derived.Laws.Slices
import Derived.WalkKit
import Derived.KernelRfl
import Derived.RowKit3
import Derived.Deep.LoopGhost
import Derived.Deep.QuietTactic
import Derived.BigQuiet
import Derived.WideLaws
import Derived.Deep.DeepCutAuto
import Derived.Deep.CutBlock
import Derived.Deep.RegionHeld3
import Derived.Laws.Rows
import Derived.Lib.AppendStr
import Derived.ArgAppend
import Derived.Laws.IdiomCopy
import Derived.OrdersHeld
import Derived.Laws.BitsLemmas
import Derived.RowKit
import Derived.WalkSpells
import Derived.Laws.CopyOwn
import Derived.Test.YtcpnjlagmnlecaaWWords
import Derived.Test.YtcpnjlagmnlecaaWLast
import Derived.Test.YtcpnjlagmnlecaaWMore
import Derived.Test.YtcpnjlagmnlecaaCrc
namespace Go.Proofs.Ytcpnjlagmnlecaa.A2
open Go.RowKit Go.Proofs.YtcpnjlagmnlecaaW.PrintWords Go.Proofs.YtcpnjlagmnlecaaW.PrintLast Go.Proofs.YtcpnjlagmnlecaaW.PrintMore Go.Proofs.Ytcpnjlagmnlecaa
set_option linter.unusedVariables false
set_option linter.unusedSimpArgs false

def tabCells (k : Nat) : Array Value := ((List.range 256).map fun i => Value.int .u32 ((if i < k then Crc.stpN 8 i else 0 : Nat) : Int)).toArray
theorem alloc66 (W : World) : (Instr.alloc 66 true (.tuple #[])).run Try.prog W = .ok (.pointer (some ⟨W.heap.size, 0, none⟩)) (W.alloc (.cells (tabCells 0) 66)) := by kernel_rfl
theorem stpN_succ (j r : Nat) : Crc.stpN (j + 1) r = Crc.stp (Crc.stpN j r) := Crc.stpN_add j 1 r
theorem wraps_u32 (n : Int) (h0 : 0 ≤ n) (h1 : n < 2 ^ 32) : IntKind.u32.wrap n = n := by rw [IntKind.wrap_u32]; omega
theorem bits_xor (k : IntKind) (j : Nat) (hj : j ≤ k.bits) (hk : ∀ n : Int, 0 ≤ n → n < 2 ^ j → k.wrap n = n) (a b : Nat) (ha : a < 2 ^ j) (hb : b < 2 ^ j) :
    bits .xor k a b = ((a ^^^ b : Nat) : Int) := by
  have hp : 2 ^ j ≤ 2 ^ k.bits := Nat.pow_le_pow_right (by decide) hj
  have ha' : a % 2 ^ k.bits = a := Nat.mod_eq_of_lt (Nat.lt_of_lt_of_le ha hp)
  have hb' : b % 2 ^ k.bits = b := Nat.mod_eq_of_lt (Nat.lt_of_lt_of_le hb hp)
  simp only [bits, BitVec.ofInt_natCast, BitVec.toNat_xor, BitVec.toNat_ofNat, ha', hb']
  exact hk _ (Int.natCast_nonneg _) (by exact_mod_cast Nat.xor_lt_two_pow ha hb)
theorem u32_xor (a b : Nat) (ha : a < 4294967296) (hb : b < 4294967296) : bits .xor .u32 (a : Int) (b : Int) = ((a ^^^ b : Nat) : Int) := bits_xor .u32 32 (by decide) wraps_u32 a b ha hb
theorem u8_xor (a b : Nat) (ha : a < 256) (hb : b < 256) : bits .xor .u8 (a : Int) (b : Int) = ((a ^^^ b : Nat) : Int) := bits_xor .u8 8 (by decide) wraps_u8 a b ha hb
theorem wraps_i64 (n : Int) (h0 : 0 ≤ n) (h1 : n < 2 ^ 62) : IntKind.i64.wrap n = n := by rw [IntKind.wrap_i64]; omega
theorem i64_xor (a b : Nat) (ha : a < 4294967296) (hb : b < 4294967296) : bits .xor .i64 (a : Int) (b : Int) = ((a ^^^ b : Nat) : Int) := bits_xor .i64 62 (by decide) wraps_i64 a b (by omega) (by omega)
theorem i64_and (a b : Nat) (ha : a < 4294967296) (hb : b < 4294967296) : bits .and .i64 (a : Int) (b : Int) = ((a &&& b : Nat) : Int) := (bits_nat .i64 62 (by decide) wraps_i64 a b (by omega) (by omega)).1
theorem u32_and (a b : Nat) (ha : a < 4294967296) (hb : b < 4294967296) : bits .and .u32 (a : Int) (b : Int) = ((a &&& b : Nat) : Int) := (bits_nat .u32 32 (by decide) wraps_u32 a b ha hb).1
theorem step_u32 (v : Nat) (hv : v < 4294967296) : bits .xor .u32 ((v : Int) / 2) (3988292384 * bits .and .u32 (v : Int) 1 % 4294967296) = ((Crc.stp v : Nat) : Int) := by
  have e1 : bits .and .u32 (v : Int) 1 = ((v &&& 1 : Nat) : Int) := u32_and v 1 hv (by decide)
  rw [e1, Nat.and_one_is_mod]
  have e2 : (3988292384 * ((v % 2 : Nat) : Int) % 4294967296) = ((if v % 2 = 1 then 3988292384 else 0 : Nat) : Int) := by
    rcases Nat.mod_two_eq_zero_or_one v with h | h <;> rw [h] <;> simp
  rw [e2, show (v : Int) / 2 = ((v / 2 : Nat) : Int) by omega, u32_xor _ _ (by omega) (by split <;> omega)]
  unfold Crc.stp
  split
  · rfl
  · rw [Nat.xor_zero]
theorem tab_set (k : Nat) (hk : k < 256) : (tabCells k).setIfInBounds k (.int .u32 ((Crc.stpN 8 k : Nat) : Int)) = tabCells (k + 1) := by
  unfold tabCells
  rw [List.setIfInBounds_toArray]
  congr 1
  apply List.ext_getElem
  · simp
  · intro i h1 h2
    simp only [List.getElem_set, List.getElem_map, List.getElem_range]
    by_cases e : k = i
    · subst e; simp
    · rw [if_neg e]
      by_cases hi : i < k
      · rw [if_pos hi, if_pos (by omega)]
      · rw [if_neg hi, if_neg (by omega)]
theorem tab_one (k : Nat) : (tabCells k).all (·.oneCell') = true := by
  rw [Array.all_eq_true_iff_forall_mem]
  intro v hv
  simp only [tabCells, List.mem_toArray, List.mem_map] at hv
  obtain ⟨i, _, rfl⟩ := hv
  rfl
theorem size_tab (k : Nat) : (tabCells k).size = 256 := by simp [tabCells]
set_option maxHeartbeats 4000000 in
set_option maxRecDepth 100000 in
theorem wire_table.calls (w : World) : Calls Try.prog 40 #[] w fun e w' => e = .returned (.agg (tabCells 256)) ∧ Below w.heap.size w w' := by
  have ha := alloc66
  go_enter Try.func40, Try.ntmps40
  go_wp2
  go_loopw [3] (fun v3 wr => ∃ k : Nat, k ≤ 256 ∧ v3 = .int .i64 k ∧ Aside0 (wr.heap[w.heap.size]? = some (.cells (tabCells k) 66 (0, 0))) ∧ Aside0 (Below w.heap.size w wr)) (fun v3 _ => 256 - (intOf v3).toNat)
  case atStart => exact ⟨0, by omega, rfl, ⟨heap_alloc_new _ _⟩, ⟨below_alloc (Below.refl _ _) _⟩⟩
  case round =>
    obtain ⟨k, hk, rfl, HC, HB⟩ := hrel
    by_cases hlt : k < 256
    · have hce : wr.cell? ⟨w.heap.size, k, none⟩ = some (.int .u32 0) := by
        rw [cell_of_row wr w.heap.size k _ _ _ HC.out]
        simp [tabCells, hlt]
      have hfr : wr.frozen? ⟨w.heap.size, k, none⟩ = false := frozen_of_row _ _ _ _ _ HC.out
      go_wp2
      go_loop [2, 8] (fun v2 v8 => ∃ j : Nat, j ≤ 8 ∧ v8 = .int .i64 j ∧ v2 = .int .u32 ((Crc.stpN j k : Nat) : Int)) (fun _ v8 => 8 - (intOf v8).toNat)
      case atStart => exact ⟨0, by omega, rfl, rfl⟩
      case round =>
        obtain ⟨j, hj, rfl, rfl⟩ := hrel
        by_cases hj8 : j < 8
        · go_wp2
          go_round
          case rel => exact ⟨j + 1, by omega, by go_num, by rw [step_u32 _ (Crc.stpN_lt j (by omega)), stpN_succ]⟩
          case measure => simp [intOf]; omega
        · obtain rfl : j = 8 := by omega
          go_wp2
          go_roundw
          case rel =>
            refine ⟨k + 1, by omega, by go_num, ⟨?_⟩, ⟨HB.out.setCell (Nat.le_refl _) _⟩⟩
            rw [heap_setCell_same _ _ _ _ _ _ HC.out, tab_set k hlt]
          case measure => simp [intOf]; omega
    · obtain rfl : k = 256 := by omega
      have hsz : (Try.prog.info? 66).map (·.size) = some (tabCells 256).size := by rw [size_tab]; kernel_rfl
      go_wp2_with (first | (refine wpList_load_row rfl 66 (.tmp 0) rfl w.heap.size rfl 66 (tabCells 256) (0, 0) _ HC.out Try.underlying66 rfl hsz ?_) | (refine wpList_store_row rfl 66 (.tmp 0) (.tmp 21) rfl w.heap.size (tabCells 256) rfl rfl 66 (tabCells 256) HC.out hsz rfl (tab_one 256) ?_; rw [setRow_self _ _ _ _ _ HC.out]))
      exact bodyPost_ret (v := .agg (tabCells 256)) (results_cell_row rfl _ _ w.heap.size 66 _ (0, 0) _ rfl HC.out Try.underlying66 rfl hsz) rfl ⟨rfl, HB.out⟩

def okB (l : List Int) : Bool := l.all fun c => decide (0 ≤ c) && decide (c < 256)
def wire_Sum.f (l0 : List Int) : Option Int := if okB l0 = true then some ((Crc.crc (l0.map Int.toNat) : Nat) : Int) else none
theorem okB_at {l : List Int} (h : okB l = true) (k : Nat) (hk : k < l.length) : ∃ C : Nat, C < 256 ∧ l.getD k 0 = (C : Int) ∧ (l.map Int.toNat)[k]? = some C := by
  have h1 := List.all_eq_true.1 h _ (List.getElem_mem hk)
  simp only [Bool.and_eq_true, decide_eq_true_eq] at h1
  refine ⟨l[k].toNat, by omega, ?_, by simp [hk]⟩
  rw [List.getD_eq_getElem?_getD, List.getElem?_eq_getElem hk, Option.getD_some]
  omega
theorem okB_nat {l : List Int} (h : okB l = true) : ∀ c ∈ l.map Int.toNat, c < 256 := by
  intro c hc
  obtain ⟨x, hx, rfl⟩ := List.mem_map.1 hc
  have h1 := List.all_eq_true.1 h _ hx
  simp only [Bool.and_eq_true, decide_eq_true_eq] at h1
  omega
theorem take_snoc {α : Type} {l : List α} {k : Nat} {c : α} (h : l[k]? = some c) : l.take (k + 1) = l.take k ++ [c] := by
  obtain ⟨hk, rfl⟩ := List.getElem?_eq_some_iff.1 h
  exact List.take_succ_eq_append_getElem hk
theorem reg_snoc (r : Nat) (l : List Nat) (c : Nat) : Crc.reg r (l ++ [c]) = Crc.feed (Crc.reg r l) c := by simp [Crc.reg]
theorem xor_low (R C : Nat) (hC : C < 256) : (R % 256) ^^^ C = (R ^^^ C) % 256 := by
  rw [show (256 : Nat) = 2 ^ 8 by rfl, Nat.xor_mod_two_pow, Nat.mod_eq_of_lt (a := C) (by omega)]
theorem tab_cell (W : World) (g x : Nat) (h : W.heap[g]? = some (.cells (tabCells 256) 66 (0, 0))) (hx : x < 256) : W.cell? ⟨g, x, none⟩ = some (.int .u32 ((Crc.stpN 8 x : Nat) : Int)) := by
  rw [cell_of_row W g x _ _ _ h]
  simp [tabCells, hx]
set_option maxHeartbeats 4000000 in
set_option maxRecDepth 100000 in
theorem wire_Sum.calls (A0 : Option Addr) (c0 : Nat) (l0 : List Int) (r : Int) (w : World) (hr0 : Kd.C (Kd.int .u8) w A0 l0.length l0) (hc0 : l0.length ≤ c0) (h : wire_Sum.f l0 = some r) :
    Calls Try.prog 11 #[.slice A0 l0.length c0] w fun e w' => e = .returned (.int .i64 r) ∧ Below w.heap.size w w' := by
  have HR0 := Aside0.mk hr0
  have HC0 := Aside0.mk hc0
  clear hr0 hc0
  unfold wire_Sum.f at h
  by_cases hb : okB l0 = true
  · rw [if_pos hb] at h
    have HK := Aside0.mk hb
    clear hb
    obtain rfl := Option.some.inj h
    clear h
    have ha := alloc66
    have HL : Aside0 (l0.length ≤ 9223372036854775807) := ⟨HR0.out.2.1⟩
    go_enter Try.func11, Try.ntmps11
    go_wp2_with (first | (go_at_call 40; refine (wire_table.calls _).mono ?_; rintro e w1 ⟨rfl, hb1⟩; have HB := Aside0.mk hb1; clear hb1) | (refine wpList_store_row rfl 66 (.tmp 3) (.tmp 7) rfl _ (tabCells 256) rfl rfl 66 (tabCells 0) (heap_alloc_new _ _) (by rw [size_tab]; kernel_rfl) (by rw [size_tab, size_tab]) (tab_one 256) ?_))
    have HT := Aside0.mk (setRow_heap (w1.alloc (.cells (tabCells 0) 66)) w1.heap.size (tabCells 0) (tabCells 256) 66 (0, 0) (heap_alloc_new _ _))
    have HB2 := Aside0.mk (below_setRow (g := w1.heap.size) (below_alloc HB.out (.cells (tabCells 0) 66)) HB.out.size (tabCells 256))
    change Aside0 (((w1.alloc (.cells Try.zeroCells66 66)).setRow w1.heap.size (tabCells 256)).heap[w1.heap.size]? = _) at HT
    change Aside0 (Below w.heap.size w ((w1.alloc (.cells Try.zeroCells66 66)).setRow w1.heap.size (tabCells 256))) at HB2
    generalize (w1.alloc (.cells Try.zeroCells66 66)).setRow w1.heap.size (tabCells 256) = W2 at HT HB2 ⊢
    generalize w1.heap.size = g at HT ⊢
    clear HB ha
    go_loop [4, 10] (fun v4 v10 => ∃ k : Nat, k ≤ l0.length ∧ v10 = .int .i64 k ∧ v4 = .int .u32 ((Crc.reg 4294967295 ((l0.map Int.toNat).take k) : Nat) : Int)) (fun _ v10 => l0.length - (intOf v10).toNat)
    case atStart => exact ⟨0, Nat.zero_le _, rfl, rfl⟩
    case round =>
      obtain ⟨k, hk, rfl, rfl⟩ := hrel
      have hm := HL.out
      have hR : Crc.reg 4294967295 ((l0.map Int.toNat).take k) < 4294967296 := Crc.reg_lt _ (by decide) (fun c hc => okB_nat HK.out c (List.mem_of_mem_take hc))
      by_cases hlt : k < l0.length
      · obtain ⟨C, hC, e1, e2⟩ := okB_at HK.out k hlt
        have hs := reg_snoc 4294967295 ((l0.map Int.toNat).take k) C
        rw [← take_snoc e2] at hs
        have hf := Crc.feed_table (r := Crc.reg 4294967295 ((l0.map Int.toNat).take k)) hC
        obtain ⟨R, hRe⟩ : ∃ R, R = Crc.reg 4294967295 ((l0.map Int.toNat).take k) := ⟨_, rfl⟩
        rw [← hRe] at hR hs hf
        have HS := Aside0.mk (hs.trans hf)
        have HRe := Aside0.mk hRe
        rw [← hRe]
        clear hs hf hRe
        obtain ⟨ad, e, hx⟩ := Kd.at_int HR0.out k (by omega) (by omega)
        cases e
        have hx2 := (HB2.out.cell (World.block_lt_of_cell? w _ hx)).trans hx
        have hrd : rd l0 (k : Int) = (C : Int) := by rw [← e1]; rfl
        rw [hrd] at hx2
        clear hx hrd e1 e2
        have hx3 : W2.cell? (ad.add k) = some (.int .u8 (C : Int)) := hx2
        clear hx2
        obtain ⟨x, hxe⟩ : ∃ x, x = (R % 256) ^^^ C := ⟨_, rfl⟩
        have hxl : x < 256 := by rw [hxe]; exact Nat.xor_lt_two_pow (n := 8) (by omega) (by omega)
        have hidx : bits .xor .u8 ((R : Int) % 256) (C : Int) = (x : Int) := by
          rw [show (R : Int) % 256 = ((R % 256 : Nat) : Int) by omega, u8_xor _ _ (by omega) hC, hxe]
        have hcell := tab_cell W2 g x HT.out hxl
        have HX := Aside0.mk hxe
        clear hxe
        go_wp2
        go_round
        case rel =>
          refine ⟨k + 1, by omega, by go_num, ?_⟩
          rw [HS.out, show (R : Int) / 256 = ((R / 256 : Nat) : Int) by omega, u32_xor _ _ (by omega) (Crc.stpN_lt 8 (by omega)), HX.out, xor_low R C hC]
        case measure => simp [intOf]; omega
      · obtain rfl : k = l0.length := by omega
        rw [show l0.length = (l0.map Int.toNat).length by simp, List.take_length] at hR ⊢
        have hX : bits .xor .u32 ((Crc.reg 4294967295 (l0.map Int.toNat) : Nat) : Int) 4294967295 = ((Crc.crc (l0.map Int.toNat) : Nat) : Int) := u32_xor _ 4294967295 hR (by decide)
        have hX1 := Crc.crc_lt (l0.map Int.toNat) (okB_nat HK.out)
        simp only [List.length_map] at hm ⊢
        go_wp2
        go_ret
        exact ⟨rfl, HB2.out⟩
  · rw [if_neg hb] at h
    cases h
end Go.Proofs.Ytcpnjlagmnlecaa.A2

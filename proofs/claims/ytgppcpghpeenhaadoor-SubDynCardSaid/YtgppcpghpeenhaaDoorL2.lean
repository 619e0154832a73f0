/- lex: names. -/
import Derived.Test.YtgppcpghpeenhaaDoorProg
import Derived.Test.YtgppcpghpeenhaaDoorWWords
import Derived.Test.YtgppcpghpeenhaaDoorWLast
import Derived.Test.YtgppcpghpeenhaaDoorL1
namespace Go.Proofs.YtgppcpghpeenhaaDoor.L2
open Go.RowKit Go.Proofs.YtgppcpghpeenhaaDoorW.PrintWords Go.Proofs.YtgppcpghpeenhaaDoorW.PrintLast Go.Proofs.YtgppcpghpeenhaaDoorW.PrintMore Go.Proofs.YtgppcpghpeenhaaDoor L1
set_option linter.unusedVariables false
set_option linter.unusedSimpArgs false
def taggedP (s : ByteArray) : Bool := decide (0 < s.size) && decide (s.size ≤ 16) && smallP (bt s 0) && (List.range s.size).all (fun i => okP (bt s i))
set_option maxHeartbeats 4000000 in
set_option maxRecDepth 100000 in
theorem formed_yes (s : ByteArray) (g0 : Nat) (w : World) (h0 : ∀ j, j < 3 → w.cell? ⟨g0, j, none⟩ = some (.func (.func (sortF j)) #[] #[])) :
    Calls Tryd.prog 80 #[.string s, .func (.func 81) #[] #[], .slice (some ⟨g0, 0, none⟩) 3 3] w fun e w' => e = .returned (.bool (taggedP s)) ∧ Below w.heap.size w w' := by
  have H0 := Aside0.mk h0
  have hmf : ∀ (fn : Fn) (first cap : Array Value) (w : World), (Instr.makeFunc fn first cap).run Tryd.prog w = .ok (.func fn first cap) w := fun _ _ _ _ => rfl
  have HG0 := Aside0.mk (heap_alloc_new w (.cells #[.string s] 9))
  have HW0 := Aside0.mk (below_alloc (Below.refl w.heap.size w) (.cells #[.string s] 9))
  clear h0
  have hcell : (w.alloc (.cells #[.string s] 9)).cell? ⟨w.heap.size, 0, none⟩ = some (.string s) := (blk_cell HG0.out 0).trans rfl
  have hll := toList_len s
  go_enter Tryd.func80, Tryd.ntmps80
  by_cases hs0 : s.toList = []
  · have HT := Aside0.mk (show taggedP s = false by unfold taggedP; rw [decide_eq_false (by rw [hs0] at hll; simp at hll; omega)]; rfl)
    clear hll
    go_wp2_with (fail)
    go_ret
    exact ⟨by rw [HT.out]; rfl, HW0.out⟩
  · have hsz : 0 < s.size := by
      rcases Nat.eq_zero_or_pos s.size with h | h
      · exact absurd (List.eq_nil_of_length_eq_zero (by omega)) hs0
      · exact h
    have hie : s.toList.isEmpty = false := by simp [hs0]
    by_cases hs1 : 16 < (s.size : Int)
    · have HT := Aside0.mk (show taggedP s = false by unfold taggedP; rw [decide_eq_false (show ¬ s.size ≤ 16 by omega)]; simp)
      clear hll hsz
      go_wp2_with (fail)
      go_ret
      exact ⟨by rw [HT.out]; rfl, HW0.out⟩
    · have hbt : ((s[0]'hsz).toNat : Int) = bt s 0 := bt_at s 0 hsz
      have HSz := Aside0.mk hsz
      have H16 := Aside0.mk hs1
      cases hsm : smallP (bt s 0) with
      | false =>
        have HT := Aside0.mk (show taggedP s = false by unfold taggedP; rw [hsm]; simp)
        have HSm := Aside0.mk hsm
        clear hll hsm
        go_wp2_with (fail)
        refine (P.lex_small.calls (bt s 0) _ _ (small_f _)).mono ?_
        rw [HSm.out]
        rintro e w' ⟨rfl, ⟨nd, rfl⟩⟩
        go_wp2_with (fail)
        go_ret
        exact ⟨by rw [HT.out]; rfl, pw_below_drewN HW0.out nd⟩
      | true =>
        have HSm := Aside0.mk hsm
        clear hll hsm
        go_wp2_with (fail)
        refine (P.lex_small.calls (bt s 0) _ _ (small_f _)).mono ?_
        rw [HSm.out]
        rintro e w' ⟨rfl, ⟨nd, rfl⟩⟩
        have HW1 := Aside0.mk (pw_below_drewN HW0.out nd)
        have HC1 := Aside0.mk (show ((w.alloc (.cells #[.string s] 9)).drewN nd).cell? ⟨w.heap.size, 0, none⟩ = some (.string s) from hcell)
        have HL1 := Aside0.mk (show w.heap.size < ((w.alloc (.cells #[.string s] 9)).drewN nd).heap.size by have := blk_lt HG0.out; exact this)
        clear hcell hbt
        have hcell : ((w.alloc (.cells #[.string s] 9)).drewN nd).cell? ⟨w.heap.size, 0, none⟩ = some (.string s) := HC1.out
        generalize (w.alloc (.cells #[.string s] 9)).drewN nd = W1 at HW1 HC1 HL1 hcell ⊢
        go_wp2_with (fail)
        clear hcell
        go_loopw [24] (fun v24 wr => ∃ i : Nat, i ≤ s.size ∧ v24 = .int .i64 i ∧ Aside0 (∀ m, m < i → okP (bt s (m : Nat)) = true) ∧ Aside0 (Below w.heap.size w wr) ∧ Aside0 (wr.cell? ⟨w.heap.size, 0, none⟩ = some (.string s)) ∧ Aside0 (w.heap.size < wr.heap.size)) (fun v24 _ => s.size + 1 - (intOf v24).toNat)
        case atStart => exact ⟨0, by omega, rfl, ⟨fun m hm => absurd hm (by omega)⟩, HW1, HC1, HL1⟩
        case round =>
          obtain ⟨i, hi, rfl, HA, HB, HC, HL⟩ := hrel
          by_cases hlt : i < s.size
          · cases hok : okP (bt s (i : Nat)) with
            | false =>
              have HOk := Aside0.mk hok
              have HT := Aside0.mk (show taggedP s = false by
                unfold taggedP
                rw [show (List.range s.size).all (fun i => okP (bt s i)) = false from List.all_eq_false.2 ⟨i, List.mem_range.2 hlt, by rw [hok]; simp⟩]
                simp)
              clear hok
              go_wp2_with (fail)
              have HB2 := Aside0.mk (below_alloc HB.out (.cells #[.int .i64 (i : Int)] 3))
              have HC2 := Aside0.mk (pw_cell_below (below_alloc (Below.refl wr.heap.size wr) (.cells #[.int .i64 (i : Int)] 3)) HC.out)
              have hI : (wr.alloc (.cells #[.int .i64 (i : Int)] 3)).cell? ⟨wr.heap.size, 0, none⟩ = some (.int .i64 (i : Int)) := (blk_cell (heap_alloc_new wr (.cells #[.int .i64 (i : Int)] 3)) 0).trans rfl
              refine (contains_yes s i hlt g0 w.heap.size wr.heap.size _ (fun j hj => pw_cell_below HB2.out (H0.out j hj)) HC2.out hI).mono ?_
              rw [HOk.out]
              rintro e w' ⟨rfl, ⟨nd2, rfl⟩⟩
              clear hI
              go_wp2_with (fail)
              go_ret
              exact ⟨by rw [HT.out]; rfl, pw_below_drewN HB2.out nd2⟩
            | true =>
              have HOk := Aside0.mk hok
              clear hok
              go_wp2_with (fail)
              have HB2 := Aside0.mk (below_alloc HB.out (.cells #[.int .i64 (i : Int)] 3))
              have HC2 := Aside0.mk (pw_cell_below (below_alloc (Below.refl wr.heap.size wr) (.cells #[.int .i64 (i : Int)] 3)) HC.out)
              have hI : (wr.alloc (.cells #[.int .i64 (i : Int)] 3)).cell? ⟨wr.heap.size, 0, none⟩ = some (.int .i64 (i : Int)) := (blk_cell (heap_alloc_new wr (.cells #[.int .i64 (i : Int)] 3)) 0).trans rfl
              refine (contains_yes s i hlt g0 w.heap.size wr.heap.size _ (fun j hj => pw_cell_below HB2.out (H0.out j hj)) HC2.out hI).mono ?_
              rw [HOk.out]
              rintro e w' ⟨rfl, ⟨nd2, rfl⟩⟩
              clear hI
              go_wp2_with (fail)
              go_roundw
              case rel => exact ⟨i + 1, by omega, by rw [Int.natCast_add]; rfl, ⟨fun m hm => by
                by_cases he : m = i
                · rw [he]; exact HOk.out
                · exact HA.out m (by omega)⟩, ⟨pw_below_drewN HB2.out nd2⟩, ⟨HC2.out⟩, ⟨Nat.lt_of_lt_of_le HL.out (below_alloc (Below.refl wr.heap.size wr) _).size⟩⟩
              case measure => simp only [intOf]; omega
          · obtain rfl : i = s.size := by omega
            have HT := Aside0.mk (show taggedP s = true by
              unfold taggedP
              rw [decide_eq_true HSz.out, decide_eq_true (show s.size ≤ 16 by have := H16.out; omega), HSm.out, List.all_eq_true.2 (fun i hi => HA.out i (List.mem_range.1 hi))]; rfl)
            go_wp2_with (fail)
            go_ret
            exact ⟨by rw [HT.out]; rfl, HB.out⟩
set_option maxHeartbeats 4000000 in
set_option maxRecDepth 100000 in
theorem tagged_yes (s : ByteArray) (w : World) :
    Calls Tryd.prog 59 #[.string s] w fun e w' => e = .returned (.bool (taggedP s)) ∧ Below w.heap.size w w' := by
  have hc : ∀ j, j < 3 → (w.alloc (.cells #[.func (.func 81) #[] #[], .func (.func 82) #[] #[], .func (.func 83) #[] #[]] 111)).cell? ⟨w.heap.size, j, none⟩ = some (.func (.func (sortF j)) #[] #[]) := by
    intro j hj
    rw [blk_cell (heap_alloc_new w _) j]
    rcases (show j = 0 ∨ j = 1 ∨ j = 2 by omega) with rfl | rfl | rfl <;> rfl
  have HC := Aside0.mk hc
  have HB := Aside0.mk (below_alloc (Below.refl w.heap.size w) (.cells #[.func (.func 81) #[] #[], .func (.func 82) #[] #[], .func (.func 83) #[] #[]] 111))
  clear hc
  go_enter Tryd.func59, Tryd.ntmps59
  go_wp2_with (fail)
  refine (formed_yes s w.heap.size _ HC.out).mono ?_
  rintro e w' ⟨rfl, hb⟩
  have HB2 := Aside0.mk (HB.out.trans (hb.mono HB.out.size))
  clear hb
  go_wp2_with (fail)
  go_ret
  exact ⟨rfl, HB2.out⟩
def isNameP (s : ByteArray) : Bool := taggedP s && !isKeyP s
set_option maxHeartbeats 4000000 in
set_option maxRecDepth 100000 in
theorem isName_yes (s : ByteArray) (w : World) (hk : Keys w) :
    Calls Tryd.prog 39 #[.string s] w fun e w' => e = .returned (.bool (isNameP s)) ∧ Below w.heap.size w w' := by
  have HK := Aside0.mk hk
  clear hk
  cases ht : taggedP s with
  | false =>
    have HT := Aside0.mk ht
    clear ht
    go_enter Tryd.func39, Tryd.ntmps39
    go_wp2_with (fail)
    refine (tagged_yes s w).mono ?_
    rw [HT.out]
    rintro e w' ⟨rfl, hb⟩
    have HB := Aside0.mk hb
    clear hb
    go_wp2_with (fail)
    go_ret
    exact ⟨by unfold isNameP; rw [HT.out]; rfl, HB.out⟩
  | true =>
    have HT := Aside0.mk ht
    clear ht
    go_enter Tryd.func39, Tryd.ntmps39
    go_wp2_with (fail)
    refine (tagged_yes s w).mono ?_
    rw [HT.out]
    rintro e w' ⟨rfl, hb⟩
    have HB := Aside0.mk hb
    have HK2 := Aside0.mk (HK.out.below hb)
    clear hb
    go_wp2_with (fail)
    refine (isKey_yes s w' HK2.out).mono ?_
    rintro e w2 ⟨rfl, rfl⟩
    go_wp2_with (fail)
    go_ret
    exact ⟨by unfold isNameP; rw [HT.out]; rfl, HB.out⟩
end Go.Proofs.YtgppcpghpeenhaaDoor.L2

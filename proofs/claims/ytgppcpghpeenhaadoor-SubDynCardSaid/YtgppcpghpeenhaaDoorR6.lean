/- made: a graph out of rows. -/
import Derived.Test.YtgppcpghpeenhaaDoorProg
import Derived.Test.YtgppcpghpeenhaaDoorWWords
import Derived.Test.YtgppcpghpeenhaaDoorWLast
import Derived.Test.YtgppcpghpeenhaaDoorR4
namespace Go.Proofs.YtgppcpghpeenhaaDoor.R6
open Go.RowKit Go.Proofs.YtgppcpghpeenhaaDoorW.PrintWords Go.Proofs.YtgppcpghpeenhaaDoorW.PrintLast Go.Proofs.YtgppcpghpeenhaaDoorW.PrintMore Go.Proofs.YtgppcpghpeenhaaDoor L1 L3 L4 G1 G2 S0 S1 S2 S3 S4 S5 S8 R1 R4
attribute [local go_sem] max2_int min2_int max_two min_two
set_option linter.unusedVariables false
set_option linter.unusedSimpArgs false
abbrev RW := P.S38
abbrev kRW := P.k38
abbrev kGN := P.k33
def emp : ByteArray := ⟨#[]⟩
/-- A node that made lays at place i, of n, of which the first p ones are no unions. -/
def NodeP (dyn : Bool) (n p i : Nat) (x : GN) : Prop :=
  (∃ k : Int, 1 ≤ k ∧ k ≤ 4 ∧ (k = 1 → dyn = true) ∧ x = ⟨k, 0, emp, [], []⟩) ∨
  (∃ s, (s = kA ∨ s = kB) ∧ x = ⟨5, 0, s, [], []⟩) ∨
  (∃ m y : Int, 0 ≤ m ∧ m < 2 ∧ 0 ≤ y ∧ y < n ∧ x = ⟨9, m, emp, [], [y]⟩) ∨
  (∃ l : List Int, l.length ≤ 2 ∧ In n l ∧ x = recG l) ∨
  (p ≤ i ∧ ∃ u : List Int, 2 ≤ u.length ∧ u.Nodup ∧ In p u ∧ x = ⟨8, 0, emp, [], u⟩)
def GraphP (dyn : Bool) (n p : Nat) (g : List GN) : Prop := ∀ i x, g[i]? = some x → NodeP dyn n p i x
theorem GraphP.snoc {dyn : Bool} {n p : Nat} {g : List GN} (h : GraphP dyn n p g) {x : GN} (hx : NodeP dyn n p g.length x) : GraphP dyn n p (g ++ [x]) := fun i y hy => by
  rcases Nat.lt_trichotomy i g.length with hi | hi | hi
  · rw [List.getElem?_append_left hi] at hy
    exact h i y hy
  · subst hi
    rw [List.getElem?_append_right (Nat.le_refl _)] at hy
    simp at hy
    subst hy
    exact hx
  · rw [List.getElem?_eq_none (by simp; omega)] at hy
    cases hy
def plainN (n : Nat) : Nat := (2 * n + 2) / 3
theorem infoG : (Tryd.prog.info? 33).map (fun i => (i.zero, i.size, i.bytes)) = some (some (.agg #[.int .i64 0, .int .i64 0, .string ⟨#[]⟩, .slice none 0 0, .slice none 0 0]), 5, 80) := by kernel_rfl
theorem infoR : (Tryd.prog.info? 38).map (fun i => (i.zero, i.size, i.bytes)) = some (some (.agg #[.int .i64 0, .int .i64 0, .slice none 0 0]), 3, 40) := by kernel_rfl
theorem R_up {α : Type} {d : Kd α} {e : Nat} {W : World} {base b0 : Nat} {v : Value} {xs : List α} (h : d.R e W base (fun _ => True) v xs) (hb : b0 ≤ base) : d.R e W b0 (fun k => b0 ≤ k) v xs :=
  Kd.R_lower (Kd.R_mono (Kd.R_bound h) (fun k hk => Nat.le_trans hb hk.2.1)) hb
theorem R_keys {W : World} {q b0 : Nat} (h : W.heap[q]? = some (.cells #[.string kA, .string kB, .string kC] 9 (0, 0))) (hq : b0 ≤ q) {n : Nat} (hn : n ≤ 3) : Kd.string.R 9 W b0 (fun k => b0 ≤ k) (.slice (some ⟨q, 0, none⟩) n 3) (recK n) := by
  have h3 : Kd.string.R 9 W b0 (fun k => b0 ≤ k) (.slice (some ⟨q, 0, none⟩) 3 3) [kA, kB, kC] :=
    Kd.R_of_own ⟨rfl, .inr ⟨q, 3, _, rfl, hq, h, Nat.le_refl _, by decide, rfl, rfl⟩⟩ (fun k hk => by simp [Value.ownBlock] at hk; omega)
  exact Kd.R_take h3 hn
theorem R_ints {V : World} {b0 : Nat} (xs : List Int) (hm : xs.length ≤ 9223372036854775807) (hb : b0 ≤ V.heap.size) : Kd.R (Kd.int .i64) 3 (V.alloc (.cells (nums .i64 xs).toArray 3)) b0 (fun k => b0 ≤ k) (.slice (some ⟨V.heap.size, 0, none⟩) xs.length xs.length) xs :=
  Kd.R_of_own (own_lit V b0 3 .i64 xs hb hm) (fun k hk => by simp [Value.ownBlock] at hk; omega)
theorem rd_in {n : Int} {r : List Int} (h : In n r) (i : Int) (h0 : 0 ≤ i) (h1 : i < r.length) : 0 ≤ rd r i ∧ rd r i < n := by
  refine h _ ?_
  unfold rd
  rw [List.getD_eq_getElem?_getD, List.getElem?_eq_getElem (by omega)]
  exact List.getElem_mem _
theorem hal_ {k : Nat} (h : k ≤ 14) : (k + 1) * 80 ≤ 140737488355328 := Nat.le_trans (Nat.mul_le_mul_right 80 (by omega : k + 1 ≤ 15)) (by decide)
theorem in_two {n a b : Int} (ha : 0 ≤ a ∧ a < n) (hb : 0 ≤ b ∧ b < n) : In n [a, b] := fun y hy => by
  rcases List.mem_cons.1 hy with rfl | hy
  · exact ha
  · rw [List.mem_singleton] at hy
    subst hy
    exact hb
theorem NodeP.eight {dyn : Bool} {n p i : Nat} {x : GN} (h : NodeP dyn n p i x) (h8 : x.f0 = 8) : p ≤ i ∧ In p x.f4 := by
  rcases h with ⟨k, h1, h2, _, rfl⟩ | ⟨s, _, rfl⟩ | ⟨m, y, _, _, _, _, rfl⟩ | ⟨l, _, _, rfl⟩ | ⟨h1, u, _, _, h2, rfl⟩
  · dsimp only at h8; omega
  · exact absurd h8 (by simp)
  · exact absurd h8 (by simp)
  · exact absurd h8 (by simp [recG])
  · exact ⟨h1, h2⟩
theorem NodeP.few {dyn : Bool} {n p i : Nat} {x : GN} (h : NodeP dyn n p i x) (hp : p ≤ 10) : x.f4.length ≤ 10 := by
  rcases h with ⟨k, h1, h2, _, rfl⟩ | ⟨s, _, rfl⟩ | ⟨m, y, _, _, _, _, rfl⟩ | ⟨l, hl, _, rfl⟩ | ⟨h1, u, _, hn, h2, rfl⟩
  · simp
  · simp
  · simp
  · show l.length ≤ 10; omega
  · exact Nat.le_trans (nodup_le hn h2) hp
theorem rdG (g : List GN) (i : Nat) (h : i < g.length) : g[i]? = some (P.rd_T33 g (i : Int)) := by
  unfold P.rd_T33
  rw [Int.toNat_natCast, List.getD_eq_getElem?_getD, List.getElem?_eq_getElem h]
  rfl
def md23.T23 : Bool × List (List Nat × List Nat) := (true, [([], []), ([], []), ([1], [1]), ([2], [2]), ([], []), ([4], [4]), ([3, 5], [3, 5]), ([6], [6]), ([0, 7, 3], [0, 7]), ([8, 8, 0, 1, 2, 3, 4, 5, 6, 7, 8], [0, 8])])
def md23.B23 : List Nat := [0, 0, 2, 6, 0, 16, 62, 126, 255, 511]
theorem md23.tab23 : rtab .any (opsOf Tryd.f4 23) = md23.T23 := by kernel_rfl
theorem md23.bits23 : waitsOk md23.T23.2 md23.B23 = true := by kernel_rfl
def md25.T25 : Bool × List (List Nat × List Nat) := (true, [([], []), ([], []), ([1], [1]), ([2], [2]), ([], []), ([4], [4]), ([5], [5]), ([3, 6], [3, 6]), ([7], [7]), ([8], [8]), ([0, 9, 8], [0, 9]), ([10, 10, 0, 1, 2, 3, 4, 5, 6, 7, 8, 9, 10], [0, 10])])
def md25.B25 : List Nat := [0, 0, 2, 6, 0, 16, 48, 126, 254, 510, 1023, 2047]
theorem md25.tab25 : rtab .any (opsOf Tryd.f4 25) = md25.T25 := by kernel_rfl
theorem md25.bits25 : waitsOk md25.T25.2 md25.B25 = true := by kernel_rfl
set_option maxHeartbeats 8000000 in
set_option maxRecDepth 100000 in
theorem made_yes (A : Option Addr) (c : Nat) (l : List RW) (dyn : Bool) (w : World) (hr : Kd.C kRW w A l.length l) (hc : l.length ≤ c) :
    Calls Tryd.prog 4 #[.slice A l.length c, .bool dyn] w fun e w' => ∃ v g, e = .returned v ∧ Kd.R kGN 33 w' w.heap.size (fun _ => True) v g ∧ Below w.heap.size w w' ∧ g.length = min l.length 14 ∧ GraphP dyn g.length (plainN g.length) g := by
  obtain ⟨n, hn⟩ : ∃ n, n = min l.length 14 := ⟨_, rfl⟩
  have hn14 : n ≤ 14 := by omega
  have hnl : n ≤ l.length := by omega
  have hmn : (if (14 : Int) < (l.length : Int) then 14 else (l.length : Int)) = (n : Int) := by split <;> omega
  obtain ⟨i6, hi6, _, hsz6, _⟩ := info_parts infoR
  have hcut := cut_to (P := Tryd.prog) 22 38 .i64 Tryd.underlying22 hi6 A l.length c (n : Int) (by omega) (by omega) hc
  have hr6 := Kd.C_take (m := n) hr hnl
  obtain ⟨L, hL⟩ : ∃ L, L = l.take n := ⟨_, rfl⟩
  have hLn : L.length = n := by rw [hL, List.length_take]; omega
  rw [← hL] at hr6
  simp only [Int.toNat_natCast] at hcut
  have HR := Aside0.mk hr6
  have HLn := Aside0.mk hLn
  have HNl := Aside0.mk hn
  have hncc : n ≤ c := by omega
  obtain ⟨i7, hi7, _, _, _⟩ := info_parts infoI
  have HII := Aside0.mk hi7
  clear hr hc hL hLn hn hnl hi6 hsz6 hr6 hi7
  go_enter Tryd.func4, Tryd.ntmps4
  go_wp2_with (fail)
  obtain ⟨p, hp⟩ : ∃ p, p = plainN n := ⟨_, rfl⟩
  have hpi : (2 * (n : Int) + 2) / 3 = (p : Int) := by rw [hp]; unfold plainN; omega
  have HP := Aside0.mk hp
  have hpn : n ≤ 1 ∨ p < n + 1 := by rw [hp]; unfold plainN; omega
  have hp0 : 0 < n → 0 < p := by intro h; rw [hp]; unfold plainN; omega
  have hp10 : p ≤ 10 := by rw [hp]; unfold plainN; omega
  rw [hpi]
  clear hp hpi hmn hcut hpn
  have HP0 := Aside0.mk hp0
  clear hp0
  go_loopw [6, 7] (fun v6 v7 wr => ∃ (i : Nat) (g : List GN), i ≤ n ∧ v7 = .int .i64 i ∧ Aside0 (Kd.R kGN 33 wr w.heap.size (fun _ => True) v6 g) ∧ Aside0 (Below w.heap.size w wr) ∧ Aside0 (g.length = i ∧ GraphP dyn n p g)) (fun v6 v7 _ => n + 1 - (intOf v7).toNat)
  case atStart => exact ⟨0, [], by omega, rfl, ⟨Kd.R_nil _ _ _ _ _⟩, ⟨Below.refl _ _⟩, ⟨rfl, fun i x h => by simp at h⟩⟩
  case round =>
    rename World => X
    obtain ⟨i, g, hi, rfl, HRg, HBg, HGP⟩ := hrel
    by_cases hlt : i < n
    · have hCX := Kd.C_below HR.out HBg.out
      obtain ⟨ad, A2, c2, hA, hx0, hx1, hx2, hl2, hC2⟩ := P.at_T38 hCX (i : Int) (by omega) (by have := HLn.out; omega)
      cases hA
      obtain ⟨x, hx⟩ : ∃ x, x = P.rd_T38 L (i : Int) := ⟨_, rfl⟩
      rw [← hx] at hx0 hx1 hx2 hl2 hC2
      rw [Int.toNat_natCast] at hx0 hx1 hx2
      have HC2 := Aside0.mk hC2
      clear hx hC2 hCX
      have hblk := heap_alloc_new X (.cells #[.int .i64 x.f0, .int .i64 x.f1, .slice A2 x.f2.length c2] 38)
      have y0 : (X.alloc (.cells #[.int .i64 x.f0, .int .i64 x.f1, .slice A2 x.f2.length c2] 38)).cell? ⟨X.heap.size, 0, none⟩ = some (.int .i64 x.f0) := (blk_cell hblk 0).trans rfl
      have y1 : (X.alloc (.cells #[.int .i64 x.f0, .int .i64 x.f1, .slice A2 x.f2.length c2] 38)).cell? ⟨X.heap.size, 1, none⟩ = some (.int .i64 x.f1) := (blk_cell hblk 1).trans rfl
      have y2 : (X.alloc (.cells #[.int .i64 x.f0, .int .i64 x.f1, .slice A2 x.f2.length c2] 38)).cell? ⟨X.heap.size, 2, none⟩ = some (.slice A2 x.f2.length c2) := (blk_cell hblk 2).trans rfl
      clear hblk
      go_wp2_with (fail)
      obtain ⟨qb, hqb⟩ : ∃ b, b = X.heap.size := ⟨_, rfl⟩
      obtain ⟨b0, hb0⟩ : ∃ b, b = X.heap.size := ⟨_, rfl⟩
      have hw : wrap64 ((i : Int) + 1) = ((i + 1 : Nat) : Int) := by unfold wrap64; omega
      have HAL := Aside0.mk (hal_ (k := g.length) (by rw [HGP.out.1]; exact Nat.le_trans (Nat.le_of_lt hlt) hn14))
      have HLt := Aside0.mk (show ∀ k, u6.ownBlock = some k → k < b0 by rw [hb0]; exact Kd.R_lt HRg.out)
      have HBb := Aside0.mk (show w.heap.size ≤ b0 by rw [hb0]; exact HBg.out.size)
      have hblX := below_alloc (Below.refl X.heap.size X) (.cells #[.int .i64 x.f0, .int .i64 x.f1, .slice A2 x.f2.length c2] 38)
      have HRX := Aside0.mk (Kd.R_below HRg.out hblX)
      have HBX := Aside0.mk (HBg.out.trans (hblX.mono HBg.out.size))
      have HC2X := Aside0.mk (Kd.C_below HC2.out hblX)
      have HXb := Aside0.mk (show b0 ≤ (X.alloc (.cells #[.int .i64 x.f0, .int .i64 x.f1, .slice A2 x.f2.length c2] 38)).heap.size by rw [hb0]; exact hblX.size)
      rw [← hqb] at y0 y1 y2 ⊢
      clear hqb hb0 hblX HRg HBg HC2
      generalize X.alloc (.cells #[.int .i64 x.f0, .int .i64 x.f1, .slice A2 x.f2.length c2] 38) = X1 at y0 y1 y2 HRX HBX HC2X HXb ⊢
      refine (some_yes A2 c2 x.f2 n X1 HC2X.out hl2 (by omega) (by omega)).mono ?_
      rintro e Y ⟨v, r, rfl, ho, hb, hr2, hr4, hin⟩
      have HOY := Aside0.mk (R_up ho HXb.out)
      have HIn := Aside0.mk hin
      have y0 := pw_cell_below hb y0
      have y1 := pw_cell_below hb y1
      have y2 := pw_cell_below hb y2
      have HRY := Aside0.mk (Kd.R_below HRX.out hb)
      have HBY := Aside0.mk (HBX.out.trans (hb.mono HBX.out.size))
      have HC2Y := Aside0.mk (Kd.C_below HC2X.out hb)
      have HYb := Aside0.mk (Nat.le_trans HXb.out hb.size)
      obtain ⟨g9, c9, rfl, hg9b, hg9l, _⟩ := Kd.R_form HOY.out (by omega)
      have hl9c : r.length ≤ c9 := (Kd.R_reads' HOY.out).2.1
      clear ho hb hin hg9b hg9l HRX HBX HC2X HXb
      by_cases hip : p ≤ i
      · have hp0 := HP0.out (by omega)
        go_wp2_with (fail)
        refine (some_yes A2 c2 x.f2 p Y HC2Y.out hl2 (by omega) (by omega)).mono ?_
        rintro e Y2 ⟨v2, r2, rfl, ho2, hb2, hs2, hs4, hin2⟩
        obtain ⟨B2, d2, rfl, hd2, hrd2⟩ := Kd.R_reads ho2
        have HD2 := Aside0.mk hrd2
        have HIn2 := Aside0.mk hin2
        replace y0 := pw_cell_below hb2 y0
        replace y1 := pw_cell_below hb2 y1
        replace y2 := pw_cell_below hb2 y2
        replace HRY := Aside0.mk (Kd.R_below HRY.out hb2)
        replace HBY := Aside0.mk (HBY.out.trans (hb2.mono HBY.out.size))
        replace HOY := Aside0.mk (Kd.R_below HOY.out hb2)
        replace HYb := Aside0.mk (Nat.le_trans HYb.out hb2.size)
        clear ho2 hb2 hrd2 hin2 HC2Y
        go_wp2_with (fail)
        refine (once_yes B2 d2 r2 Y2 HD2.out hd2 (by omega)).mono ?_
        rintro e Y3 ⟨v3, u, rfl, ho3, hb3, hon⟩
        have HU := Aside0.mk (R_up ho3 HYb.out)
        have HOn := Aside0.mk hon
        obtain ⟨B3, d3, rfl⟩ := Kd.R_slice ho3
        replace y0 := pw_cell_below hb3 y0
        replace y1 := pw_cell_below hb3 y1
        replace y2 := pw_cell_below hb3 y2
        replace HRY := Aside0.mk (Kd.R_below HRY.out hb3)
        replace HBY := Aside0.mk (HBY.out.trans (hb3.mono HBY.out.size))
        replace HOY := Aside0.mk (Kd.R_below HOY.out hb3)
        replace HYb := Aside0.mk (Nat.le_trans HYb.out hb3.size)
        clear ho3 hb3 hon HD2
        by_cases hu : 2 ≤ u.length
        · skip
          go_wp2_with (first | ((with_reducible refine gate_builtin (b := .append) (xs := #[.tmp 50, .tmp 53]) rfl ?_); at_builtin; refine Kd.R_append kGN (w0 := w) w.heap.size rfl (.tmp 50) (.tmp 53) 23 33 (.agg #[.int .i64 0, .int .i64 0, .string ⟨#[]⟩, .slice none 0 0, .slice none 0 0]) 80 rfl Tryd.underlying23 infoG rfl (by decide) (by omega) u6 g (⟨8, 0, emp, [], u⟩) [.int .i64 8, .int .i64 0, .string ⟨#[]⟩, (.slice none 0 0), .slice B3 u.length d3] (fun _ => True) (fun k => b0 ≤ k) rfl rfl (P.k33_mkM _ _ _ _ (Kd.R_nil _ _ _ _ _) (Kd.R_lower HU.out HBb.out)) (fun k hk => ⟨trivial, fun e => by have := HLt.out k e.symm; omega⟩) (fun _ _ => trivial) HRY.out HBY.out HBY.out.size HAL.out ?_; intro v9 W9 ho hb hg9 hat9))
          have HO9 := Aside0.mk ho
          have HB9 := Aside0.mk hb
          have HGn := Aside0.mk (show (g ++ [(⟨8, 0, emp, [], u⟩ : GN)]).length = i + 1 ∧ GraphP dyn n p (g ++ [(⟨8, 0, emp, [], u⟩ : GN)]) from ⟨by rw [List.length_append, HGP.out.1]; rfl, HGP.out.2.snoc (.inr (.inr (.inr (.inr ⟨by rw [HGP.out.1]; exact hip, u, hu, HOn.out.1, fun y hy => HIn2.out y (HOn.out.2.1 y hy), rfl⟩))))⟩)
          clear ho hb hg9 hat9
          go_wp2_with (fail)
          go_roundw
          case rel => exact ⟨i + 1, _, by omega, by first | (rw [hw]; done) | (rw [Int.natCast_add]; rfl), HO9, HB9, HGn⟩
          case measure => first | (rw [hw]; simp only [intOf]; omega) | (simp only [intOf]; omega)
        · skip
          go_wp2_with (fail)
          refine (bring_yes x.f0 7 _ (by decide) (by decide)).mono ?_
          rintro e Z ⟨t, rfl, hd, ht0, ht1⟩
          have hbz := hd.below
          clear hd
          replace y0 := pw_cell_below hbz y0
          replace y1 := pw_cell_below hbz y1
          replace y2 := pw_cell_below hbz y2
          replace HRY := Aside0.mk (Kd.R_below HRY.out hbz)
          replace HBY := Aside0.mk (HBY.out.trans (hbz.mono HBY.out.size))
          replace HOY := Aside0.mk (Kd.R_below HOY.out hbz)
          replace HYb := Aside0.mk (Nat.le_trans HYb.out hbz.size)
          clear hbz
          have ht7 : t = 0 ∨ t = 1 ∨ t = 2 ∨ t = 3 ∨ t = 4 ∨ t = 5 ∨ t = 6 := by omega
          clear ht0 ht1
          rcases ht7 with rfl | rfl | rfl | rfl | rfl | rfl | rfl
          · skip
            go_wp2_with (fail)
            refine (bring_yes x.f1 4 _ (by decide) (by decide)).mono ?_
            rintro e Z ⟨m, rfl, hd, hm0, hm1⟩
            have hbz := hd.below
            clear hd
            replace y0 := pw_cell_below hbz y0
            replace y1 := pw_cell_below hbz y1
            replace y2 := pw_cell_below hbz y2
            replace HRY := Aside0.mk (Kd.R_below HRY.out hbz)
            replace HBY := Aside0.mk (HBY.out.trans (hbz.mono HBY.out.size))
            replace HOY := Aside0.mk (Kd.R_below HOY.out hbz)
            replace HYb := Aside0.mk (Nat.le_trans HYb.out hbz.size)
            clear hbz
            by_cases hm : m = 0
            · subst hm
              cases dyn with
              | true =>
                go_wp2_with (first | ((with_reducible refine gate_builtin (b := .append) (xs := #[.tmp 78, .tmp 81]) rfl ?_); at_builtin; refine Kd.R_append kGN (w0 := w) w.heap.size rfl (.tmp 78) (.tmp 81) 23 33 (.agg #[.int .i64 0, .int .i64 0, .string ⟨#[]⟩, .slice none 0 0, .slice none 0 0]) 80 rfl Tryd.underlying23 infoG rfl (by decide) (by omega) u6 g (⟨1, 0, emp, [], []⟩) [.int .i64 1, .int .i64 0, .string ⟨#[]⟩, (.slice none 0 0), (.slice none 0 0)] (fun _ => True) (fun k => b0 ≤ k) rfl rfl (P.k33_mkM _ _ _ _ (Kd.R_nil _ _ _ _ _) (Kd.R_nil _ _ _ _ _)) (fun k hk => ⟨trivial, fun e => by have := HLt.out k e.symm; omega⟩) (fun _ _ => trivial) HRY.out HBY.out HBY.out.size HAL.out ?_; intro v9 W9 ho hb hg9 hat9))
                have HO9 := Aside0.mk ho
                have HB9 := Aside0.mk hb
                have HGn := Aside0.mk (show (g ++ [(⟨1, 0, emp, [], []⟩ : GN)]).length = i + 1 ∧ GraphP true n p (g ++ [(⟨1, 0, emp, [], []⟩ : GN)]) from ⟨by rw [List.length_append, HGP.out.1]; rfl, HGP.out.2.snoc (.inl ⟨1, by decide, by decide, by decide, rfl⟩)⟩)
                clear ho hb hg9 hat9
                go_wp2_with (fail)
                go_roundw
                case rel => exact ⟨i + 1, _, by omega, by first | (rw [hw]; done) | (rw [Int.natCast_add]; rfl), HO9, HB9, HGn⟩
                case measure => first | (rw [hw]; simp only [intOf]; omega) | (simp only [intOf]; omega)
              | false =>
                go_wp2_with (first | ((with_reducible refine gate_builtin (b := .append) (xs := #[.tmp 78, .tmp 81]) rfl ?_); at_builtin; refine Kd.R_append kGN (w0 := w) w.heap.size rfl (.tmp 78) (.tmp 81) 23 33 (.agg #[.int .i64 0, .int .i64 0, .string ⟨#[]⟩, .slice none 0 0, .slice none 0 0]) 80 rfl Tryd.underlying23 infoG rfl (by decide) (by omega) u6 g (⟨4, 0, emp, [], []⟩) [.int .i64 4, .int .i64 0, .string ⟨#[]⟩, (.slice none 0 0), (.slice none 0 0)] (fun _ => True) (fun k => b0 ≤ k) rfl rfl (P.k33_mkM _ _ _ _ (Kd.R_nil _ _ _ _ _) (Kd.R_nil _ _ _ _ _)) (fun k hk => ⟨trivial, fun e => by have := HLt.out k e.symm; omega⟩) (fun _ _ => trivial) HRY.out HBY.out HBY.out.size HAL.out ?_; intro v9 W9 ho hb hg9 hat9))
                have HO9 := Aside0.mk ho
                have HB9 := Aside0.mk hb
                have HGn := Aside0.mk (show (g ++ [(⟨4, 0, emp, [], []⟩ : GN)]).length = i + 1 ∧ GraphP false n p (g ++ [(⟨4, 0, emp, [], []⟩ : GN)]) from ⟨by rw [List.length_append, HGP.out.1]; rfl, HGP.out.2.snoc (.inl ⟨4, by decide, by decide, by decide, rfl⟩)⟩)
                clear ho hb hg9 hat9
                go_wp2_with (fail)
                go_roundw
                case rel => exact ⟨i + 1, _, by omega, by first | (rw [hw]; done) | (rw [Int.natCast_add]; rfl), HO9, HB9, HGn⟩
                case measure => first | (rw [hw]; simp only [intOf]; omega) | (simp only [intOf]; omega)
            · skip
              have hk1 : (1 + m == 1) = false := by simp; omega
              have hk2 : decide (1 + m = 1) = false := by simp; omega
              go_wp2_with (first | ((with_reducible refine gate_builtin (b := .append) (xs := #[.tmp 78, .tmp 81]) rfl ?_); at_builtin; refine Kd.R_append kGN (w0 := w) w.heap.size rfl (.tmp 78) (.tmp 81) 23 33 (.agg #[.int .i64 0, .int .i64 0, .string ⟨#[]⟩, .slice none 0 0, .slice none 0 0]) 80 rfl Tryd.underlying23 infoG rfl (by decide) (by omega) u6 g (⟨1 + m, 0, emp, [], []⟩) [.int .i64 (1 + m), .int .i64 0, .string ⟨#[]⟩, (.slice none 0 0), (.slice none 0 0)] (fun _ => True) (fun k => b0 ≤ k) rfl rfl (P.k33_mkM _ _ _ _ (Kd.R_nil _ _ _ _ _) (Kd.R_nil _ _ _ _ _)) (fun k hk => ⟨trivial, fun e => by have := HLt.out k e.symm; omega⟩) (fun _ _ => trivial) HRY.out HBY.out HBY.out.size HAL.out ?_; intro v9 W9 ho hb hg9 hat9))
              have HO9 := Aside0.mk ho
              have HB9 := Aside0.mk hb
              have HGn := Aside0.mk (show (g ++ [(⟨1 + m, 0, emp, [], []⟩ : GN)]).length = i + 1 ∧ GraphP dyn n p (g ++ [(⟨1 + m, 0, emp, [], []⟩ : GN)]) from ⟨by rw [List.length_append, HGP.out.1]; rfl, HGP.out.2.snoc (.inl ⟨1 + m, by omega, by omega, fun e => by omega, rfl⟩)⟩)
              clear ho hb hg9 hat9
              go_wp2_with (fail)
              go_roundw
              case rel => exact ⟨i + 1, _, by omega, by first | (rw [hw]; done) | (rw [Int.natCast_add]; rfl), HO9, HB9, HGn⟩
              case measure => first | (rw [hw]; simp only [intOf]; omega) | (simp only [intOf]; omega)
          · skip
            have hbl := below_alloc (Below.refl Z.heap.size Z) (.cells #[.string kA, .string kB] 9)
            have hblk := heap_alloc_new Z (.cells #[.string kA, .string kB] 9)
            have s0 : (Z.alloc (.cells #[.string kA, .string kB] 9)).cell? ⟨Z.heap.size, 0, none⟩ = some (.string kA) := (blk_cell hblk 0).trans rfl
            have s1 : (Z.alloc (.cells #[.string kA, .string kB] 9)).cell? ⟨Z.heap.size, 1, none⟩ = some (.string kB) := (blk_cell hblk 1).trans rfl
            clear hblk
            replace y0 := pw_cell_below hbl y0
            replace y1 := pw_cell_below hbl y1
            replace y2 := pw_cell_below hbl y2
            replace HRY := Aside0.mk (Kd.R_below HRY.out hbl)
            replace HBY := Aside0.mk (HBY.out.trans (hbl.mono HBY.out.size))
            replace HOY := Aside0.mk (Kd.R_below HOY.out hbl)
            replace HYb := Aside0.mk (Nat.le_trans HYb.out hbl.size)
            clear hbl
            obtain ⟨zb, hzb⟩ : ∃ zb, zb = Z.heap.size := ⟨_, rfl⟩
            rw [← hzb] at s0 s1
            have s0' := s0
            have s1' := s1
            clear s0 s1
            have HZb := Aside0.mk hzb
            clear hzb
            unfold kA kB at y0 y1 y2 HRY HBY HOY HYb s0' s1'
            go_wp2_with (fail)
            rw [← HZb.out]
            generalize Z.alloc (.cells #[.string ⟨#[97]⟩, .string ⟨#[98]⟩] 9) = Z2 at y0 y1 y2 HRY HBY HOY HYb s0' s1' ⊢
            refine (bring_yes x.f1 2 _ (by decide) (by decide)).mono ?_
            rintro e Z3 ⟨m, rfl, hd, hm0, hm1⟩
            have hbz := hd.below
            clear hd
            replace y0 := pw_cell_below hbz y0
            replace y1 := pw_cell_below hbz y1
            replace y2 := pw_cell_below hbz y2
            replace HRY := Aside0.mk (Kd.R_below HRY.out hbz)
            replace HBY := Aside0.mk (HBY.out.trans (hbz.mono HBY.out.size))
            replace HOY := Aside0.mk (Kd.R_below HOY.out hbz)
            replace HYb := Aside0.mk (Nat.le_trans HYb.out hbz.size)
            have s0 := pw_cell_below hbz s0'
            have s1 := pw_cell_below hbz s1'
            clear hbz s0' s1'
            have hm2 : m = 0 ∨ m = 1 := by omega
            clear hm0 hm1
            rcases hm2 with rfl | rfl
            · skip
              go_wp2_with (first | ((with_reducible refine gate_builtin (b := .append) (xs := #[.tmp 85, .tmp 93]) rfl ?_); at_builtin; refine Kd.R_append kGN (w0 := w) w.heap.size rfl (.tmp 85) (.tmp 93) 23 33 (.agg #[.int .i64 0, .int .i64 0, .string ⟨#[]⟩, .slice none 0 0, .slice none 0 0]) 80 rfl Tryd.underlying23 infoG rfl (by decide) (by omega) u6 g (⟨5, 0, kA, [], []⟩) [.int .i64 5, .int .i64 0, .string ⟨#[97]⟩, (.slice none 0 0), (.slice none 0 0)] (fun _ => True) (fun k => b0 ≤ k) rfl rfl (P.k33_mkM _ _ _ _ (Kd.R_nil _ _ _ _ _) (Kd.R_nil _ _ _ _ _)) (fun k hk => ⟨trivial, fun e => by have := HLt.out k e.symm; omega⟩) (fun _ _ => trivial) HRY.out HBY.out HBY.out.size HAL.out ?_; intro v9 W9 ho hb hg9 hat9))
              have HO9 := Aside0.mk ho
              have HB9 := Aside0.mk hb
              have HGn := Aside0.mk (show (g ++ [(⟨5, 0, kA, [], []⟩ : GN)]).length = i + 1 ∧ GraphP dyn n p (g ++ [(⟨5, 0, kA, [], []⟩ : GN)]) from ⟨by rw [List.length_append, HGP.out.1]; rfl, HGP.out.2.snoc (.inr (.inl ⟨kA, .inl rfl, rfl⟩))⟩)
              clear ho hb hg9 hat9
              go_wp2_with (fail)
              go_roundw
              case rel => exact ⟨i + 1, _, by omega, by first | (rw [hw]; done) | (rw [Int.natCast_add]; rfl), HO9, HB9, HGn⟩
              case measure => first | (rw [hw]; simp only [intOf]; omega) | (simp only [intOf]; omega)
            · skip
              go_wp2_with (first | ((with_reducible refine gate_builtin (b := .append) (xs := #[.tmp 85, .tmp 93]) rfl ?_); at_builtin; refine Kd.R_append kGN (w0 := w) w.heap.size rfl (.tmp 85) (.tmp 93) 23 33 (.agg #[.int .i64 0, .int .i64 0, .string ⟨#[]⟩, .slice none 0 0, .slice none 0 0]) 80 rfl Tryd.underlying23 infoG rfl (by decide) (by omega) u6 g (⟨5, 0, kB, [], []⟩) [.int .i64 5, .int .i64 0, .string ⟨#[98]⟩, (.slice none 0 0), (.slice none 0 0)] (fun _ => True) (fun k => b0 ≤ k) rfl rfl (P.k33_mkM _ _ _ _ (Kd.R_nil _ _ _ _ _) (Kd.R_nil _ _ _ _ _)) (fun k hk => ⟨trivial, fun e => by have := HLt.out k e.symm; omega⟩) (fun _ _ => trivial) HRY.out HBY.out HBY.out.size HAL.out ?_; intro v9 W9 ho hb hg9 hat9))
              have HO9 := Aside0.mk ho
              have HB9 := Aside0.mk hb
              have HGn := Aside0.mk (show (g ++ [(⟨5, 0, kB, [], []⟩ : GN)]).length = i + 1 ∧ GraphP dyn n p (g ++ [(⟨5, 0, kB, [], []⟩ : GN)]) from ⟨by rw [List.length_append, HGP.out.1]; rfl, HGP.out.2.snoc (.inr (.inl ⟨kB, .inr rfl, rfl⟩))⟩)
              clear ho hb hg9 hat9
              go_wp2_with (fail)
              go_roundw
              case rel => exact ⟨i + 1, _, by omega, by first | (rw [hw]; done) | (rw [Int.natCast_add]; rfl), HO9, HB9, HGn⟩
              case measure => first | (rw [hw]; simp only [intOf]; omega) | (simp only [intOf]; omega)
          · skip
            have hcut1 := cut_to (P := Tryd.prog) 31 3 .i64 Tryd.underlying31 HII.out (some ⟨g9, 0, none⟩) r.length c9 1 (by decide) (by omega) hl9c
            simp only [Int.reduceToNat] at hcut1
            have y1d := pw_cell_below (below_drew (Below.refl Z.heap.size Z)) y1
            replace HRY := Aside0.mk (Kd.R_drew HRY.out)
            replace HBY := Aside0.mk (below_drew HBY.out)
            replace HOY := Aside0.mk (Kd.R_drew HOY.out)
            replace HYb : Aside0 (b0 ≤ Z.drew.heap.size) := ⟨HYb.out⟩
            go_wp2_with (fail)
            refine start_ (n := 10) (S := fun w' => w'.cell? ⟨qb, 1, none⟩ = some (.int .i64 x.f1)) (ds := [8]) #[φ,φ,φ,φ,φ,φ,φ,φ,φ,φ] (by kernel_rfl) rfl rfl (y1d) (fun hHeld => ?_)
            refine with_tabW md23.tab23 md23.bits23 (fun HT_ HW_ => ?_)
            refine pure_ (i := 0) (N := some 97) (v := ?_) (a' := ?_) #[τ,φ,φ,φ,φ,φ,φ,φ,φ,φ] rfl rfl (any_of HT_.out (by kernel_rfl)) (fun _ _ _ h => h) (Or.inl ⟨by rfl, ?_⟩) ?_ ?_
            rotate_left; (intro w'; go_simp; with_reducible rfl); rotate_left; (simp only [Act.put, zz1, zz2, zz3, i64_w, i32_w]; rfl)
            refine pure_ (i := 1) (N := some 98) (v := ?_) (a' := ?_) #[τ,τ,φ,φ,φ,φ,φ,φ,φ,φ] rfl rfl (any_of HT_.out (by kernel_rfl)) (fun _ _ _ h => h) (Or.inl ⟨by rfl, ?_⟩) ?_ ?_
            rotate_left; (intro w'; go_simp; with_reducible rfl); rotate_left; (simp only [Act.put, zz1, zz2, zz3, i64_w, i32_w]; rfl)
            refine pure_ (i := 4) (N := some 101) (v := ?_) (a' := ?_) #[τ,τ,φ,φ,τ,φ,φ,φ,φ,φ] rfl rfl (any_of HT_.out (by kernel_rfl)) (fun _ _ _ h => h) (Or.inl ⟨by rfl, ?_⟩) ?_ ?_
            rotate_left; (intro w'; go_simp; with_reducible rfl); rotate_left; (simp only [Act.put, zz1, zz2, zz3, i64_w, i32_w]; rfl)
            refine pure_ (i := 5) (N := some 102) (v := ?_) (a' := ?_) #[τ,τ,φ,φ,τ,τ,φ,φ,φ,φ] rfl rfl (any_of HT_.out (by kernel_rfl)) (fun _ _ _ h => h) (Or.inl ⟨by rfl, ?_⟩) ?_ ?_
            rotate_left; (intro w'; go_simp; with_reducible rfl); rotate_left; (simp only [Act.put, zz1, zz2, zz3, i64_w, i32_w]; rfl)
            refine take_ (i := 2) (N := some 99) (v := ?_) (a' := ?_) #[τ,τ,τ,φ,τ,τ,φ,φ,φ,φ] rfl rfl (take_ofW HT_.out HW_.out (by kernel_rfl)) (fun _ _ _ h => h) (Or.inl ⟨by rfl, ?_⟩) hHeld ?_ ?_
            rotate_left; (intro w' s0; go_simp; with_reducible rfl); rotate_left; (simp only [Act.put, zz1, zz2, zz3, i64_w, i32_w]; rfl)
            refine one_ (i := 3) (N := some 100) #[τ,τ,τ,τ,τ,τ,φ,φ,φ,φ] rfl rfl (one_of HT_.out (by kernel_rfl)) (by decide) (fun K hK => ?_)
            refine goes_ Tryd.func10 (by kernel_rfl) rfl #[.int .i64 x.f1, .int .i64 2] (by rfl) rfl rfl (by simp only [List.map_toArray, List.map_cons, List.map_nil]; rfl) ?_
            with_reducible refine (bring_yes x.f1 2 _ (by decide) (by decide)).mono ?_
            rintro e Z3 ⟨m, rfl, hd, hm0, hm1⟩
            refine ⟨_, rfl, ?_⟩
            have hbz := hd.below
            have HM0 := Aside0.mk (And.intro hm0 hm1)
            replace HRY := Aside0.mk (Kd.R_below HRY.out hbz)
            replace HBY := Aside0.mk (HBY.out.trans (hbz.mono HBY.out.size))
            replace HOY := Aside0.mk (Kd.R_below HOY.out hbz)
            have y1e := pw_cell_below hbz y1d
            clear hd hm0 hm1 hbz
            refine hK.out _ _ (y1e) (fun hHeld => ?_)
            clear hK K
            refine norm_ (a' := ?_) ?_ ?_
            rotate_left
            · show Act.put _ (some 100) _ = _
              simp only [Act.put, zz1, zz2, zz3, i64_w, i32_w]
              rfl
            refine pure_ (i := 6) (N := some 103) (v := ?_) (a' := ?_) #[τ,τ,τ,τ,τ,τ,τ,φ,φ,φ] rfl rfl (any_of HT_.out (by kernel_rfl)) (fun _ _ _ h => h) (Or.inl ⟨by rfl, ?_⟩) ?_ ?_
            rotate_left; (intro w'; go_simp; with_reducible rfl); rotate_left; (simp only [Act.put, zz1, zz2, zz3, i64_w, i32_w]; rfl)
            refine one_ (i := 7) (N := some 104) #[τ,τ,τ,τ,τ,τ,τ,τ,φ,φ] rfl rfl (one_of HT_.out (by kernel_rfl)) (by decide) (fun K hK => ?_)
            refine value_ (w1 := ?_) (v := ?_) (by rfl) rfl ?_ ?_
            rotate_left 2
            · go_simp
              constructor
              · rfl
              · rfl
            have y1f := pw_cell_below (below_alloc (Below.refl Z3.heap.size Z3) (.cells #[.int .i64 9, .int .i64 m, .string ⟨#[]⟩, .slice none 0 0, .slice (some ⟨g9, 0, none⟩) 1 c9] 33)) y1e
            refine hK.out _ _ (y1f) (fun hHeld => ?_)
            clear hK K
            refine norm_ (a' := ?_) ?_ ?_
            rotate_left
            · show Act.put _ (some 104) _ = _
              simp only [Act.put, zz1, zz2, zz3, i64_w, i32_w]
              rfl
            refine last_ (i := 8) (N := some 105) #[τ,τ,τ,τ,τ,τ,τ,τ,τ,φ] rfl rfl (one_of HT_.out (by kernel_rfl)) (by decide) (fun K hK => ?_)
            refine Kd.R_append_step kGN (w0 := w) w.heap.size (by rfl) (.tmp 97) (.tmp 104) 23 33 (.agg #[.int .i64 0, .int .i64 0, .string ⟨#[]⟩, .slice none 0 0, .slice none 0 0]) 80 rfl Tryd.underlying23 infoG rfl (by decide) (by omega) u6 g (⟨9, m, emp, [], r.take 1⟩) [.int .i64 9, .int .i64 m, .string ⟨#[]⟩, (.slice none 0 0), .slice (some ⟨g9, 0, none⟩) 1 c9] (fun _ => True) (fun k => b0 ≤ k) rfl rfl (P.k33_mkM _ _ _ _ (Kd.R_nil _ _ _ _ _) (Kd.R_lower (Kd.R_take (m := 1) HOY.out (by omega)) HBb.out)) (fun k hk => ⟨trivial, fun e => by have := HLt.out k e.symm; omega⟩) (fun _ _ => trivial) HRY.out HBY.out HBY.out.size HAL.out ?_
            intro v9 W9 ho hb hg9 hat9
            have hx8 := trivial
            refine hK.out _ _ ?_
            clear hK K
            refine norm_ (a' := ?_) ?_ ?_
            rotate_left
            · show Act.put _ (some 105) _ = _
              simp only [Act.put, zz1, zz2, zz3, i64_w, i32_w]
              rfl
            refine pure_ (i := 9) (N := some 6) (v := ?_) (a' := ?_) #[τ,τ,τ,τ,τ,τ,τ,τ,τ,τ] rfl rfl (any_of HT_.out (by kernel_rfl)) (fun _ _ _ h => h) (Or.inl ⟨by rfl, ?_⟩) ?_ ?_
            rotate_left; (intro w'; go_simp; with_reducible rfl); rotate_left; (simp only [Act.put, zz1, zz2, zz3, i64_w, i32_w]; rfl)
            refine done_ (done_of HT_.out (by kernel_rfl)) ?_
            have hl1 : (r.take 1) = [rd r 0] := by
              unfold rd
              rcases r with _ | ⟨a, r⟩
              · simp at hr2
              · rfl
            have HO9 := Aside0.mk ho
            have HB9 := Aside0.mk hb
            have HGn := Aside0.mk (show (g ++ [(⟨9, m, emp, [], r.take 1⟩ : GN)]).length = i + 1 ∧ GraphP dyn n p (g ++ [(⟨9, m, emp, [], r.take 1⟩ : GN)]) from ⟨by rw [List.length_append, HGP.out.1]; rfl, HGP.out.2.snoc (.inr (.inr (.inl ⟨m, rd r 0, HM0.out.1, HM0.out.2, (rd_in HIn.out 0 (by decide) (by omega)).1, (rd_in HIn.out 0 (by decide) (by omega)).2, by rw [hl1]⟩)))⟩)
            clear ho hb hg9 hat9
            go_wp2_with (fail)
            go_roundw
            case rel => exact ⟨i + 1, _, by omega, by first | (rw [hw]; done) | (rw [Int.natCast_add]; rfl), HO9, HB9, HGn⟩
            case measure => first | (rw [hw]; simp only [intOf]; omega) | (simp only [intOf]; omega)
          · skip
            have x0 := pw_cell_below (below_drew (Below.refl Z.heap.size Z)) (Kd.R_celln 0 HOY.out (0 : Int) (by decide) (by omega)).1
            have x1 := pw_cell_below (below_drew (Below.refl Z.heap.size Z)) (Kd.R_celln 0 HOY.out (1 : Int) (by decide) (by omega)).1
            simp only [Int.toNat_zero, Int.reduceToNat] at x0 x1
            replace HRY := Aside0.mk (Kd.R_drew HRY.out)
            replace HBY := Aside0.mk (below_drew HBY.out)
            replace HYb : Aside0 (b0 ≤ Z.drew.heap.size) := ⟨HYb.out⟩
            have e0 := rd_in HIn.out 0 (by decide) (by omega)
            have e1 := rd_in HIn.out 1 (by decide) (by omega)
            have HE := Aside0.mk (And.intro e0 e1)
            clear e0 e1
            obtain ⟨a0, ha0⟩ : ∃ a, a = rd r 0 := ⟨_, rfl⟩
            obtain ⟨a1, ha1⟩ : ∃ a, a = rd r 1 := ⟨_, rfl⟩
            have x0' : Z.drew.cell? ⟨g9, 0, none⟩ = some (.int .i64 a0) := by rw [ha0]; exact x0
            have x1' : Z.drew.cell? ⟨g9, 1, none⟩ = some (.int .i64 a1) := by rw [ha1]; exact x1
            rw [← ha0, ← ha1] at HE
            clear x0 x1 ha0 ha1
            go_wp2_with (fail)
            have hq0 : (0 < r.length) = True := eq_true (by omega)
            have hq1 : ((1 : Int) < (r.length : Int)) = True := eq_true (by omega)
            refine start_ (n := 12) (S := fun w' => w'.cell? ⟨g9, 0, none⟩ = some (.int .i64 a0) ∧ w'.cell? ⟨g9, 1, none⟩ = some (.int .i64 a1)) (ds := [10]) #[φ,φ,φ,φ,φ,φ,φ,φ,φ,φ,φ,φ] (by kernel_rfl) rfl rfl ⟨x0', x1'⟩ (fun hHeld => ?_)
            refine with_tabW md25.tab25 md25.bits25 (fun HT_ HW_ => ?_)
            refine pure_ (i := 0) (N := some 108) (v := ?_) (a' := ?_) #[τ,φ,φ,φ,φ,φ,φ,φ,φ,φ,φ,φ] rfl rfl (any_of HT_.out (by kernel_rfl)) (fun _ _ _ h => h) (Or.inl ⟨by rfl, ?_⟩) ?_ ?_
            rotate_left; (intro w'; go_simp; with_reducible rfl); rotate_left; (simp only [Act.put, zz1, zz2, zz3, i64_w, i32_w]; rfl)
            refine pure_ (i := 1) (N := some 109) (v := ?_) (a' := ?_) #[τ,τ,φ,φ,φ,φ,φ,φ,φ,φ,φ,φ] rfl rfl (any_of HT_.out (by kernel_rfl)) (fun _ _ _ h => h) (Or.inl ⟨by rfl, ?_⟩) ?_ ?_
            rotate_left; (intro w'; go_simp; with_reducible rfl); rotate_left; (simp only [Act.put, zz1, zz2, zz3, i64_w, i32_w]; rfl)
            refine pure_ (i := 2) (N := some 110) (v := ?_) (a' := ?_) #[τ,τ,τ,φ,φ,φ,φ,φ,φ,φ,φ,φ] rfl rfl (any_of HT_.out (by kernel_rfl)) (fun _ _ _ h => h) (Or.inl ⟨by rfl, ?_⟩) ?_ ?_
            rotate_left; (intro w'; go_simp; with_reducible rfl); rotate_left; (simp only [Act.put, zz1, zz2, zz3, i64_w, i32_w]; rfl)
            refine pure_ (i := 4) (N := some 112) (v := ?_) (a' := ?_) #[τ,τ,τ,φ,τ,φ,φ,φ,φ,φ,φ,φ] rfl rfl (any_of HT_.out (by kernel_rfl)) (fun _ _ _ h => h) (Or.inl ⟨by rfl, ?_⟩) ?_ ?_
            rotate_left; (intro w'; go_simp; with_reducible rfl); rotate_left; (simp only [Act.put, zz1, zz2, zz3, i64_w, i32_w]; rfl)
            refine pure_ (i := 5) (N := some 113) (v := ?_) (a' := ?_) #[τ,τ,τ,φ,τ,τ,φ,φ,φ,φ,φ,φ] rfl rfl (any_of HT_.out (by kernel_rfl)) (fun _ _ _ h => h) (Or.inl ⟨by rfl, ?_⟩) ?_ ?_
            rotate_left; (intro w'; go_simp; with_reducible rfl); rotate_left; (simp only [Act.put, zz1, zz2, zz3, i64_w, i32_w]; rfl)
            refine take_ (i := 3) (N := some 111) (v := ?_) (a' := ?_) #[τ,τ,τ,τ,τ,τ,φ,φ,φ,φ,φ,φ] rfl rfl (take_ofW HT_.out HW_.out (by kernel_rfl)) (fun _ _ _ h => h) (Or.inl ⟨by rfl, ?_⟩) hHeld ?_ ?_
            rotate_left; (rintro w' ⟨s0, s1⟩; go_simp; with_reducible rfl); rotate_left; (simp only [Act.put, zz1, zz2, zz3, i64_w, i32_w]; rfl)
            refine take_ (i := 6) (N := some 114) (v := ?_) (a' := ?_) #[τ,τ,τ,τ,τ,τ,τ,φ,φ,φ,φ,φ] rfl rfl (take_ofW HT_.out HW_.out (by kernel_rfl)) (fun _ _ _ h => h) (Or.inl ⟨by rfl, ?_⟩) hHeld ?_ ?_
            rotate_left; (rintro w' ⟨s0, s1⟩; go_simp; with_reducible rfl); rotate_left; (simp only [Act.put, zz1, zz2, zz3, i64_w, i32_w]; rfl)
            refine one_ (i := 7) (N := some 115) #[τ,τ,τ,τ,τ,τ,τ,τ,φ,φ,φ,φ] rfl rfl (one_of HT_.out (by kernel_rfl)) (by decide) (fun K hK => ?_)
            refine value_ (w1 := ?_) (v := ?_) (by rfl) rfl ?_ ?_
            rotate_left 2
            · go_simp
              constructor
              · rfl
              · rfl
            have hbl := below_alloc (Below.refl Z.drew.heap.size Z.drew) (.cells #[.int .i64 a0, .int .i64 a1] 3)
            have x0b := pw_cell_below hbl x0'
            have x1b := pw_cell_below hbl x1'
            have HLi := Aside0.mk (R_ints (V := Z.drew) (b0 := b0) [a0, a1] (by simp) HYb.out)
            replace HRY := Aside0.mk (Kd.R_below HRY.out hbl)
            replace HBY := Aside0.mk (HBY.out.trans (hbl.mono HBY.out.size))
            replace HYb := Aside0.mk (Nat.le_trans HYb.out hbl.size)
            clear hbl
            refine hK.out _ _ ⟨x0b, x1b⟩ (fun hHeld => ?_)
            clear hK K
            refine norm_ (a' := ?_) ?_ ?_
            rotate_left
            · show Act.put _ (some 115) _ = _
              simp only [Act.put, zz1, zz2, zz3, i64_w, i32_w]
              rfl
            refine one_ (i := 8) (N := some 116) #[τ,τ,τ,τ,τ,τ,τ,τ,τ,φ,φ,φ] rfl rfl (one_of HT_.out (by kernel_rfl)) (by decide) (fun K hK => ?_)
            refine goes_ Tryd.func11 (by kernel_rfl) rfl #[.slice (some ⟨Z.drew.heap.size, 0, none⟩) 2 2] (by rfl) rfl rfl (by simp only [List.map_toArray, List.map_cons, List.map_nil]; rfl) ?_
            with_reducible refine (rec_yes (some ⟨Z.drew.heap.size, 0, none⟩) 2 2 _ (by decide)).mono ?_
            rintro e Z3 ⟨q, rfl, hq, hk, hb⟩
            refine ⟨_, rfl, ?_⟩
            have x0c := pw_cell_below hb x0b
            have x1c := pw_cell_below hb x1b
            have HLj := Aside0.mk (Kd.R_below HLi.out hb)
            replace HRY := Aside0.mk (Kd.R_below HRY.out hb)
            replace HBY := Aside0.mk (HBY.out.trans (hb.mono HBY.out.size))
            have HKq := Aside0.mk (R_keys (n := 2) hk (Nat.le_trans HYb.out hq) (by decide))
            clear hq hk hb
            refine hK.out _ _ ⟨x0c, x1c⟩ (fun hHeld => ?_)
            clear hK K
            refine norm_ (a' := ?_) ?_ ?_
            rotate_left
            · show Act.put _ (some 116) _ = _
              simp only [Act.put, zz1, zz2, zz3, i64_w, i32_w]
              rfl
            refine one_ (i := 9) (N := some 117) #[τ,τ,τ,τ,τ,τ,τ,τ,τ,τ,φ,φ] rfl rfl (one_of HT_.out (by kernel_rfl)) (by decide) (fun K hK => ?_)
            refine value_ (w1 := ?_) (v := ?_) (by rfl) rfl ?_ ?_
            rotate_left 2
            · go_simp
              constructor
              · rfl
              · rfl
            have hbl := below_alloc (Below.refl Z3.heap.size Z3) (.cells #[.int .i64 7, .int .i64 0, .string ⟨#[]⟩, .slice (some ⟨q, 0, none⟩) 2 3, .slice (some ⟨Z.drew.heap.size, 0, none⟩) 2 2] 33)
            refine hK.out _ _ ⟨pw_cell_below hbl x0c, pw_cell_below hbl x1c⟩ (fun hHeld => ?_)
            clear hK K
            refine norm_ (a' := ?_) ?_ ?_
            rotate_left
            · show Act.put _ (some 117) _ = _
              simp only [Act.put, zz1, zz2, zz3, i64_w, i32_w]
              rfl
            refine last_ (i := 10) (N := some 118) #[τ,τ,τ,τ,τ,τ,τ,τ,τ,τ,τ,φ] rfl rfl (one_of HT_.out (by kernel_rfl)) (by decide) (fun K hK => ?_)
            refine Kd.R_append_step kGN (w0 := w) w.heap.size (by rfl) (.tmp 108) (.tmp 117) 23 33 (.agg #[.int .i64 0, .int .i64 0, .string ⟨#[]⟩, .slice none 0 0, .slice none 0 0]) 80 rfl Tryd.underlying23 infoG rfl (by decide) (by omega) u6 g (recG [a0, a1]) [.int .i64 7, .int .i64 0, .string ⟨#[]⟩, .slice (some ⟨q, 0, none⟩) 2 3, .slice (some ⟨Z.drew.heap.size, 0, none⟩) 2 2] (fun _ => True) (fun k => b0 ≤ k) rfl rfl (P.k33_mkM _ _ _ _ (Kd.R_lower HKq.out HBb.out) (Kd.R_lower HLj.out HBb.out)) (fun k hk => ⟨trivial, fun e => by have := HLt.out k e.symm; omega⟩) (fun _ _ => trivial) HRY.out HBY.out HBY.out.size HAL.out ?_
            intro v9 W9 ho hb hg9 hat9
            refine hK.out _ _ ?_
            clear hK K
            refine norm_ (a' := ?_) ?_ ?_
            rotate_left
            · show Act.put _ (some 118) _ = _
              simp only [Act.put, zz1, zz2, zz3, i64_w, i32_w]
              rfl
            refine pure_ (i := 11) (N := some 6) (v := ?_) (a' := ?_) #[τ,τ,τ,τ,τ,τ,τ,τ,τ,τ,τ,τ] rfl rfl (any_of HT_.out (by kernel_rfl)) (fun _ _ _ h => h) (Or.inl ⟨by rfl, ?_⟩) ?_ ?_
            rotate_left; (intro w'; go_simp; with_reducible rfl); rotate_left; (simp only [Act.put, zz1, zz2, zz3, i64_w, i32_w]; rfl)
            refine done_ (done_of HT_.out (by kernel_rfl)) ?_
            have HO9 := Aside0.mk ho
            have HB9 := Aside0.mk hb
            have HGn := Aside0.mk (show (g ++ [(recG [a0, a1] : GN)]).length = i + 1 ∧ GraphP dyn n p (g ++ [(recG [a0, a1] : GN)]) from ⟨by rw [List.length_append, HGP.out.1]; rfl, HGP.out.2.snoc (.inr (.inr (.inr (.inl ⟨[a0, a1], by simp, in_two HE.out.1 HE.out.2, rfl⟩))))⟩)
            clear ho hb hg9 hat9
            go_wp2_with (fail)
            go_roundw
            case rel => exact ⟨i + 1, _, by omega, by first | (rw [hw]; done) | (rw [Int.natCast_add]; rfl), HO9, HB9, HGn⟩
            case measure => first | (rw [hw]; simp only [intOf]; omega) | (simp only [intOf]; omega)
          · skip
            go_wp2_with (fail)
            refine (rec_yes none 0 0 Z (by decide)).mono ?_
            rintro e Z3 ⟨q, rfl, hq, hk, hb⟩
            have HKq := Aside0.mk (R_keys (n := 0) hk (Nat.le_trans HYb.out hq) (by decide))
            replace y0 := pw_cell_below hb y0
            replace y1 := pw_cell_below hb y1
            replace y2 := pw_cell_below hb y2
            replace HRY := Aside0.mk (Kd.R_below HRY.out hb)
            replace HBY := Aside0.mk (HBY.out.trans (hb.mono HBY.out.size))
            replace HOY := Aside0.mk (Kd.R_below HOY.out hb)
            replace HYb := Aside0.mk (Nat.le_trans HYb.out hb.size)
            clear hq hk hb
            go_wp2_with (first | ((with_reducible refine gate_builtin (b := .append) (xs := #[.tmp 121, .tmp 123]) rfl ?_); at_builtin; refine Kd.R_append kGN (w0 := w) w.heap.size rfl (.tmp 121) (.tmp 123) 23 33 (.agg #[.int .i64 0, .int .i64 0, .string ⟨#[]⟩, .slice none 0 0, .slice none 0 0]) 80 rfl Tryd.underlying23 infoG rfl (by decide) (by omega) u6 g (recG []) [.int .i64 7, .int .i64 0, .string ⟨#[]⟩, .slice (some ⟨q, 0, none⟩) 0 3, (.slice none 0 0)] (fun _ => True) (fun k => b0 ≤ k) rfl rfl (P.k33_mkM _ _ _ _ (Kd.R_lower HKq.out HBb.out) (Kd.R_nil _ _ _ _ _)) (fun k hk => ⟨trivial, fun e => by have := HLt.out k e.symm; omega⟩) (fun _ _ => trivial) HRY.out HBY.out HBY.out.size HAL.out ?_; intro v9 W9 ho hb hg9 hat9))
            have HO9 := Aside0.mk ho
            have HB9 := Aside0.mk hb
            have HGn := Aside0.mk (show (g ++ [(recG [] : GN)]).length = i + 1 ∧ GraphP dyn n p (g ++ [(recG [] : GN)]) from ⟨by rw [List.length_append, HGP.out.1]; rfl, HGP.out.2.snoc (.inr (.inr (.inr (.inl ⟨[], by decide, fun y hy => by simp at hy, rfl⟩))))⟩)
            clear ho hb hg9 hat9
            go_wp2_with (fail)
            go_roundw
            case rel => exact ⟨i + 1, _, by omega, by first | (rw [hw]; done) | (rw [Int.natCast_add]; rfl), HO9, HB9, HGn⟩
            case measure => first | (rw [hw]; simp only [intOf]; omega) | (simp only [intOf]; omega)
          · skip
            have x0 := (Kd.R_celln 0 HOY.out (0 : Int) (by decide) (by omega)).1
            simp only [Int.toNat_zero] at x0
            have e0 := rd_in HIn.out 0 (by decide) (by omega)
            have HE := Aside0.mk e0
            clear e0
            obtain ⟨a0, ha0⟩ : ∃ a, a = rd r 0 := ⟨_, rfl⟩
            have x0' : Z.cell? ⟨g9, 0, none⟩ = some (.int .i64 a0) := by rw [ha0]; exact x0
            rw [← ha0] at HE
            clear x0 ha0
            have HLi := Aside0.mk (R_ints (V := Z) (b0 := b0) [a0] (by simp) HYb.out)
            have hbl := below_alloc (Below.refl Z.heap.size Z) (.cells #[.int .i64 a0] 3)
            replace y0 := pw_cell_below hbl y0
            replace y1 := pw_cell_below hbl y1
            replace y2 := pw_cell_below hbl y2
            replace HRY := Aside0.mk (Kd.R_below HRY.out hbl)
            replace HBY := Aside0.mk (HBY.out.trans (hbl.mono HBY.out.size))
            replace HOY := Aside0.mk (Kd.R_below HOY.out hbl)
            replace HYb := Aside0.mk (Nat.le_trans HYb.out hbl.size)
            clear hbl
            go_wp2_with (fail)
            refine (rec_yes (some ⟨Z.heap.size, 0, none⟩) 1 1 _ (by decide)).mono ?_
            rintro e Z3 ⟨q, rfl, hq, hk, hb⟩
            have HKq := Aside0.mk (R_keys (n := 1) hk (Nat.le_trans HYb.out hq) (by decide))
            have HLj := Aside0.mk (Kd.R_below HLi.out hb)
            replace y0 := pw_cell_below hb y0
            replace y1 := pw_cell_below hb y1
            replace y2 := pw_cell_below hb y2
            replace HRY := Aside0.mk (Kd.R_below HRY.out hb)
            replace HBY := Aside0.mk (HBY.out.trans (hb.mono HBY.out.size))
            replace HOY := Aside0.mk (Kd.R_below HOY.out hb)
            replace HYb := Aside0.mk (Nat.le_trans HYb.out hb.size)
            clear hq hk hb
            go_wp2_with (first | ((with_reducible refine gate_builtin (b := .append) (xs := #[.tmp 58, .tmp 64]) rfl ?_); at_builtin; refine Kd.R_append kGN (w0 := w) w.heap.size rfl (.tmp 58) (.tmp 64) 23 33 (.agg #[.int .i64 0, .int .i64 0, .string ⟨#[]⟩, .slice none 0 0, .slice none 0 0]) 80 rfl Tryd.underlying23 infoG rfl (by decide) (by omega) u6 g (recG [a0]) [.int .i64 7, .int .i64 0, .string ⟨#[]⟩, .slice (some ⟨q, 0, none⟩) 1 3, .slice (some ⟨Z.heap.size, 0, none⟩) 1 1] (fun _ => True) (fun k => b0 ≤ k) rfl rfl (P.k33_mkM _ _ _ _ (Kd.R_lower HKq.out HBb.out) (Kd.R_lower HLj.out HBb.out)) (fun k hk => ⟨trivial, fun e => by have := HLt.out k e.symm; omega⟩) (fun _ _ => trivial) HRY.out HBY.out HBY.out.size HAL.out ?_; intro v9 W9 ho hb hg9 hat9))
            have HO9 := Aside0.mk ho
            have HB9 := Aside0.mk hb
            have HGn := Aside0.mk (show (g ++ [(recG [a0] : GN)]).length = i + 1 ∧ GraphP dyn n p (g ++ [(recG [a0] : GN)]) from ⟨by rw [List.length_append, HGP.out.1]; rfl, HGP.out.2.snoc (.inr (.inr (.inr (.inl ⟨[a0], by simp, fun y hy => by rw [List.mem_singleton] at hy; subst hy; exact HE.out, rfl⟩))))⟩)
            clear ho hb hg9 hat9
            go_wp2_with (fail)
            go_roundw
            case rel => exact ⟨i + 1, _, by omega, by first | (rw [hw]; done) | (rw [Int.natCast_add]; rfl), HO9, HB9, HGn⟩
            case measure => first | (rw [hw]; simp only [intOf]; omega) | (simp only [intOf]; omega)
          · skip
            have x0 := (Kd.R_celln 0 HOY.out (0 : Int) (by decide) (by omega)).1
            simp only [Int.toNat_zero] at x0
            have e0 := rd_in HIn.out 0 (by decide) (by omega)
            have HE := Aside0.mk e0
            clear e0
            obtain ⟨a0, ha0⟩ : ∃ a, a = rd r 0 := ⟨_, rfl⟩
            have x0' : Z.cell? ⟨g9, 0, none⟩ = some (.int .i64 a0) := by rw [ha0]; exact x0
            rw [← ha0] at HE
            clear x0 ha0
            have HLi := Aside0.mk (R_ints (V := Z) (b0 := b0) [a0] (by simp) HYb.out)
            have hbl := below_alloc (Below.refl Z.heap.size Z) (.cells #[.int .i64 a0] 3)
            replace y0 := pw_cell_below hbl y0
            replace y1 := pw_cell_below hbl y1
            replace y2 := pw_cell_below hbl y2
            replace HRY := Aside0.mk (Kd.R_below HRY.out hbl)
            replace HBY := Aside0.mk (HBY.out.trans (hbl.mono HBY.out.size))
            replace HOY := Aside0.mk (Kd.R_below HOY.out hbl)
            replace HYb := Aside0.mk (Nat.le_trans HYb.out hbl.size)
            clear hbl
            go_wp2_with (fail)
            refine (rec_yes (some ⟨Z.heap.size, 0, none⟩) 1 1 _ (by decide)).mono ?_
            rintro e Z3 ⟨q, rfl, hq, hk, hb⟩
            have HKq := Aside0.mk (R_keys (n := 1) hk (Nat.le_trans HYb.out hq) (by decide))
            have HLj := Aside0.mk (Kd.R_below HLi.out hb)
            replace y0 := pw_cell_below hb y0
            replace y1 := pw_cell_below hb y1
            replace y2 := pw_cell_below hb y2
            replace HRY := Aside0.mk (Kd.R_below HRY.out hb)
            replace HBY := Aside0.mk (HBY.out.trans (hb.mono HBY.out.size))
            replace HOY := Aside0.mk (Kd.R_below HOY.out hb)
            replace HYb := Aside0.mk (Nat.le_trans HYb.out hb.size)
            clear hq hk hb
            go_wp2_with (first | ((with_reducible refine gate_builtin (b := .append) (xs := #[.tmp 58, .tmp 64]) rfl ?_); at_builtin; refine Kd.R_append kGN (w0 := w) w.heap.size rfl (.tmp 58) (.tmp 64) 23 33 (.agg #[.int .i64 0, .int .i64 0, .string ⟨#[]⟩, .slice none 0 0, .slice none 0 0]) 80 rfl Tryd.underlying23 infoG rfl (by decide) (by omega) u6 g (recG [a0]) [.int .i64 7, .int .i64 0, .string ⟨#[]⟩, .slice (some ⟨q, 0, none⟩) 1 3, .slice (some ⟨Z.heap.size, 0, none⟩) 1 1] (fun _ => True) (fun k => b0 ≤ k) rfl rfl (P.k33_mkM _ _ _ _ (Kd.R_lower HKq.out HBb.out) (Kd.R_lower HLj.out HBb.out)) (fun k hk => ⟨trivial, fun e => by have := HLt.out k e.symm; omega⟩) (fun _ _ => trivial) HRY.out HBY.out HBY.out.size HAL.out ?_; intro v9 W9 ho hb hg9 hat9))
            have HO9 := Aside0.mk ho
            have HB9 := Aside0.mk hb
            have HGn := Aside0.mk (show (g ++ [(recG [a0] : GN)]).length = i + 1 ∧ GraphP dyn n p (g ++ [(recG [a0] : GN)]) from ⟨by rw [List.length_append, HGP.out.1]; rfl, HGP.out.2.snoc (.inr (.inr (.inr (.inl ⟨[a0], by simp, fun y hy => by rw [List.mem_singleton] at hy; subst hy; exact HE.out, rfl⟩))))⟩)
            clear ho hb hg9 hat9
            go_wp2_with (fail)
            go_roundw
            case rel => exact ⟨i + 1, _, by omega, by first | (rw [hw]; done) | (rw [Int.natCast_add]; rfl), HO9, HB9, HGn⟩
            case measure => first | (rw [hw]; simp only [intOf]; omega) | (simp only [intOf]; omega)
      · skip
        go_wp2_with (fail)
        refine (bring_yes x.f0 7 _ (by decide) (by decide)).mono ?_
        rintro e Z ⟨t, rfl, hd, ht0, ht1⟩
        have hbz := hd.below
        clear hd
        replace y0 := pw_cell_below hbz y0
        replace y1 := pw_cell_below hbz y1
        replace y2 := pw_cell_below hbz y2
        replace HRY := Aside0.mk (Kd.R_below HRY.out hbz)
        replace HBY := Aside0.mk (HBY.out.trans (hbz.mono HBY.out.size))
        replace HOY := Aside0.mk (Kd.R_below HOY.out hbz)
        replace HYb := Aside0.mk (Nat.le_trans HYb.out hbz.size)
        clear hbz
        have ht7 : t = 0 ∨ t = 1 ∨ t = 2 ∨ t = 3 ∨ t = 4 ∨ t = 5 ∨ t = 6 := by omega
        clear ht0 ht1
        rcases ht7 with rfl | rfl | rfl | rfl | rfl | rfl | rfl
        · skip
          go_wp2_with (fail)
          refine (bring_yes x.f1 4 _ (by decide) (by decide)).mono ?_
          rintro e Z ⟨m, rfl, hd, hm0, hm1⟩
          have hbz := hd.below
          clear hd
          replace y0 := pw_cell_below hbz y0
          replace y1 := pw_cell_below hbz y1
          replace y2 := pw_cell_below hbz y2
          replace HRY := Aside0.mk (Kd.R_below HRY.out hbz)
          replace HBY := Aside0.mk (HBY.out.trans (hbz.mono HBY.out.size))
          replace HOY := Aside0.mk (Kd.R_below HOY.out hbz)
          replace HYb := Aside0.mk (Nat.le_trans HYb.out hbz.size)
          clear hbz
          by_cases hm : m = 0
          · subst hm
            cases dyn with
            | true =>
              go_wp2_with (first | ((with_reducible refine gate_builtin (b := .append) (xs := #[.tmp 78, .tmp 81]) rfl ?_); at_builtin; refine Kd.R_append kGN (w0 := w) w.heap.size rfl (.tmp 78) (.tmp 81) 23 33 (.agg #[.int .i64 0, .int .i64 0, .string ⟨#[]⟩, .slice none 0 0, .slice none 0 0]) 80 rfl Tryd.underlying23 infoG rfl (by decide) (by omega) u6 g (⟨1, 0, emp, [], []⟩) [.int .i64 1, .int .i64 0, .string ⟨#[]⟩, (.slice none 0 0), (.slice none 0 0)] (fun _ => True) (fun k => b0 ≤ k) rfl rfl (P.k33_mkM _ _ _ _ (Kd.R_nil _ _ _ _ _) (Kd.R_nil _ _ _ _ _)) (fun k hk => ⟨trivial, fun e => by have := HLt.out k e.symm; omega⟩) (fun _ _ => trivial) HRY.out HBY.out HBY.out.size HAL.out ?_; intro v9 W9 ho hb hg9 hat9))
              have HO9 := Aside0.mk ho
              have HB9 := Aside0.mk hb
              have HGn := Aside0.mk (show (g ++ [(⟨1, 0, emp, [], []⟩ : GN)]).length = i + 1 ∧ GraphP true n p (g ++ [(⟨1, 0, emp, [], []⟩ : GN)]) from ⟨by rw [List.length_append, HGP.out.1]; rfl, HGP.out.2.snoc (.inl ⟨1, by decide, by decide, by decide, rfl⟩)⟩)
              clear ho hb hg9 hat9
              go_wp2_with (fail)
              go_roundw
              case rel => exact ⟨i + 1, _, by omega, by first | (rw [hw]; done) | (rw [Int.natCast_add]; rfl), HO9, HB9, HGn⟩
              case measure => first | (rw [hw]; simp only [intOf]; omega) | (simp only [intOf]; omega)
            | false =>
              go_wp2_with (first | ((with_reducible refine gate_builtin (b := .append) (xs := #[.tmp 78, .tmp 81]) rfl ?_); at_builtin; refine Kd.R_append kGN (w0 := w) w.heap.size rfl (.tmp 78) (.tmp 81) 23 33 (.agg #[.int .i64 0, .int .i64 0, .string ⟨#[]⟩, .slice none 0 0, .slice none 0 0]) 80 rfl Tryd.underlying23 infoG rfl (by decide) (by omega) u6 g (⟨4, 0, emp, [], []⟩) [.int .i64 4, .int .i64 0, .string ⟨#[]⟩, (.slice none 0 0), (.slice none 0 0)] (fun _ => True) (fun k => b0 ≤ k) rfl rfl (P.k33_mkM _ _ _ _ (Kd.R_nil _ _ _ _ _) (Kd.R_nil _ _ _ _ _)) (fun k hk => ⟨trivial, fun e => by have := HLt.out k e.symm; omega⟩) (fun _ _ => trivial) HRY.out HBY.out HBY.out.size HAL.out ?_; intro v9 W9 ho hb hg9 hat9))
              have HO9 := Aside0.mk ho
              have HB9 := Aside0.mk hb
              have HGn := Aside0.mk (show (g ++ [(⟨4, 0, emp, [], []⟩ : GN)]).length = i + 1 ∧ GraphP false n p (g ++ [(⟨4, 0, emp, [], []⟩ : GN)]) from ⟨by rw [List.length_append, HGP.out.1]; rfl, HGP.out.2.snoc (.inl ⟨4, by decide, by decide, by decide, rfl⟩)⟩)
              clear ho hb hg9 hat9
              go_wp2_with (fail)
              go_roundw
              case rel => exact ⟨i + 1, _, by omega, by first | (rw [hw]; done) | (rw [Int.natCast_add]; rfl), HO9, HB9, HGn⟩
              case measure => first | (rw [hw]; simp only [intOf]; omega) | (simp only [intOf]; omega)
          · skip
            have hk1 : (1 + m == 1) = false := by simp; omega
            have hk2 : decide (1 + m = 1) = false := by simp; omega
            go_wp2_with (first | ((with_reducible refine gate_builtin (b := .append) (xs := #[.tmp 78, .tmp 81]) rfl ?_); at_builtin; refine Kd.R_append kGN (w0 := w) w.heap.size rfl (.tmp 78) (.tmp 81) 23 33 (.agg #[.int .i64 0, .int .i64 0, .string ⟨#[]⟩, .slice none 0 0, .slice none 0 0]) 80 rfl Tryd.underlying23 infoG rfl (by decide) (by omega) u6 g (⟨1 + m, 0, emp, [], []⟩) [.int .i64 (1 + m), .int .i64 0, .string ⟨#[]⟩, (.slice none 0 0), (.slice none 0 0)] (fun _ => True) (fun k => b0 ≤ k) rfl rfl (P.k33_mkM _ _ _ _ (Kd.R_nil _ _ _ _ _) (Kd.R_nil _ _ _ _ _)) (fun k hk => ⟨trivial, fun e => by have := HLt.out k e.symm; omega⟩) (fun _ _ => trivial) HRY.out HBY.out HBY.out.size HAL.out ?_; intro v9 W9 ho hb hg9 hat9))
            have HO9 := Aside0.mk ho
            have HB9 := Aside0.mk hb
            have HGn := Aside0.mk (show (g ++ [(⟨1 + m, 0, emp, [], []⟩ : GN)]).length = i + 1 ∧ GraphP dyn n p (g ++ [(⟨1 + m, 0, emp, [], []⟩ : GN)]) from ⟨by rw [List.length_append, HGP.out.1]; rfl, HGP.out.2.snoc (.inl ⟨1 + m, by omega, by omega, fun e => by omega, rfl⟩)⟩)
            clear ho hb hg9 hat9
            go_wp2_with (fail)
            go_roundw
            case rel => exact ⟨i + 1, _, by omega, by first | (rw [hw]; done) | (rw [Int.natCast_add]; rfl), HO9, HB9, HGn⟩
            case measure => first | (rw [hw]; simp only [intOf]; omega) | (simp only [intOf]; omega)
        · skip
          have hbl := below_alloc (Below.refl Z.heap.size Z) (.cells #[.string kA, .string kB] 9)
          have hblk := heap_alloc_new Z (.cells #[.string kA, .string kB] 9)
          have s0 : (Z.alloc (.cells #[.string kA, .string kB] 9)).cell? ⟨Z.heap.size, 0, none⟩ = some (.string kA) := (blk_cell hblk 0).trans rfl
          have s1 : (Z.alloc (.cells #[.string kA, .string kB] 9)).cell? ⟨Z.heap.size, 1, none⟩ = some (.string kB) := (blk_cell hblk 1).trans rfl
          clear hblk
          replace y0 := pw_cell_below hbl y0
          replace y1 := pw_cell_below hbl y1
          replace y2 := pw_cell_below hbl y2
          replace HRY := Aside0.mk (Kd.R_below HRY.out hbl)
          replace HBY := Aside0.mk (HBY.out.trans (hbl.mono HBY.out.size))
          replace HOY := Aside0.mk (Kd.R_below HOY.out hbl)
          replace HYb := Aside0.mk (Nat.le_trans HYb.out hbl.size)
          clear hbl
          obtain ⟨zb, hzb⟩ : ∃ zb, zb = Z.heap.size := ⟨_, rfl⟩
          rw [← hzb] at s0 s1
          have s0' := s0
          have s1' := s1
          clear s0 s1
          have HZb := Aside0.mk hzb
          clear hzb
          unfold kA kB at y0 y1 y2 HRY HBY HOY HYb s0' s1'
          go_wp2_with (fail)
          rw [← HZb.out]
          generalize Z.alloc (.cells #[.string ⟨#[97]⟩, .string ⟨#[98]⟩] 9) = Z2 at y0 y1 y2 HRY HBY HOY HYb s0' s1' ⊢
          refine (bring_yes x.f1 2 _ (by decide) (by decide)).mono ?_
          rintro e Z3 ⟨m, rfl, hd, hm0, hm1⟩
          have hbz := hd.below
          clear hd
          replace y0 := pw_cell_below hbz y0
          replace y1 := pw_cell_below hbz y1
          replace y2 := pw_cell_below hbz y2
          replace HRY := Aside0.mk (Kd.R_below HRY.out hbz)
          replace HBY := Aside0.mk (HBY.out.trans (hbz.mono HBY.out.size))
          replace HOY := Aside0.mk (Kd.R_below HOY.out hbz)
          replace HYb := Aside0.mk (Nat.le_trans HYb.out hbz.size)
          have s0 := pw_cell_below hbz s0'
          have s1 := pw_cell_below hbz s1'
          clear hbz s0' s1'
          have hm2 : m = 0 ∨ m = 1 := by omega
          clear hm0 hm1
          rcases hm2 with rfl | rfl
          · skip
            go_wp2_with (first | ((with_reducible refine gate_builtin (b := .append) (xs := #[.tmp 85, .tmp 93]) rfl ?_); at_builtin; refine Kd.R_append kGN (w0 := w) w.heap.size rfl (.tmp 85) (.tmp 93) 23 33 (.agg #[.int .i64 0, .int .i64 0, .string ⟨#[]⟩, .slice none 0 0, .slice none 0 0]) 80 rfl Tryd.underlying23 infoG rfl (by decide) (by omega) u6 g (⟨5, 0, kA, [], []⟩) [.int .i64 5, .int .i64 0, .string ⟨#[97]⟩, (.slice none 0 0), (.slice none 0 0)] (fun _ => True) (fun k => b0 ≤ k) rfl rfl (P.k33_mkM _ _ _ _ (Kd.R_nil _ _ _ _ _) (Kd.R_nil _ _ _ _ _)) (fun k hk => ⟨trivial, fun e => by have := HLt.out k e.symm; omega⟩) (fun _ _ => trivial) HRY.out HBY.out HBY.out.size HAL.out ?_; intro v9 W9 ho hb hg9 hat9))
            have HO9 := Aside0.mk ho
            have HB9 := Aside0.mk hb
            have HGn := Aside0.mk (show (g ++ [(⟨5, 0, kA, [], []⟩ : GN)]).length = i + 1 ∧ GraphP dyn n p (g ++ [(⟨5, 0, kA, [], []⟩ : GN)]) from ⟨by rw [List.length_append, HGP.out.1]; rfl, HGP.out.2.snoc (.inr (.inl ⟨kA, .inl rfl, rfl⟩))⟩)
            clear ho hb hg9 hat9
            go_wp2_with (fail)
            go_roundw
            case rel => exact ⟨i + 1, _, by omega, by first | (rw [hw]; done) | (rw [Int.natCast_add]; rfl), HO9, HB9, HGn⟩
            case measure => first | (rw [hw]; simp only [intOf]; omega) | (simp only [intOf]; omega)
          · skip
            go_wp2_with (first | ((with_reducible refine gate_builtin (b := .append) (xs := #[.tmp 85, .tmp 93]) rfl ?_); at_builtin; refine Kd.R_append kGN (w0 := w) w.heap.size rfl (.tmp 85) (.tmp 93) 23 33 (.agg #[.int .i64 0, .int .i64 0, .string ⟨#[]⟩, .slice none 0 0, .slice none 0 0]) 80 rfl Tryd.underlying23 infoG rfl (by decide) (by omega) u6 g (⟨5, 0, kB, [], []⟩) [.int .i64 5, .int .i64 0, .string ⟨#[98]⟩, (.slice none 0 0), (.slice none 0 0)] (fun _ => True) (fun k => b0 ≤ k) rfl rfl (P.k33_mkM _ _ _ _ (Kd.R_nil _ _ _ _ _) (Kd.R_nil _ _ _ _ _)) (fun k hk => ⟨trivial, fun e => by have := HLt.out k e.symm; omega⟩) (fun _ _ => trivial) HRY.out HBY.out HBY.out.size HAL.out ?_; intro v9 W9 ho hb hg9 hat9))
            have HO9 := Aside0.mk ho
            have HB9 := Aside0.mk hb
            have HGn := Aside0.mk (show (g ++ [(⟨5, 0, kB, [], []⟩ : GN)]).length = i + 1 ∧ GraphP dyn n p (g ++ [(⟨5, 0, kB, [], []⟩ : GN)]) from ⟨by rw [List.length_append, HGP.out.1]; rfl, HGP.out.2.snoc (.inr (.inl ⟨kB, .inr rfl, rfl⟩))⟩)
            clear ho hb hg9 hat9
            go_wp2_with (fail)
            go_roundw
            case rel => exact ⟨i + 1, _, by omega, by first | (rw [hw]; done) | (rw [Int.natCast_add]; rfl), HO9, HB9, HGn⟩
            case measure => first | (rw [hw]; simp only [intOf]; omega) | (simp only [intOf]; omega)
        · skip
          have hcut1 := cut_to (P := Tryd.prog) 31 3 .i64 Tryd.underlying31 HII.out (some ⟨g9, 0, none⟩) r.length c9 1 (by decide) (by omega) hl9c
          simp only [Int.reduceToNat] at hcut1
          have y1d := pw_cell_below (below_drew (Below.refl Z.heap.size Z)) y1
          replace HRY := Aside0.mk (Kd.R_drew HRY.out)
          replace HBY := Aside0.mk (below_drew HBY.out)
          replace HOY := Aside0.mk (Kd.R_drew HOY.out)
          replace HYb : Aside0 (b0 ≤ Z.drew.heap.size) := ⟨HYb.out⟩
          go_wp2_with (fail)
          refine start_ (n := 10) (S := fun w' => w'.cell? ⟨qb, 1, none⟩ = some (.int .i64 x.f1)) (ds := [8]) #[φ,φ,φ,φ,φ,φ,φ,φ,φ,φ] (by kernel_rfl) rfl rfl (y1d) (fun hHeld => ?_)
          refine with_tabW md23.tab23 md23.bits23 (fun HT_ HW_ => ?_)
          refine pure_ (i := 0) (N := some 97) (v := ?_) (a' := ?_) #[τ,φ,φ,φ,φ,φ,φ,φ,φ,φ] rfl rfl (any_of HT_.out (by kernel_rfl)) (fun _ _ _ h => h) (Or.inl ⟨by rfl, ?_⟩) ?_ ?_
          rotate_left; (intro w'; go_simp; with_reducible rfl); rotate_left; (simp only [Act.put, zz1, zz2, zz3, i64_w, i32_w]; rfl)
          refine pure_ (i := 1) (N := some 98) (v := ?_) (a' := ?_) #[τ,τ,φ,φ,φ,φ,φ,φ,φ,φ] rfl rfl (any_of HT_.out (by kernel_rfl)) (fun _ _ _ h => h) (Or.inl ⟨by rfl, ?_⟩) ?_ ?_
          rotate_left; (intro w'; go_simp; with_reducible rfl); rotate_left; (simp only [Act.put, zz1, zz2, zz3, i64_w, i32_w]; rfl)
          refine pure_ (i := 4) (N := some 101) (v := ?_) (a' := ?_) #[τ,τ,φ,φ,τ,φ,φ,φ,φ,φ] rfl rfl (any_of HT_.out (by kernel_rfl)) (fun _ _ _ h => h) (Or.inl ⟨by rfl, ?_⟩) ?_ ?_
          rotate_left; (intro w'; go_simp; with_reducible rfl); rotate_left; (simp only [Act.put, zz1, zz2, zz3, i64_w, i32_w]; rfl)
          refine pure_ (i := 5) (N := some 102) (v := ?_) (a' := ?_) #[τ,τ,φ,φ,τ,τ,φ,φ,φ,φ] rfl rfl (any_of HT_.out (by kernel_rfl)) (fun _ _ _ h => h) (Or.inl ⟨by rfl, ?_⟩) ?_ ?_
          rotate_left; (intro w'; go_simp; with_reducible rfl); rotate_left; (simp only [Act.put, zz1, zz2, zz3, i64_w, i32_w]; rfl)
          refine take_ (i := 2) (N := some 99) (v := ?_) (a' := ?_) #[τ,τ,τ,φ,τ,τ,φ,φ,φ,φ] rfl rfl (take_ofW HT_.out HW_.out (by kernel_rfl)) (fun _ _ _ h => h) (Or.inl ⟨by rfl, ?_⟩) hHeld ?_ ?_
          rotate_left; (intro w' s0; go_simp; with_reducible rfl); rotate_left; (simp only [Act.put, zz1, zz2, zz3, i64_w, i32_w]; rfl)
          refine one_ (i := 3) (N := some 100) #[τ,τ,τ,τ,τ,τ,φ,φ,φ,φ] rfl rfl (one_of HT_.out (by kernel_rfl)) (by decide) (fun K hK => ?_)
          refine goes_ Tryd.func10 (by kernel_rfl) rfl #[.int .i64 x.f1, .int .i64 2] (by rfl) rfl rfl (by simp only [List.map_toArray, List.map_cons, List.map_nil]; rfl) ?_
          with_reducible refine (bring_yes x.f1 2 _ (by decide) (by decide)).mono ?_
          rintro e Z3 ⟨m, rfl, hd, hm0, hm1⟩
          refine ⟨_, rfl, ?_⟩
          have hbz := hd.below
          have HM0 := Aside0.mk (And.intro hm0 hm1)
          replace HRY := Aside0.mk (Kd.R_below HRY.out hbz)
          replace HBY := Aside0.mk (HBY.out.trans (hbz.mono HBY.out.size))
          replace HOY := Aside0.mk (Kd.R_below HOY.out hbz)
          have y1e := pw_cell_below hbz y1d
          clear hd hm0 hm1 hbz
          refine hK.out _ _ (y1e) (fun hHeld => ?_)
          clear hK K
          refine norm_ (a' := ?_) ?_ ?_
          rotate_left
          · show Act.put _ (some 100) _ = _
            simp only [Act.put, zz1, zz2, zz3, i64_w, i32_w]
            rfl
          refine pure_ (i := 6) (N := some 103) (v := ?_) (a' := ?_) #[τ,τ,τ,τ,τ,τ,τ,φ,φ,φ] rfl rfl (any_of HT_.out (by kernel_rfl)) (fun _ _ _ h => h) (Or.inl ⟨by rfl, ?_⟩) ?_ ?_
          rotate_left; (intro w'; go_simp; with_reducible rfl); rotate_left; (simp only [Act.put, zz1, zz2, zz3, i64_w, i32_w]; rfl)
          refine one_ (i := 7) (N := some 104) #[τ,τ,τ,τ,τ,τ,τ,τ,φ,φ] rfl rfl (one_of HT_.out (by kernel_rfl)) (by decide) (fun K hK => ?_)
          refine value_ (w1 := ?_) (v := ?_) (by rfl) rfl ?_ ?_
          rotate_left 2
          · go_simp
            constructor
            · rfl
            · rfl
          have y1f := pw_cell_below (below_alloc (Below.refl Z3.heap.size Z3) (.cells #[.int .i64 9, .int .i64 m, .string ⟨#[]⟩, .slice none 0 0, .slice (some ⟨g9, 0, none⟩) 1 c9] 33)) y1e
          refine hK.out _ _ (y1f) (fun hHeld => ?_)
          clear hK K
          refine norm_ (a' := ?_) ?_ ?_
          rotate_left
          · show Act.put _ (some 104) _ = _
            simp only [Act.put, zz1, zz2, zz3, i64_w, i32_w]
            rfl
          refine last_ (i := 8) (N := some 105) #[τ,τ,τ,τ,τ,τ,τ,τ,τ,φ] rfl rfl (one_of HT_.out (by kernel_rfl)) (by decide) (fun K hK => ?_)
          refine Kd.R_append_step kGN (w0 := w) w.heap.size (by rfl) (.tmp 97) (.tmp 104) 23 33 (.agg #[.int .i64 0, .int .i64 0, .string ⟨#[]⟩, .slice none 0 0, .slice none 0 0]) 80 rfl Tryd.underlying23 infoG rfl (by decide) (by omega) u6 g (⟨9, m, emp, [], r.take 1⟩) [.int .i64 9, .int .i64 m, .string ⟨#[]⟩, (.slice none 0 0), .slice (some ⟨g9, 0, none⟩) 1 c9] (fun _ => True) (fun k => b0 ≤ k) rfl rfl (P.k33_mkM _ _ _ _ (Kd.R_nil _ _ _ _ _) (Kd.R_lower (Kd.R_take (m := 1) HOY.out (by omega)) HBb.out)) (fun k hk => ⟨trivial, fun e => by have := HLt.out k e.symm; omega⟩) (fun _ _ => trivial) HRY.out HBY.out HBY.out.size HAL.out ?_
          intro v9 W9 ho hb hg9 hat9
          have hx8 := trivial
          refine hK.out _ _ ?_
          clear hK K
          refine norm_ (a' := ?_) ?_ ?_
          rotate_left
          · show Act.put _ (some 105) _ = _
            simp only [Act.put, zz1, zz2, zz3, i64_w, i32_w]
            rfl
          refine pure_ (i := 9) (N := some 6) (v := ?_) (a' := ?_) #[τ,τ,τ,τ,τ,τ,τ,τ,τ,τ] rfl rfl (any_of HT_.out (by kernel_rfl)) (fun _ _ _ h => h) (Or.inl ⟨by rfl, ?_⟩) ?_ ?_
          rotate_left; (intro w'; go_simp; with_reducible rfl); rotate_left; (simp only [Act.put, zz1, zz2, zz3, i64_w, i32_w]; rfl)
          refine done_ (done_of HT_.out (by kernel_rfl)) ?_
          have hl1 : (r.take 1) = [rd r 0] := by
            unfold rd
            rcases r with _ | ⟨a, r⟩
            · simp at hr2
            · rfl
          have HO9 := Aside0.mk ho
          have HB9 := Aside0.mk hb
          have HGn := Aside0.mk (show (g ++ [(⟨9, m, emp, [], r.take 1⟩ : GN)]).length = i + 1 ∧ GraphP dyn n p (g ++ [(⟨9, m, emp, [], r.take 1⟩ : GN)]) from ⟨by rw [List.length_append, HGP.out.1]; rfl, HGP.out.2.snoc (.inr (.inr (.inl ⟨m, rd r 0, HM0.out.1, HM0.out.2, (rd_in HIn.out 0 (by decide) (by omega)).1, (rd_in HIn.out 0 (by decide) (by omega)).2, by rw [hl1]⟩)))⟩)
          clear ho hb hg9 hat9
          go_wp2_with (fail)
          go_roundw
          case rel => exact ⟨i + 1, _, by omega, by first | (rw [hw]; done) | (rw [Int.natCast_add]; rfl), HO9, HB9, HGn⟩
          case measure => first | (rw [hw]; simp only [intOf]; omega) | (simp only [intOf]; omega)
        · skip
          have x0 := pw_cell_below (below_drew (Below.refl Z.heap.size Z)) (Kd.R_celln 0 HOY.out (0 : Int) (by decide) (by omega)).1
          have x1 := pw_cell_below (below_drew (Below.refl Z.heap.size Z)) (Kd.R_celln 0 HOY.out (1 : Int) (by decide) (by omega)).1
          simp only [Int.toNat_zero, Int.reduceToNat] at x0 x1
          replace HRY := Aside0.mk (Kd.R_drew HRY.out)
          replace HBY := Aside0.mk (below_drew HBY.out)
          replace HYb : Aside0 (b0 ≤ Z.drew.heap.size) := ⟨HYb.out⟩
          have e0 := rd_in HIn.out 0 (by decide) (by omega)
          have e1 := rd_in HIn.out 1 (by decide) (by omega)
          have HE := Aside0.mk (And.intro e0 e1)
          clear e0 e1
          obtain ⟨a0, ha0⟩ : ∃ a, a = rd r 0 := ⟨_, rfl⟩
          obtain ⟨a1, ha1⟩ : ∃ a, a = rd r 1 := ⟨_, rfl⟩
          have x0' : Z.drew.cell? ⟨g9, 0, none⟩ = some (.int .i64 a0) := by rw [ha0]; exact x0
          have x1' : Z.drew.cell? ⟨g9, 1, none⟩ = some (.int .i64 a1) := by rw [ha1]; exact x1
          rw [← ha0, ← ha1] at HE
          clear x0 x1 ha0 ha1
          go_wp2_with (fail)
          have hq0 : (0 < r.length) = True := eq_true (by omega)
          have hq1 : ((1 : Int) < (r.length : Int)) = True := eq_true (by omega)
          refine start_ (n := 12) (S := fun w' => w'.cell? ⟨g9, 0, none⟩ = some (.int .i64 a0) ∧ w'.cell? ⟨g9, 1, none⟩ = some (.int .i64 a1)) (ds := [10]) #[φ,φ,φ,φ,φ,φ,φ,φ,φ,φ,φ,φ] (by kernel_rfl) rfl rfl ⟨x0', x1'⟩ (fun hHeld => ?_)
          refine with_tabW md25.tab25 md25.bits25 (fun HT_ HW_ => ?_)
          refine pure_ (i := 0) (N := some 108) (v := ?_) (a' := ?_) #[τ,φ,φ,φ,φ,φ,φ,φ,φ,φ,φ,φ] rfl rfl (any_of HT_.out (by kernel_rfl)) (fun _ _ _ h => h) (Or.inl ⟨by rfl, ?_⟩) ?_ ?_
          rotate_left; (intro w'; go_simp; with_reducible rfl); rotate_left; (simp only [Act.put, zz1, zz2, zz3, i64_w, i32_w]; rfl)
          refine pure_ (i := 1) (N := some 109) (v := ?_) (a' := ?_) #[τ,τ,φ,φ,φ,φ,φ,φ,φ,φ,φ,φ] rfl rfl (any_of HT_.out (by kernel_rfl)) (fun _ _ _ h => h) (Or.inl ⟨by rfl, ?_⟩) ?_ ?_
          rotate_left; (intro w'; go_simp; with_reducible rfl); rotate_left; (simp only [Act.put, zz1, zz2, zz3, i64_w, i32_w]; rfl)
          refine pure_ (i := 2) (N := some 110) (v := ?_) (a' := ?_) #[τ,τ,τ,φ,φ,φ,φ,φ,φ,φ,φ,φ] rfl rfl (any_of HT_.out (by kernel_rfl)) (fun _ _ _ h => h) (Or.inl ⟨by rfl, ?_⟩) ?_ ?_
          rotate_left; (intro w'; go_simp; with_reducible rfl); rotate_left; (simp only [Act.put, zz1, zz2, zz3, i64_w, i32_w]; rfl)
          refine pure_ (i := 4) (N := some 112) (v := ?_) (a' := ?_) #[τ,τ,τ,φ,τ,φ,φ,φ,φ,φ,φ,φ] rfl rfl (any_of HT_.out (by kernel_rfl)) (fun _ _ _ h => h) (Or.inl ⟨by rfl, ?_⟩) ?_ ?_
          rotate_left; (intro w'; go_simp; with_reducible rfl); rotate_left; (simp only [Act.put, zz1, zz2, zz3, i64_w, i32_w]; rfl)
          refine pure_ (i := 5) (N := some 113) (v := ?_) (a' := ?_) #[τ,τ,τ,φ,τ,τ,φ,φ,φ,φ,φ,φ] rfl rfl (any_of HT_.out (by kernel_rfl)) (fun _ _ _ h => h) (Or.inl ⟨by rfl, ?_⟩) ?_ ?_
          rotate_left; (intro w'; go_simp; with_reducible rfl); rotate_left; (simp only [Act.put, zz1, zz2, zz3, i64_w, i32_w]; rfl)
          refine take_ (i := 3) (N := some 111) (v := ?_) (a' := ?_) #[τ,τ,τ,τ,τ,τ,φ,φ,φ,φ,φ,φ] rfl rfl (take_ofW HT_.out HW_.out (by kernel_rfl)) (fun _ _ _ h => h) (Or.inl ⟨by rfl, ?_⟩) hHeld ?_ ?_
          rotate_left; (rintro w' ⟨s0, s1⟩; go_simp; with_reducible rfl); rotate_left; (simp only [Act.put, zz1, zz2, zz3, i64_w, i32_w]; rfl)
          refine take_ (i := 6) (N := some 114) (v := ?_) (a' := ?_) #[τ,τ,τ,τ,τ,τ,τ,φ,φ,φ,φ,φ] rfl rfl (take_ofW HT_.out HW_.out (by kernel_rfl)) (fun _ _ _ h => h) (Or.inl ⟨by rfl, ?_⟩) hHeld ?_ ?_
          rotate_left; (rintro w' ⟨s0, s1⟩; go_simp; with_reducible rfl); rotate_left; (simp only [Act.put, zz1, zz2, zz3, i64_w, i32_w]; rfl)
          refine one_ (i := 7) (N := some 115) #[τ,τ,τ,τ,τ,τ,τ,τ,φ,φ,φ,φ] rfl rfl (one_of HT_.out (by kernel_rfl)) (by decide) (fun K hK => ?_)
          refine value_ (w1 := ?_) (v := ?_) (by rfl) rfl ?_ ?_
          rotate_left 2
          · go_simp
            constructor
            · rfl
            · rfl
          have hbl := below_alloc (Below.refl Z.drew.heap.size Z.drew) (.cells #[.int .i64 a0, .int .i64 a1] 3)
          have x0b := pw_cell_below hbl x0'
          have x1b := pw_cell_below hbl x1'
          have HLi := Aside0.mk (R_ints (V := Z.drew) (b0 := b0) [a0, a1] (by simp) HYb.out)
          replace HRY := Aside0.mk (Kd.R_below HRY.out hbl)
          replace HBY := Aside0.mk (HBY.out.trans (hbl.mono HBY.out.size))
          replace HYb := Aside0.mk (Nat.le_trans HYb.out hbl.size)
          clear hbl
          refine hK.out _ _ ⟨x0b, x1b⟩ (fun hHeld => ?_)
          clear hK K
          refine norm_ (a' := ?_) ?_ ?_
          rotate_left
          · show Act.put _ (some 115) _ = _
            simp only [Act.put, zz1, zz2, zz3, i64_w, i32_w]
            rfl
          refine one_ (i := 8) (N := some 116) #[τ,τ,τ,τ,τ,τ,τ,τ,τ,φ,φ,φ] rfl rfl (one_of HT_.out (by kernel_rfl)) (by decide) (fun K hK => ?_)
          refine goes_ Tryd.func11 (by kernel_rfl) rfl #[.slice (some ⟨Z.drew.heap.size, 0, none⟩) 2 2] (by rfl) rfl rfl (by simp only [List.map_toArray, List.map_cons, List.map_nil]; rfl) ?_
          with_reducible refine (rec_yes (some ⟨Z.drew.heap.size, 0, none⟩) 2 2 _ (by decide)).mono ?_
          rintro e Z3 ⟨q, rfl, hq, hk, hb⟩
          refine ⟨_, rfl, ?_⟩
          have x0c := pw_cell_below hb x0b
          have x1c := pw_cell_below hb x1b
          have HLj := Aside0.mk (Kd.R_below HLi.out hb)
          replace HRY := Aside0.mk (Kd.R_below HRY.out hb)
          replace HBY := Aside0.mk (HBY.out.trans (hb.mono HBY.out.size))
          have HKq := Aside0.mk (R_keys (n := 2) hk (Nat.le_trans HYb.out hq) (by decide))
          clear hq hk hb
          refine hK.out _ _ ⟨x0c, x1c⟩ (fun hHeld => ?_)
          clear hK K
          refine norm_ (a' := ?_) ?_ ?_
          rotate_left
          · show Act.put _ (some 116) _ = _
            simp only [Act.put, zz1, zz2, zz3, i64_w, i32_w]
            rfl
          refine one_ (i := 9) (N := some 117) #[τ,τ,τ,τ,τ,τ,τ,τ,τ,τ,φ,φ] rfl rfl (one_of HT_.out (by kernel_rfl)) (by decide) (fun K hK => ?_)
          refine value_ (w1 := ?_) (v := ?_) (by rfl) rfl ?_ ?_
          rotate_left 2
          · go_simp
            constructor
            · rfl
            · rfl
          have hbl := below_alloc (Below.refl Z3.heap.size Z3) (.cells #[.int .i64 7, .int .i64 0, .string ⟨#[]⟩, .slice (some ⟨q, 0, none⟩) 2 3, .slice (some ⟨Z.drew.heap.size, 0, none⟩) 2 2] 33)
          refine hK.out _ _ ⟨pw_cell_below hbl x0c, pw_cell_below hbl x1c⟩ (fun hHeld => ?_)
          clear hK K
          refine norm_ (a' := ?_) ?_ ?_
          rotate_left
          · show Act.put _ (some 117) _ = _
            simp only [Act.put, zz1, zz2, zz3, i64_w, i32_w]
            rfl
          refine last_ (i := 10) (N := some 118) #[τ,τ,τ,τ,τ,τ,τ,τ,τ,τ,τ,φ] rfl rfl (one_of HT_.out (by kernel_rfl)) (by decide) (fun K hK => ?_)
          refine Kd.R_append_step kGN (w0 := w) w.heap.size (by rfl) (.tmp 108) (.tmp 117) 23 33 (.agg #[.int .i64 0, .int .i64 0, .string ⟨#[]⟩, .slice none 0 0, .slice none 0 0]) 80 rfl Tryd.underlying23 infoG rfl (by decide) (by omega) u6 g (recG [a0, a1]) [.int .i64 7, .int .i64 0, .string ⟨#[]⟩, .slice (some ⟨q, 0, none⟩) 2 3, .slice (some ⟨Z.drew.heap.size, 0, none⟩) 2 2] (fun _ => True) (fun k => b0 ≤ k) rfl rfl (P.k33_mkM _ _ _ _ (Kd.R_lower HKq.out HBb.out) (Kd.R_lower HLj.out HBb.out)) (fun k hk => ⟨trivial, fun e => by have := HLt.out k e.symm; omega⟩) (fun _ _ => trivial) HRY.out HBY.out HBY.out.size HAL.out ?_
          intro v9 W9 ho hb hg9 hat9
          refine hK.out _ _ ?_
          clear hK K
          refine norm_ (a' := ?_) ?_ ?_
          rotate_left
          · show Act.put _ (some 118) _ = _
            simp only [Act.put, zz1, zz2, zz3, i64_w, i32_w]
            rfl
          refine pure_ (i := 11) (N := some 6) (v := ?_) (a' := ?_) #[τ,τ,τ,τ,τ,τ,τ,τ,τ,τ,τ,τ] rfl rfl (any_of HT_.out (by kernel_rfl)) (fun _ _ _ h => h) (Or.inl ⟨by rfl, ?_⟩) ?_ ?_
          rotate_left; (intro w'; go_simp; with_reducible rfl); rotate_left; (simp only [Act.put, zz1, zz2, zz3, i64_w, i32_w]; rfl)
          refine done_ (done_of HT_.out (by kernel_rfl)) ?_
          have HO9 := Aside0.mk ho
          have HB9 := Aside0.mk hb
          have HGn := Aside0.mk (show (g ++ [(recG [a0, a1] : GN)]).length = i + 1 ∧ GraphP dyn n p (g ++ [(recG [a0, a1] : GN)]) from ⟨by rw [List.length_append, HGP.out.1]; rfl, HGP.out.2.snoc (.inr (.inr (.inr (.inl ⟨[a0, a1], by simp, in_two HE.out.1 HE.out.2, rfl⟩))))⟩)
          clear ho hb hg9 hat9
          go_wp2_with (fail)
          go_roundw
          case rel => exact ⟨i + 1, _, by omega, by first | (rw [hw]; done) | (rw [Int.natCast_add]; rfl), HO9, HB9, HGn⟩
          case measure => first | (rw [hw]; simp only [intOf]; omega) | (simp only [intOf]; omega)
        · skip
          go_wp2_with (fail)
          refine (rec_yes none 0 0 Z (by decide)).mono ?_
          rintro e Z3 ⟨q, rfl, hq, hk, hb⟩
          have HKq := Aside0.mk (R_keys (n := 0) hk (Nat.le_trans HYb.out hq) (by decide))
          replace y0 := pw_cell_below hb y0
          replace y1 := pw_cell_below hb y1
          replace y2 := pw_cell_below hb y2
          replace HRY := Aside0.mk (Kd.R_below HRY.out hb)
          replace HBY := Aside0.mk (HBY.out.trans (hb.mono HBY.out.size))
          replace HOY := Aside0.mk (Kd.R_below HOY.out hb)
          replace HYb := Aside0.mk (Nat.le_trans HYb.out hb.size)
          clear hq hk hb
          go_wp2_with (first | ((with_reducible refine gate_builtin (b := .append) (xs := #[.tmp 121, .tmp 123]) rfl ?_); at_builtin; refine Kd.R_append kGN (w0 := w) w.heap.size rfl (.tmp 121) (.tmp 123) 23 33 (.agg #[.int .i64 0, .int .i64 0, .string ⟨#[]⟩, .slice none 0 0, .slice none 0 0]) 80 rfl Tryd.underlying23 infoG rfl (by decide) (by omega) u6 g (recG []) [.int .i64 7, .int .i64 0, .string ⟨#[]⟩, .slice (some ⟨q, 0, none⟩) 0 3, (.slice none 0 0)] (fun _ => True) (fun k => b0 ≤ k) rfl rfl (P.k33_mkM _ _ _ _ (Kd.R_lower HKq.out HBb.out) (Kd.R_nil _ _ _ _ _)) (fun k hk => ⟨trivial, fun e => by have := HLt.out k e.symm; omega⟩) (fun _ _ => trivial) HRY.out HBY.out HBY.out.size HAL.out ?_; intro v9 W9 ho hb hg9 hat9))
          have HO9 := Aside0.mk ho
          have HB9 := Aside0.mk hb
          have HGn := Aside0.mk (show (g ++ [(recG [] : GN)]).length = i + 1 ∧ GraphP dyn n p (g ++ [(recG [] : GN)]) from ⟨by rw [List.length_append, HGP.out.1]; rfl, HGP.out.2.snoc (.inr (.inr (.inr (.inl ⟨[], by decide, fun y hy => by simp at hy, rfl⟩))))⟩)
          clear ho hb hg9 hat9
          go_wp2_with (fail)
          go_roundw
          case rel => exact ⟨i + 1, _, by omega, by first | (rw [hw]; done) | (rw [Int.natCast_add]; rfl), HO9, HB9, HGn⟩
          case measure => first | (rw [hw]; simp only [intOf]; omega) | (simp only [intOf]; omega)
        · skip
          have x0 := (Kd.R_celln 0 HOY.out (0 : Int) (by decide) (by omega)).1
          simp only [Int.toNat_zero] at x0
          have e0 := rd_in HIn.out 0 (by decide) (by omega)
          have HE := Aside0.mk e0
          clear e0
          obtain ⟨a0, ha0⟩ : ∃ a, a = rd r 0 := ⟨_, rfl⟩
          have x0' : Z.cell? ⟨g9, 0, none⟩ = some (.int .i64 a0) := by rw [ha0]; exact x0
          rw [← ha0] at HE
          clear x0 ha0
          have HLi := Aside0.mk (R_ints (V := Z) (b0 := b0) [a0] (by simp) HYb.out)
          have hbl := below_alloc (Below.refl Z.heap.size Z) (.cells #[.int .i64 a0] 3)
          replace y0 := pw_cell_below hbl y0
          replace y1 := pw_cell_below hbl y1
          replace y2 := pw_cell_below hbl y2
          replace HRY := Aside0.mk (Kd.R_below HRY.out hbl)
          replace HBY := Aside0.mk (HBY.out.trans (hbl.mono HBY.out.size))
          replace HOY := Aside0.mk (Kd.R_below HOY.out hbl)
          replace HYb := Aside0.mk (Nat.le_trans HYb.out hbl.size)
          clear hbl
          go_wp2_with (fail)
          refine (rec_yes (some ⟨Z.heap.size, 0, none⟩) 1 1 _ (by decide)).mono ?_
          rintro e Z3 ⟨q, rfl, hq, hk, hb⟩
          have HKq := Aside0.mk (R_keys (n := 1) hk (Nat.le_trans HYb.out hq) (by decide))
          have HLj := Aside0.mk (Kd.R_below HLi.out hb)
          replace y0 := pw_cell_below hb y0
          replace y1 := pw_cell_below hb y1
          replace y2 := pw_cell_below hb y2
          replace HRY := Aside0.mk (Kd.R_below HRY.out hb)
          replace HBY := Aside0.mk (HBY.out.trans (hb.mono HBY.out.size))
          replace HOY := Aside0.mk (Kd.R_below HOY.out hb)
          replace HYb := Aside0.mk (Nat.le_trans HYb.out hb.size)
          clear hq hk hb
          go_wp2_with (first | ((with_reducible refine gate_builtin (b := .append) (xs := #[.tmp 58, .tmp 64]) rfl ?_); at_builtin; refine Kd.R_append kGN (w0 := w) w.heap.size rfl (.tmp 58) (.tmp 64) 23 33 (.agg #[.int .i64 0, .int .i64 0, .string ⟨#[]⟩, .slice none 0 0, .slice none 0 0]) 80 rfl Tryd.underlying23 infoG rfl (by decide) (by omega) u6 g (recG [a0]) [.int .i64 7, .int .i64 0, .string ⟨#[]⟩, .slice (some ⟨q, 0, none⟩) 1 3, .slice (some ⟨Z.heap.size, 0, none⟩) 1 1] (fun _ => True) (fun k => b0 ≤ k) rfl rfl (P.k33_mkM _ _ _ _ (Kd.R_lower HKq.out HBb.out) (Kd.R_lower HLj.out HBb.out)) (fun k hk => ⟨trivial, fun e => by have := HLt.out k e.symm; omega⟩) (fun _ _ => trivial) HRY.out HBY.out HBY.out.size HAL.out ?_; intro v9 W9 ho hb hg9 hat9))
          have HO9 := Aside0.mk ho
          have HB9 := Aside0.mk hb
          have HGn := Aside0.mk (show (g ++ [(recG [a0] : GN)]).length = i + 1 ∧ GraphP dyn n p (g ++ [(recG [a0] : GN)]) from ⟨by rw [List.length_append, HGP.out.1]; rfl, HGP.out.2.snoc (.inr (.inr (.inr (.inl ⟨[a0], by simp, fun y hy => by rw [List.mem_singleton] at hy; subst hy; exact HE.out, rfl⟩))))⟩)
          clear ho hb hg9 hat9
          go_wp2_with (fail)
          go_roundw
          case rel => exact ⟨i + 1, _, by omega, by first | (rw [hw]; done) | (rw [Int.natCast_add]; rfl), HO9, HB9, HGn⟩
          case measure => first | (rw [hw]; simp only [intOf]; omega) | (simp only [intOf]; omega)
        · skip
          have x0 := (Kd.R_celln 0 HOY.out (0 : Int) (by decide) (by omega)).1
          simp only [Int.toNat_zero] at x0
          have e0 := rd_in HIn.out 0 (by decide) (by omega)
          have HE := Aside0.mk e0
          clear e0
          obtain ⟨a0, ha0⟩ : ∃ a, a = rd r 0 := ⟨_, rfl⟩
          have x0' : Z.cell? ⟨g9, 0, none⟩ = some (.int .i64 a0) := by rw [ha0]; exact x0
          rw [← ha0] at HE
          clear x0 ha0
          have HLi := Aside0.mk (R_ints (V := Z) (b0 := b0) [a0] (by simp) HYb.out)
          have hbl := below_alloc (Below.refl Z.heap.size Z) (.cells #[.int .i64 a0] 3)
          replace y0 := pw_cell_below hbl y0
          replace y1 := pw_cell_below hbl y1
          replace y2 := pw_cell_below hbl y2
          replace HRY := Aside0.mk (Kd.R_below HRY.out hbl)
          replace HBY := Aside0.mk (HBY.out.trans (hbl.mono HBY.out.size))
          replace HOY := Aside0.mk (Kd.R_below HOY.out hbl)
          replace HYb := Aside0.mk (Nat.le_trans HYb.out hbl.size)
          clear hbl
          go_wp2_with (fail)
          refine (rec_yes (some ⟨Z.heap.size, 0, none⟩) 1 1 _ (by decide)).mono ?_
          rintro e Z3 ⟨q, rfl, hq, hk, hb⟩
          have HKq := Aside0.mk (R_keys (n := 1) hk (Nat.le_trans HYb.out hq) (by decide))
          have HLj := Aside0.mk (Kd.R_below HLi.out hb)
          replace y0 := pw_cell_below hb y0
          replace y1 := pw_cell_below hb y1
          replace y2 := pw_cell_below hb y2
          replace HRY := Aside0.mk (Kd.R_below HRY.out hb)
          replace HBY := Aside0.mk (HBY.out.trans (hb.mono HBY.out.size))
          replace HOY := Aside0.mk (Kd.R_below HOY.out hb)
          replace HYb := Aside0.mk (Nat.le_trans HYb.out hb.size)
          clear hq hk hb
          go_wp2_with (first | ((with_reducible refine gate_builtin (b := .append) (xs := #[.tmp 58, .tmp 64]) rfl ?_); at_builtin; refine Kd.R_append kGN (w0 := w) w.heap.size rfl (.tmp 58) (.tmp 64) 23 33 (.agg #[.int .i64 0, .int .i64 0, .string ⟨#[]⟩, .slice none 0 0, .slice none 0 0]) 80 rfl Tryd.underlying23 infoG rfl (by decide) (by omega) u6 g (recG [a0]) [.int .i64 7, .int .i64 0, .string ⟨#[]⟩, .slice (some ⟨q, 0, none⟩) 1 3, .slice (some ⟨Z.heap.size, 0, none⟩) 1 1] (fun _ => True) (fun k => b0 ≤ k) rfl rfl (P.k33_mkM _ _ _ _ (Kd.R_lower HKq.out HBb.out) (Kd.R_lower HLj.out HBb.out)) (fun k hk => ⟨trivial, fun e => by have := HLt.out k e.symm; omega⟩) (fun _ _ => trivial) HRY.out HBY.out HBY.out.size HAL.out ?_; intro v9 W9 ho hb hg9 hat9))
          have HO9 := Aside0.mk ho
          have HB9 := Aside0.mk hb
          have HGn := Aside0.mk (show (g ++ [(recG [a0] : GN)]).length = i + 1 ∧ GraphP dyn n p (g ++ [(recG [a0] : GN)]) from ⟨by rw [List.length_append, HGP.out.1]; rfl, HGP.out.2.snoc (.inr (.inr (.inr (.inl ⟨[a0], by simp, fun y hy => by rw [List.mem_singleton] at hy; subst hy; exact HE.out, rfl⟩))))⟩)
          clear ho hb hg9 hat9
          go_wp2_with (fail)
          go_roundw
          case rel => exact ⟨i + 1, _, by omega, by first | (rw [hw]; done) | (rw [Int.natCast_add]; rfl), HO9, HB9, HGn⟩
          case measure => first | (rw [hw]; simp only [intOf]; omega) | (simp only [intOf]; omega)
    · obtain rfl : i = n := by omega
      obtain ⟨A6, c6, rfl, hc6, hr6⟩ := Kd.R_reads HRg.out
      have HR6 := Aside0.mk hr6
      have hgn : g.length = i := HGP.out.1
      have hpn : p ≤ i := by rw [HP.out]; unfold plainN; omega
      clear hr6
      rw [hgn] at hc6 ⊢
      go_wp2_with (fail)
      go_loopw [12] (fun v12 wr => ∃ j : Nat, p ≤ j ∧ j ≤ i ∧ v12 = .int .i64 j ∧ wr = X) (fun v12 _ => i + 1 - (intOf v12).toNat)
      case atStart => exact ⟨p, by omega, by omega, rfl, rfl⟩
      case round =>
        obtain ⟨j, hjp, hj, rfl, rfl⟩ := hrel
        rename World => X
        have hwj : wrap64 ((j : Int) + 1) = ((j + 1 : Nat) : Int) := by unfold wrap64; omega
        by_cases hlt : j < i
        · have hC6 := HR6.out
          obtain ⟨ad6, A3, c3, A4, c4, e6, hx0, hx1, hx2, hx3, hx4, hl3, hC3, hl4, hC4⟩ := P.at_T33 hC6 (j : Int) (by omega) (by omega)
          cases e6
          rw [Int.toNat_natCast] at hx0 hx4
          have hgj := rdG g j (by omega)
          obtain ⟨y, hy⟩ : ∃ y, y = P.rd_T33 g (j : Int) := ⟨_, rfl⟩
          rw [← hy] at hx0 hx4 hl4 hC4 hgj
          have HGj := Aside0.mk (HGP.out.2 j y hgj)
          have HC4 := Aside0.mk hC4
          have hm4 : y.f4.length ≤ 10 := HGj.out.few hp10
          clear hx1 hx2 hx3 hl3 hC3 hC4 hC6 hy hgj
          go_wp2_with (fail)
          go_loopw [13] (fun v13 wr => ∃ k : Nat, k ≤ y.f4.length ∧ v13 = .int .i64 k ∧ wr = X) (fun v13 _ => y.f4.length + 1 - (intOf v13).toNat)
          case atStart => exact ⟨0, by omega, rfl, rfl⟩
          case round =>
            obtain ⟨k, hk, rfl, rfl⟩ := hrel
            rename World => X
            by_cases hkl : k < y.f4.length
            · by_cases h8 : y.f0 = 8
              · have h8b : (y.f0 == 8) = true := by simp [h8]
                obtain ⟨ad4, e4, hz⟩ := Kd.at_int HC4.out (k : Int) (by omega) (by omega)
                cases e4
                rw [Int.toNat_natCast] at hz
                obtain ⟨z, hz'⟩ : ∃ z, z = rd y.f4 (k : Int) := ⟨_, rfl⟩
                have hzin := rd_in (HGj.out.eight h8).2 (k : Int) (by omega) (by omega)
                rw [← hz'] at hz hzin
                obtain ⟨z, rfl⟩ := Int.eq_ofNat_of_zero_le hzin.1
                have hzp : z < p := by omega
                obtain ⟨adz, B3, d3, B4, d4, ez, hw0, hrest⟩ := P.at_T33 HR6.out (z : Int) (by omega) (by omega)
                clear hrest
                cases ez
                rw [Int.toNat_natCast] at hw0
                have hgz := rdG g z (by omega)
                obtain ⟨q, hq⟩ : ∃ q, q = P.rd_T33 g (z : Int) := ⟨_, rfl⟩
                rw [← hq] at hw0 hgz
                have hq8 : (q.f0 == 8) = false := by
                  have : q.f0 ≠ 8 := fun e => by
                    have := ((HGP.out.2 z q hgz).eight e).1
                    omega
                  simp [this]
                have hwk : wrap64 ((k : Int) + 1) = ((k + 1 : Nat) : Int) := by unfold wrap64; omega
                have hzi : z < i := by omega
                clear hq hgz hzin hz' h8 hncc hc6 hl4 hzp hpn hjp hp10 hwj
                go_wp2_with (fail)
                go_roundw
                case rel => exact ⟨k + 1, by omega, by first | (rw [hwk]; done) | (rw [Int.natCast_add]; rfl), trivial⟩
                case measure => first | (rw [hwk]; simp only [intOf]; omega) | (simp only [intOf]; omega)
              · have h8b : (y.f0 == 8) = false := by simp [h8]
                clear h8
                go_wp2_with (fail)
                go_roundw
                case rel => exact ⟨j + 1, by omega, by omega, by first | (rw [hwj]; done) | (rw [Int.natCast_add]; rfl), trivial⟩
                case measure => first | (rw [hwj]; simp only [intOf]; omega) | (simp only [intOf]; omega)
            · go_wp2_with (fail)
              go_roundw
              case rel => exact ⟨j + 1, by omega, by omega, by first | (rw [hwj]; done) | (rw [Int.natCast_add]; rfl), trivial⟩
              case measure => first | (rw [hwj]; simp only [intOf]; omega) | (simp only [intOf]; omega)
        · go_wp2_with (fail)
          first | go_ret | go_ret2
          refine ⟨_, g, rfl, ?_, HBg.out, by rw [HGP.out.1]; exact HNl.out, ?_⟩
          · have := HRg.out
            rw [hgn] at this
            exact this
          · rw [HGP.out.1, ← HP.out]
            exact HGP.out.2
end Go.Proofs.YtgppcpghpeenhaaDoor.R6

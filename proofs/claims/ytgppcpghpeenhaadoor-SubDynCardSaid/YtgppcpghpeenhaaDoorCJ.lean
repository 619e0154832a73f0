/- canon.rank. UNFINISHED: does not build clean. -/
import Derived.Test.YtgppcpghpeenhaaDoorProg
import Derived.Test.YtgppcpghpeenhaaDoorWWords
import Derived.Test.YtgppcpghpeenhaaDoorWLast
import Derived.Test.YtgppcpghpeenhaaDoorCL
import Derived.Test.YtgppcpghpeenhaaDoorCP
namespace Go.Proofs.YtgppcpghpeenhaaDoor.CJ
open Go.RowKit Go.Proofs.YtgppcpghpeenhaaDoorW.PrintWords Go.Proofs.YtgppcpghpeenhaaDoorW.PrintLast Go.Proofs.YtgppcpghpeenhaaDoorW.PrintMore Go.Proofs.YtgppcpghpeenhaaDoor L1 L4 G1 G2 S3 S4 S5 S9 S11 N1 N2 N3 N4 N5 N6 CA CB CE CF CG CH CI CK CL CM CO CP N7
set_option linter.unusedVariables false
set_option linter.unusedSimpArgs false
theorem infoF : (Tryd.prog.info? 69).map (fun i => (i.zero, i.size, i.bytes)) = some (some (.agg #[.int .i64 0, .int .i64 0, .string ⟨#[]⟩, .slice none 0 0, .slice none 0 0, .int .i64 0, .slice none 0 0]), 7, 112) := by kernel_rfl
theorem zF_M (w0 w : World) (base : Nat) (ok : Nat → Prop) : (kF w0).M w base ok zFm [.int .i64 0, .int .i64 0, .string ⟨#[]⟩, .slice none 0 0, .slice none 0 0, .int .i64 0, .slice none 0 0] :=
  ⟨[.int .i64 0, .int .i64 0, .string ⟨#[]⟩, .slice none 0 0, .slice none 0 0], [.int .i64 0, .slice none 0 0], rfl, P.k33_mk w0 P.z33 (A3 := none) (c3 := 0) (Nat.le_refl _) (Kd.R_reads' (Kd.R_nil Kd.string 0 w0 0 (fun _ => True))).2.2 (A4 := none) (c4 := 0) (Nat.le_refl _) (Kd.R_reads' (Kd.R_nil (Kd.int .i64) 0 w0 0 (fun _ => True))).2.2, [.int .i64 0], [.slice none 0 0], rfl, rfl, ⟨_, rfl, Kd.R_nil _ _ _ _ _⟩⟩
theorem infoL : (Tryd.prog.info? 31).map (fun i => (i.zero, i.size, i.bytes)) = some (some (.slice none 0 0), 1, 24) := by kernel_rfl
theorem alloc_size (w : World) (o : Obj) : (w.alloc o).heap.size = w.heap.size + 1 := Array.size_push ..
theorem node_at {w : World} {A0 : Option Addr} {g : List GN} (h : Kd.C P.k33 w A0 g.length g) {a : Nat} (ha : a < g.length) : ∃ ad Ak ck Al cl, A0 = some ad ∧ w.cell? (ad.add (a * 5)) = some (.int .i64 (nd g a).f0) ∧ w.cell? ⟨(ad.add (a * 5)).block, (ad.add (a * 5)).off + 1, none⟩ = some (.int .i64 (nd g a).f1) ∧ w.cell? ⟨(ad.add (a * 5)).block, (ad.add (a * 5)).off + 2, none⟩ = some (.string (nd g a).f2) ∧ w.cell? ⟨(ad.add (a * 5)).block, (ad.add (a * 5)).off + 3, none⟩ = some (.slice Ak (nd g a).f3.length ck) ∧ w.cell? ⟨(ad.add (a * 5)).block, (ad.add (a * 5)).off + 4, none⟩ = some (.slice Al (nd g a).f4.length cl) ∧ (nd g a).f3.length ≤ ck ∧ Kd.C Kd.string w Ak (nd g a).f3.length (nd g a).f3 ∧ (nd g a).f4.length ≤ cl ∧ Kd.C (Kd.int .i64) w Al (nd g a).f4.length (nd g a).f4 := by
  obtain ⟨ad, A3, c3, A4, c4, eA, q0, q1, q2, q3, q4, l3, g3, l4, g4⟩ := P.at_T33 h (a : Int) (by omega) (by omega)
  rw [show P.rd_T33 g (a : Int) = nd g a from rfl] at q0 q1 q2 q3 q4 l3 g3 l4 g4
  rw [Int.toNat_natCast] at q0 q1 q2 q3 q4
  exact ⟨ad, A3, c3, A4, c4, eA, q0, q1, q2, q3, q4, l3, g3, l4, g4⟩
def cj14.T14 : Bool × List (List Nat × List Nat) := (true, [([], []), ([], []), ([], []), ([], []), ([2, 3], [2, 3]), ([4], [4]), ([], []), ([], []), ([6, 7], [6, 7]), ([8], [8]), ([5, 9], [5, 9]), ([0, 1, 0, 1, 2, 3, 4, 5, 6, 7, 8, 9, 10], [0, 1]), ([11, 10, 0, 1, 2, 3, 4, 5, 6, 7, 8, 9, 10], [10, 11])])
def cj14.B14 : List Nat := [0, 0, 0, 0, 12, 28, 0, 0, 192, 448, 1020, 2047, 4095]
theorem cj14.tab14 : rtab .any (opsOf Tryd.f16 14) = cj14.T14 := by kernel_rfl
theorem cj14.bits14 : waitsOk cj14.T14.2 cj14.B14 = true := by kernel_rfl
def cj18.T18 : Bool × List (List Nat × List Nat) := (true, [([], []), ([], []), ([], []), ([], []), ([2, 3], [2, 3]), ([4], [4]), ([5], [5]), ([], []), ([], []), ([], []), ([7, 8, 9], [7, 8, 9]), ([10], [10]), ([6, 11, 10], [6, 11]), ([0, 1, 0, 1, 2, 3, 4, 5, 6, 7, 8, 9, 10, 11, 12], [0, 1]), ([13, 0, 1, 2, 3, 4, 5, 6, 7, 8, 9, 10, 11, 12], [13]), ([14, 12, 12, 0, 1, 2, 3, 4, 5, 6, 7, 8, 9, 10, 11, 12], [12, 14])])
def cj18.B18 : List Nat := [0, 0, 0, 0, 12, 28, 60, 0, 0, 0, 896, 1920, 4092, 8191, 16383, 32767]
theorem cj18.tab18 : rtab .any (opsOf Tryd.f16 18) = cj18.T18 := by kernel_rfl
theorem cj18.bits18 : waitsOk cj18.T18.2 cj18.B18 = true := by kernel_rfl
def cj26.T26 : Bool × List (List Nat × List Nat) := (true, [([], []), ([0], [0]), ([1], [1]), ([2], [2]), ([2], [2]), ([2], [2]), ([5, 2], [2, 5]), ([4, 6, 2], [2, 4, 6]), ([7, 2], [2, 7]), ([3, 8, 2], [2, 3, 8]), ([9, 2], [2, 9]), ([2], [2]), ([2], [2]), ([11, 12, 2], [2, 11, 12]), ([13, 2], [2, 13]), ([10, 14, 2, 2], [2, 10, 14]), ([15, 2], [2, 15]), ([2, 16], [2, 16])])
def cj26.B26 : List Nat := [0, 1, 3, 7, 7, 7, 39, 119, 247, 511, 1023, 7, 7, 6151, 14343, 32767, 65535, 131071]
theorem cj26.tab26 : rtab .any (opsOf Tryd.f16 26) = cj26.T26 := by kernel_rfl
theorem cj26.bits26 : waitsOk cj26.T26.2 cj26.B26 = true := by kernel_rfl
set_option maxHeartbeats 8000000 in
set_option maxRecDepth 100000 in
theorem rank_calls (A0 : Option Addr) (c0 : Nat) (g : List GN) (w : World) (hg : Kd.C P.k33 w A0 g.length g) (hgc : g.length ≤ c0) (hc : checkP g = 0) (h12 : ∀ x ∈ g, x.f0 = 8 → x.f4.length ≤ 12) (h19 : g.length ≤ 19) :
    Calls Tryd.prog 16 #[.slice A0 g.length c0] w (RankP g w) := by
  have HG := Aside0.mk hg
  have HCk := Aside0.mk hc
  have H12 := Aside0.mk h12
  have H19 := Aside0.mk h19
  have HAr : Aside0 (((g.length : Int)).toNat * 8 ≤ 281474976710656) := ⟨by omega⟩
  clear hg hc h12 h19
  go_enter Tryd.func16, Tryd.ntmps16
  go_wp2_with (first | (at_make; refine Kd.R_make (Kd.int .i64) (w0 := w) w.heap.size 3 rfl rfl 31 (.tmp 18) (.tmp 18) rfl (g.length : Int) rfl rfl Tryd.underlying31 (.int .i64 0) 8 CA.info3 rfl (by decide) (by decide) 0 (ok := fun _ => True) (okp := fun _ => False) rfl (fun _ h => h.elim) trivial (by omega) HAr.out (Below.refl _ _) (Nat.le_refl _) ?_; intro v3 V ho3 hb3 hg3 hat3))
  have HO3 := Aside0.mk ho3
  have HB3 := Aside0.mk hb3
  have HGV := Aside0.mk (Kd.C_below HG.out hb3)
  clear ho3 hb3 hg3 hat3
  go_wp2_with (fail)
  go_loopw [4, 22] (fun v4 v22 wr => ∃ i : Nat, i ≤ g.length ∧ v22 = .int .i64 i ∧ Aside0 (Kd.R (Kd.int .i64) 3 wr V.heap.size (fun _ => True) v4 (plainTo g i)) ∧ Aside0 (Below V.heap.size V wr)) (fun v4 v22 _ => g.length + 1 - (intOf v22).toNat)
  case atStart => exact ⟨0, by omega, rfl, ⟨Kd.R_nil _ _ _ _ _⟩, ⟨Below.refl _ _⟩⟩
  case round =>
    obtain ⟨i, hi, rfl, HRo, HBo⟩ := hrel
    rename World => X
    have hw : wrap64 ((i : Int) + 1) = ((i + 1 : Nat) : Int) := by have := H19.out; unfold wrap64; omega
    by_cases hlt : i < g.length
    · obtain ⟨ad, Ak, ck, Al, cl, eA, hq0, hq1, hq2, hq3, hq4, _, _, _, _⟩ := node_at (Kd.C_below HGV.out HBo.out) hlt
      subst eA
      obtain ⟨x, hx⟩ : ∃ x, x = nd g (i : Int) := ⟨_, rfl⟩
      rw [← hx] at hq0 hq1 hq2 hq3 hq4
      have HX := Aside0.mk hx
      have e1 : ((i : Int) < (g.length : Int)) = True := eq_true (by omega)
      clear hx
      have HPl := Aside0.mk (plainTo_succ g i)
      by_cases h8 : x.f0 = 8
      · have e2 : (x.f0 != 8) = false := by simpa using h8
        rw [← HX.out, if_neg (by simpa using h8)] at HPl
        go_wp2_with (fail)
        go_roundw
        case rel => exact ⟨i + 1, by omega, by first | (rw [hw]; done) | (rw [Int.natCast_add]; rfl), ⟨by rw [HPl.out]; exact Kd.R_alloc HRo.out _⟩, ⟨below_alloc HBo.out _⟩⟩
        case measure => first | (rw [hw]; simp only [intOf]; omega) | (simp only [intOf]; omega)
      · have e2 : (x.f0 != 8) = true := by simpa using h8
        rw [← HX.out, if_pos (by simpa using h8)] at HPl
        have HAL : Aside0 (((plainTo g i).length + 1) * 8 ≤ 140737488355328) := ⟨by
          have := plainTo_len g i
          have := H19.out
          omega⟩
        obtain ⟨bx, hbx⟩ : ∃ bx, bx = Obj.cells #[.int .i64 x.f0, .int .i64 x.f1, .string x.f2, .slice Ak x.f3.length ck, .slice Al x.f4.length cl] 33 := ⟨_, rfl⟩
        go_wp2_with (first | ((with_reducible refine gate_builtin (b := .append) (xs := #[.tmp 30, .tmp 32]) rfl ?_); at_builtin; refine Kd.R_append (Kd.int .i64) (w0 := V) V.heap.size rfl (.tmp 30) (.tmp 32) 31 3 (.int .i64 0) 8 rfl Tryd.underlying31 CA.info3 rfl (by decide) (by omega) u4 _ (i : Int) [.int .i64 (i : Int)] (fun _ => True) (fun _ => False) rfl (by rw [alloc_size]; rfl) rfl (fun _ hk => hk.elim) (fun _ _ => trivial) (Kd.R_alloc HRo.out _) (below_alloc HBo.out _) (below_alloc HBo.out _).size HAL.out ?_; intro v9 W9 ho hb hg9 hat9))
        have HO := Aside0.mk (show Kd.R (Kd.int .i64) 3 W9 V.heap.size (fun _ => True) v9 (plainTo g (i + 1)) by
          rw [HPl.out]
          exact ho)
        have HB9 := Aside0.mk hb
        clear ho hb hg9 hat9
        go_wp2_with (fail)
        go_roundw
        case rel => exact ⟨i + 1, by omega, by first | (rw [hw]; done) | (rw [Int.natCast_add]; rfl), HO, HB9⟩
        case measure => first | (rw [hw]; simp only [intOf]; omega) | (simp only [intOf]; omega)
    · obtain rfl : i = g.length := by omega
      go_wp2_with (fail)
      have HR3 := Aside0.mk (Kd.R_below HO3.out HBo.out)
      have HBX := Aside0.mk (below_then HB3.out HB3.out.size HBo.out)
      have hsep : ∀ k, u4.ownBlock = some k → some k ≠ v3.ownBlock := fun k hk e => by
        have h1 := Kd.R_base HRo.out k hk
        have h2 := Kd.R_lt HO3.out k e.symm
        omega
      have HR3s := Aside0.mk (show Kd.R (Kd.int .i64) 3 X w.heap.size (fun k => some k ≠ u4.ownBlock) v3 (List.replicate (g.length : Int).toNat 0) from Kd.R_reok rfl HR3.out (fun k hk e => hsep k e.symm hk.symm))
      have HPl := Aside0.mk (show Kd.R (Kd.int .i64) 3 X w.heap.size (fun _ => True) u4 (plainTo g g.length) from Kd.R_lower HRo.out HB3.out.size)
      clear HR3 HRo HBo hsep HO3
      obtain ⟨A4, c4, rfl⟩ := Kd.R_slice HPl.out
      obtain ⟨np, hnp⟩ : ∃ np, np = (plainTo g g.length).length := ⟨_, rfl⟩
      rw [← hnp] at HR3s HPl ⊢
      have HNp := Aside0.mk hnp
      clear hnp
      go_loopw [3, 7] (fun v3 v7 wr => ∃ (many : Nat) (rs pl : List Int), v7 = .int .i64 many ∧ Aside0 (Kd.R (Kd.int .i64) 3 wr w.heap.size (fun k => some k ≠ (Value.slice A4 np c4).ownBlock) v3 rs) ∧ Aside0 (Kd.R (Kd.int .i64) 3 wr w.heap.size (fun _ => True) (.slice A4 np c4) pl) ∧ Aside0 (Below w.heap.size w wr) ∧ Aside0 (rs.length = g.length) ∧ Aside0 (pl.Perm (plainTo g g.length)) ∧ Aside0 (Rnk g (rd rs) many) ∧ Aside0 (many ≤ g.length)) (fun v3 v7 _ => g.length + 1 - (intOf v7).toNat)
      case atStart => exact ⟨0, _, _, rfl, HR3s, HPl, HBX, ⟨by simp⟩, ⟨List.Perm.refl _⟩, ⟨Rnk.zero g _ (fun a _ => by
        unfold rd
        rw [List.getD_eq_getElem?_getD, List.getElem?_replicate]
        split <;> rfl)⟩, ⟨by omega⟩⟩
      case round =>
        clear HR3s HPl HBX
        obtain ⟨many, rs, pl, rfl, HRs, HP, HB, HRl, HPp, HRn, HMy⟩ := hrel
        rename World => Y
        have HAf : Aside0 (((g.length : Int)).toNat * 112 ≤ 281474976710656) := ⟨by have := H19.out; omega⟩
        go_wp2_with (first | (at_make; refine Kd.R_make (kF w) (w0 := Y) Y.heap.size 69 rfl rfl 66 (.tmp 36) (.tmp 36) rfl (g.length : Int) rfl rfl Tryd.underlying66 (.agg #[.int .i64 0, .int .i64 0, .string ⟨#[]⟩, .slice none 0 0, .slice none 0 0, .int .i64 0, .slice none 0 0]) 112 infoF rfl (show 0 < 7 by decide) (by decide) zFm (ok := fun _ => True) (okp := fun _ => False) (zF_M w Y _ _) (fun _ h => h.elim) trivial (by omega) HAf.out (Below.refl _ _) (Nat.le_refl _) ?_; intro vf Z hof hbf hgf hatf; obtain ⟨Af, cf, rfl⟩ := Kd.R_slice hof; (have hlf : (List.replicate ((g.length : Int)).toNat zFm).length = g.length := by simp); rw [hlf] at hof hatf ⊢))
        obtain ⟨bF, hgF, hgF2⟩ := hatf
        obtain ⟨aF, rfl⟩ : ∃ a, Af = some a := by
          cases Af with
          | none => simp [Value.ownBlock] at hgF
          | some a => exact ⟨a, rfl⟩
        obtain ⟨gF, rfl⟩ := Kd.R_head hof
        have hg0 : Y.heap.size ≤ gF := by
          have : gF = bF := by simpa [Value.ownBlock] using hgF
          omega
        have hgZ : gF < Z.heap.size := Kd.R_lt hof gF rfl
        have zbX : (Z.alloc (.cells #[.slice (some ⟨gF, 0, none⟩) g.length cf] 66)).cell? ⟨Z.heap.size, 0, none⟩ = some (.slice (some ⟨gF, 0, none⟩) g.length cf) := blk_cell (blk_new _ _) 0
        have hXs : (Z.alloc (.cells #[.slice (some ⟨gF, 0, none⟩) g.length cf] 66)).heap.size = Z.heap.size + 1 := alloc_size _ _
        have HFX := Aside0.mk (Kd.R_alloc hof (.cells #[.slice (some ⟨gF, 0, none⟩) g.length cf] 66))
        have hYX := below_alloc hbf (.cells #[.slice (some ⟨gF, 0, none⟩) g.length cf] 66)
        clear hof hbf hgf hgF hgF2
        go_wp2_with (fail)
        generalize Z.alloc (.cells #[.slice (some ⟨gF, 0, none⟩) g.length cf] 66) = X at zbX hXs HFX hYX ⊢
        generalize Z.heap.size = fb at zbX hXs hgZ ⊢
        have hgX : gF < X.heap.size := by omega
        have hfX : fb < X.heap.size := by omega
        have hRsY : Kd.R (Kd.int .i64) 3 X w.heap.size (fun k => (some k ≠ (Value.slice A4 np c4).ownBlock) ∧ k < Y.heap.size) u3 rs := Kd.R_mono (Kd.R_below (Kd.R_bound HRs.out) hYX) (fun k hk => ⟨hk.1, hk.2.2.1⟩)
        have hPY : Kd.R (Kd.int .i64) 3 X w.heap.size (fun k => k < Y.heap.size) (.slice A4 np c4) pl := Kd.R_mono (Kd.R_below (Kd.R_bound HP.out) hYX) (fun k hk => hk.2.2.1)
        obtain ⟨Ar, cr, rfl⟩ := Kd.R_slice hRsY
        have hcr := (Kd.R_reads' hRsY).2.1
        have hnP : np = pl.length := (Kd.R_reads' hPY).1
        have HNP := Aside0.mk hnP
        have HRk := Aside0.mk (fun (W' : World) (hk : Kept X W' (fun k => k = gF)) => Kd.C_kept_own hRsY (S := fun k => k = gF) (fun k hk e => by have := hk.2; omega) W' hk)
        have HPk := Aside0.mk (fun (W' : World) (hk : Kept X W' (fun k => k = gF)) => Kd.C_kept_own hPY (S := fun k => k = gF) (fun k hk e => by omega) W' hk)
        have HPX := Aside0.mk hPY
        have HBX := Aside0.mk (below_then HB.out HB.out.size hYX)
        have HFS := Aside0.mk (Fill.start (r := rd rs) (g := g) (pl := pl) (n := g.length) (by have h := HFX.out; rw [show ((g.length : Int)).toNat = g.length by omega] at h; exact h))
        have HZB := Aside0.mk zbX
        have hfb : fb ≠ gF := by omega
        clear hRsY hPY zbX HFX hYX hnP hlf
        go_loopw [40] (fun v40 wr => ∃ i : Nat, i ≤ np ∧ v40 = .int .i64 i ∧ Aside0 (Fill w X wr gF cf g.length Y.heap.size g (rd rs) pl i) ∧ Aside0 (Below w.heap.size w wr)) (fun v40 _ => np + 1 - (intOf v40).toNat)
        case atStart => exact ⟨0, by omega, rfl, HFS, HBX⟩
        case round =>
          clear HFS
          obtain ⟨i, hi, rfl, HFi, HBi⟩ := hrel
          rename World => U
          have hw : wrap64 ((i : Int) + 1) = ((i + 1 : Nat) : Int) := by
            have h1 := H19.out
            have h2 := HNP.out
            have h3 := HPp.out.length_eq
            have h4 := plainTo_len g g.length
            unfold wrap64
            omega
          by_cases hlt : i < np
          · have hCp := HPk.out U HFi.out.kep
            rw [HNP.out] at hCp
            have hiP : i < pl.length := by rw [← HNP.out]; exact hlt
            obtain ⟨adp, eP, hp0⟩ := ints_at hCp hiP
            subst eP
            have hmem : pl.getD i 0 ∈ plainTo g g.length := HPp.out.mem_iff.1 (getD_mem hiP 0)
            have hPl := (plain_iff g _).2 hmem
            obtain ⟨an, hA⟩ := Int.eq_ofNat_of_zero_le hPl.lo
            rw [hA] at hp0 hPl
            have HPl := Aside0.mk hPl
            have HA := Aside0.mk hA
            have han : an < g.length := Int.ofNat_lt.1 hPl.hi
            obtain ⟨ad, Ak, ck, Al, cl, eA, n0, n1, n2, n3, n4, l3, g3, l4, g4⟩ := node_at HG.out han
            subst eA
            have hanr : an < rs.length := by rw [HRl.out]; exact han
            have hCr := HRk.out U HFi.out.kep
            obtain ⟨adr, eR, hr0⟩ := ints_at hCr hanr
            subst eR
            have HNK := Aside0.mk (P.k33_mk w (nd g (an : Int)) l3 g3 l4 g4)
            obtain ⟨x, hx⟩ : ∃ x, x = nd g (an : Int) := ⟨_, rfl⟩
            rw [← hx] at n0 n1 n2 n3 n4 HNK g4
            have HX := Aside0.mk hx
            have HN4 := Aside0.mk n4
            have HG4 := Aside0.mk g4
            have zb := drew_cell (cell_kept HZB.out HFi.out.kep hfb)
            have z0 := drew_cell (pw_cell_below HBi.out n0)
            have z1 := drew_cell (pw_cell_below HBi.out n1)
            have z2 := drew_cell (pw_cell_below HBi.out n2)
            have z3 := drew_cell (pw_cell_below HBi.out n3)
            have z4 := drew_cell (pw_cell_below HBi.out n4)
            have zr : U.drew.cell? (adr.add an) = some (.int .i64 (rd rs (an : Int))) := drew_cell hr0
            have HFd := Aside0.mk HFi.out.drew
            have HBd := Aside0.mk (below_drew HBi.out)
            obtain ⟨cur, hcur, hcs⟩ := HFd.out.block
            have HSt := Aside0.mk (store7_ hcur (show an * 7 + 7 ≤ cur.size by omega) (.int .i64 x.f0) (.int .i64 x.f1) (.string x.f2) (.slice Ak x.f3.length ck) (.slice Al x.f4.length cl) (.int .i64 (rd rs (an : Int))) (.slice none 0 0))
            have e1 : ((an : Int) < (g.length : Int)) = True := eq_true hPl.hi
            have e2 : ((an : Int) < (rs.length : Int)) = True := eq_true (Int.ofNat_lt.2 hanr)
            have e3 : ((i : Int) < (np : Int)) = True := eq_true (Int.ofNat_lt.2 hlt)
            clear hCp hmem hPl hA l3 g3 l4 g4 hx hCr n0 n1 n2 n3 n4 hcur hcs HFi HBi hr0
            go_wp2_with (fail)
            refine start_ (n := 13) (S := fun w' => w'.cell? ⟨fb, 0, none⟩ = some (.slice (some ⟨gF, 0, none⟩) g.length cf) ∧ w'.cell? (ad.add (an * 5)) = some (.int .i64 x.f0) ∧ w'.cell? ⟨(ad.add (an * 5)).block, (ad.add (an * 5)).off + 1, none⟩ = some (.int .i64 x.f1) ∧ w'.cell? ⟨(ad.add (an * 5)).block, (ad.add (an * 5)).off + 2, none⟩ = some (.string x.f2) ∧ w'.cell? ⟨(ad.add (an * 5)).block, (ad.add (an * 5)).off + 3, none⟩ = some (.slice Ak x.f3.length ck) ∧ w'.cell? ⟨(ad.add (an * 5)).block, (ad.add (an * 5)).off + 4, none⟩ = some (.slice Al x.f4.length cl) ∧ w'.cell? (adr.add an) = some (.int .i64 (rd rs (an : Int)))) (ds := [12]) #[φ,φ,φ,φ,φ,φ,φ,φ,φ,φ,φ,φ,φ] (by kernel_rfl) rfl rfl ⟨drew_cell zb, drew_cell z0, drew_cell z1, drew_cell z2, drew_cell z3, drew_cell z4, drew_cell zr⟩ (fun hHeld => ?_)
            generalize U.drew = U1 at zb z0 z1 z2 z3 z4 zr HFd HBd HSt hHeld ⊢
            refine with_tabW cj14.tab14 cj14.bits14 (fun HT_ HW_ => ?_)
            refine pure_ (i := 1) (N := some 45) (v := ?_) (a' := ?_) #[φ,τ,φ,φ,φ,φ,φ,φ,φ,φ,φ,φ,φ] rfl rfl (any_of HT_.out (by kernel_rfl)) (fun _ _ _ h => h) (Or.inl ⟨by rfl, ?_⟩) ?_ ?_
            rotate_left; (intro w'; go_simp; with_reducible rfl); rotate_left; (simp only [Act.put, zz1, zz2, zz3, i64_w, i32_w]; rfl)
            refine pure_ (i := 2) (N := some 46) (v := ?_) (a' := ?_) #[φ,τ,τ,φ,φ,φ,φ,φ,φ,φ,φ,φ,φ] rfl rfl (any_of HT_.out (by kernel_rfl)) (fun _ _ _ h => h) (Or.inl ⟨by rfl, ?_⟩) ?_ ?_
            rotate_left; (intro w'; go_simp; with_reducible rfl); rotate_left; (simp only [Act.put, zz1, zz2, zz3, i64_w, i32_w]; rfl)
            refine pure_ (i := 3) (N := some 47) (v := ?_) (a' := ?_) #[φ,τ,τ,τ,φ,φ,φ,φ,φ,φ,φ,φ,φ] rfl rfl (any_of HT_.out (by kernel_rfl)) (fun _ _ _ h => h) (Or.inl ⟨by rfl, ?_⟩) ?_ ?_
            rotate_left; (intro w'; go_simp; with_reducible rfl); rotate_left; (simp only [Act.put, zz1, zz2, zz3, i64_w, i32_w]; rfl)
            refine pure_ (i := 4) (N := some 48) (v := ?_) (a' := ?_) #[φ,τ,τ,τ,τ,φ,φ,φ,φ,φ,φ,φ,φ] rfl rfl (any_of HT_.out (by kernel_rfl)) (fun _ _ _ h => h) (Or.inl ⟨by rfl, ?_⟩) ?_ ?_
            rotate_left; (intro w'; go_simp; with_reducible rfl); rotate_left; (simp only [Act.put, zz1, zz2, zz3, i64_w, i32_w]; rfl)
            refine pure_ (i := 6) (N := some 50) (v := ?_) (a' := ?_) #[φ,τ,τ,τ,τ,φ,τ,φ,φ,φ,φ,φ,φ] rfl rfl (any_of HT_.out (by kernel_rfl)) (fun _ _ _ h => h) (Or.inl ⟨by rfl, ?_⟩) ?_ ?_
            rotate_left; (intro w'; go_simp; with_reducible rfl); rotate_left; (simp only [Act.put, zz1, zz2, zz3, i64_w, i32_w]; rfl)
            refine pure_ (i := 7) (N := some 51) (v := ?_) (a' := ?_) #[φ,τ,τ,τ,τ,φ,τ,τ,φ,φ,φ,φ,φ] rfl rfl (any_of HT_.out (by kernel_rfl)) (fun _ _ _ h => h) (Or.inl ⟨by rfl, ?_⟩) ?_ ?_
            rotate_left; (intro w'; go_simp; with_reducible rfl); rotate_left; (simp only [Act.put, zz1, zz2, zz3, i64_w, i32_w]; rfl)
            refine pure_ (i := 8) (N := some 52) (v := ?_) (a' := ?_) #[φ,τ,τ,τ,τ,φ,τ,τ,τ,φ,φ,φ,φ] rfl rfl (any_of HT_.out (by kernel_rfl)) (fun _ _ _ h => h) (Or.inl ⟨by rfl, ?_⟩) ?_ ?_
            rotate_left; (intro w'; go_simp; with_reducible rfl); rotate_left; (simp only [Act.put, zz1, zz2, zz3, i64_w, i32_w]; rfl)
            refine take_ (i := 0) (N := some 44) (v := ?_) (a' := ?_) #[τ,τ,τ,τ,τ,φ,τ,τ,τ,φ,φ,φ,φ] rfl rfl (take_ofW HT_.out HW_.out (by kernel_rfl)) (fun _ _ _ h => h) (Or.inl ⟨by rfl, ?_⟩) hHeld ?_ ?_
            rotate_left; (rintro w' ⟨s0, s1, s2, s3, s4, s5, s6⟩; go_simp; with_reducible rfl); rotate_left; (simp only [Act.put, zz1, zz2, zz3, i64_w, i32_w]; rfl)
            refine take_ (i := 5) (N := some 49) (v := ?_) (a' := ?_) #[τ,τ,τ,τ,τ,τ,τ,τ,τ,φ,φ,φ,φ] rfl rfl (take_ofW HT_.out HW_.out (by kernel_rfl)) (fun _ _ _ h => h) (Or.inl ⟨by rfl, ?_⟩) hHeld ?_ ?_
            rotate_left; (rintro w' ⟨s0, s1, s2, s3, s4, s5, s6⟩; go_simp; with_reducible rfl); rotate_left; (simp only [Act.put, zz1, zz2, zz3, i64_w, i32_w]; rfl)
            refine take_ (i := 9) (N := some 53) (v := ?_) (a' := ?_) #[τ,τ,τ,τ,τ,τ,τ,τ,τ,τ,φ,φ,φ] rfl rfl (take_ofW HT_.out HW_.out (by kernel_rfl)) (fun _ _ _ h => h) (Or.inl ⟨by rfl, ?_⟩) hHeld ?_ ?_
            rotate_left; (rintro w' ⟨s0, s1, s2, s3, s4, s5, s6⟩; go_simp; with_reducible rfl); rotate_left; (simp only [Act.put, zz1, zz2, zz3, i64_w, i32_w]; rfl)
            refine pure_ (i := 10) (N := some 54) (v := ?_) (a' := ?_) #[τ,τ,τ,τ,τ,τ,τ,τ,τ,τ,τ,φ,φ] rfl rfl (any_of HT_.out (by kernel_rfl)) (fun _ _ _ h => h) (Or.inl ⟨by rfl, ?_⟩) ?_ ?_
            rotate_left; (intro w'; go_simp; with_reducible rfl); rotate_left; (simp only [Act.put, zz1, zz2, zz3, i64_w, i32_w]; rfl)
            refine pure_ (i := 11) (N := some 55) (v := ?_) (a' := ?_) #[τ,τ,τ,τ,τ,τ,τ,τ,τ,τ,τ,τ,φ] rfl rfl (any_of HT_.out (by kernel_rfl)) (fun _ _ _ h => h) (Or.inl ⟨by rfl, ?_⟩) ?_ ?_
            rotate_left; (intro w'; go_simp; with_reducible rfl); rotate_left; (simp only [Act.put, zz1, zz2, zz3, i64_w, i32_w]; rfl)
            refine last_ (i := 12) (N := none) #[τ,τ,τ,τ,τ,τ,τ,τ,τ,τ,τ,τ,τ] rfl rfl (one_of HT_.out (by kernel_rfl)) (by decide) (fun K hK => ?_)
            obtain ⟨s0, s1, s2, s3, s4, s5, s6, t0, u0, t1, u1, t2, u2, t3, u3, t4, u4, t5, u5, t6, u6⟩ := HSt.out
            refine skip_ (w1 := ?_) (by rfl) rfl ?_ ?_
            rotate_left
            · go_simp
              rfl
            refine hK.out _ _ ?_
            clear hK K
            refine done_ (done_of HT_.out (by kernel_rfl)) ?_
            obtain ⟨Wi, hWi, hGr, hb3⟩ := Fill.fresh7 HFd.out hgX han x Ak ck Al cl (rd rs (an : Int)) HBd.out (Nat.le_trans HB.out.size hg0)
            rw [← hWi]
            have HGr := Aside0.mk hGr
            have HB3 := Aside0.mk hb3
            clear hGr hb3 hWi
            have z5 := pw_cell_below HB3.out HN4.out
            clear zb z0 z1 z2 z3 z4 zr e2 e3 HFd HBd
            go_wp2_with (fail)
            go_loopw [62] (fun v62 wr => ∃ (j : Nat) (v : Value) (ss : List (List Int)), j ≤ x.f4.length ∧ v62 = .int .i64 j ∧ Aside0 (Grow w X Wi wr gF cf g.length Y.heap.size g (rd rs) pl i an [.int .i64 x.f0, .int .i64 x.f1, .string x.f2, .slice Ak x.f3.length ck, .slice Al x.f4.length cl, .int .i64 (rd rs (an : Int))] v ss) ∧ Aside0 (FmPart g (rd rs) (an : Int) j ⟨nd g (an : Int), rd rs (an : Int), ss⟩) ∧ Aside0 (Below w.heap.size w wr)) (fun v62 _ => x.f4.length + 1 - (intOf v62).toNat)
            case atStart => exact ⟨0, _, _, Nat.zero_le _, rfl, HGr, ⟨FmPart.start g (rd rs) (an : Int)⟩, HB3⟩
            case round =>
              clear HGr HB3 z5
              obtain ⟨j, v, ss, hj, rfl, HGj, HFp, HBj⟩ := hrel
              rename World => wr
              by_cases hlj : j < x.f4.length
              · have hwj : wrap64 ((j : Int) + 1) = ((j + 1 : Nat) : Int) := by
                  have h1 := members_small HCk.out (nd g (an : Int)) (nd_mem HPl.out.lo HPl.out.hi)
                  rw [← HX.out] at h1
                  exact wr1 hlj h1
                have yb := cell_kept HZB.out HGj.out.kx hfb
                have yv := HGj.out.cell.1
                obtain ⟨adl, eL, hk0⟩ := ints_at (Kd.C_below HG4.out HBj.out) hlj
                subst eL
                have hki := kid_in HCk.out HPl.out (show j < (nd g (an : Int)).f4.length by rw [← HX.out]; exact hlj)
                have hke : rd (nd g (an : Int)).f4 (j : Int) = x.f4.getD j 0 := by rw [← HX.out]; rfl
                rw [hke] at hki
                obtain ⟨k, hk⟩ : ∃ k, k = x.f4.getD j 0 := ⟨_, rfl⟩
                rw [← hk] at hk0 hki hke
                have HKe := Aside0.mk hke
                have HSet := Aside0.mk (set_calls (some ad) (some adr) c0 cr g rs k wr.drew (Kd.C_below HG.out (below_drew HBj.out)) hgc (members_small HCk.out) (Kd.C_drew (HRk.out wr HGj.out.kx)) hcr (fun y hy => ⟨(members_pl HCk.out hki.1 hki.2 hy).lo, by rw [HRl.out]; exact (members_pl HCk.out hki.1 hki.2 hy).hi⟩) (members_len H12.out k))
                have HAL : Aside0 ((ss.length + 1) * 24 ≤ 140737488355328) := ⟨by
                  have h1 := members_small HCk.out (nd g (an : Int)) (nd_mem HPl.out.lo HPl.out.hi)
                  rw [← HX.out] at h1
                  exact hal24 HFp.out.len (Nat.le_trans hj h1)⟩
                have HML := Aside0.mk (members_len H12.out k)
                have e4 : ((j : Int) < (x.f4.length : Int)) = True := eq_true (Int.ofNat_lt.2 hlj)
                clear hki hke hk
                go_wp2_with (fail)
                refine start_ (n := 16) (S := fun w' => w'.cell? ⟨fb, 0, none⟩ = some (.slice (some ⟨gF, 0, none⟩) g.length cf) ∧ w'.cell? ⟨gF, an * 7 + 6, none⟩ = some v) (ds := [15]) #[φ,φ,φ,φ,φ,φ,φ,φ,φ,φ,φ,φ,φ,φ,φ,φ] (by kernel_rfl) rfl rfl ⟨drew_cell yb, drew_cell yv⟩ (fun hHeld => ?_)
                refine with_tabW cj18.tab18 cj18.bits18 (fun HT_ HW_ => ?_)
                refine pure_ (i := 1) (N := some 67) (v := ?_) (a' := ?_) #[φ,τ,φ,φ,φ,φ,φ,φ,φ,φ,φ,φ,φ,φ,φ,φ] rfl rfl (any_of HT_.out (by kernel_rfl)) (fun _ _ _ h => h) (Or.inl ⟨by rfl, ?_⟩) ?_ ?_
                rotate_left; (intro w'; go_simp; with_reducible rfl); rotate_left; (simp only [Act.put, zz1, zz2, zz3, i64_w, i32_w]; rfl)
                refine pure_ (i := 3) (N := some 69) (v := ?_) (a' := ?_) #[φ,τ,φ,τ,φ,φ,φ,φ,φ,φ,φ,φ,φ,φ,φ,φ] rfl rfl (any_of HT_.out (by kernel_rfl)) (fun _ _ _ h => h) (Or.inl ⟨by rfl, ?_⟩) ?_ ?_
                rotate_left; (intro w'; go_simp; with_reducible rfl); rotate_left; (simp only [Act.put, zz1, zz2, zz3, i64_w, i32_w]; rfl)
                refine pure_ (i := 7) (N := some 73) (v := ?_) (a' := ?_) #[φ,τ,φ,τ,φ,φ,φ,τ,φ,φ,φ,φ,φ,φ,φ,φ] rfl rfl (any_of HT_.out (by kernel_rfl)) (fun _ _ _ h => h) (Or.inl ⟨by rfl, ?_⟩) ?_ ?_
                rotate_left; (intro w'; go_simp; with_reducible rfl); rotate_left; (simp only [Act.put, zz1, zz2, zz3, i64_w, i32_w]; rfl)
                refine pure_ (i := 8) (N := some 74) (v := ?_) (a' := ?_) #[φ,τ,φ,τ,φ,φ,φ,τ,τ,φ,φ,φ,φ,φ,φ,φ] rfl rfl (any_of HT_.out (by kernel_rfl)) (fun _ _ _ h => h) (Or.inl ⟨by rfl, ?_⟩) ?_ ?_
                rotate_left; (intro w'; go_simp; with_reducible rfl); rotate_left; (simp only [Act.put, zz1, zz2, zz3, i64_w, i32_w]; rfl)
                refine pure_ (i := 9) (N := some 75) (v := ?_) (a' := ?_) #[φ,τ,φ,τ,φ,φ,φ,τ,τ,τ,φ,φ,φ,φ,φ,φ] rfl rfl (any_of HT_.out (by kernel_rfl)) (fun _ _ _ h => h) (Or.inl ⟨by rfl, ?_⟩) ?_ ?_
                rotate_left; (intro w'; go_simp; with_reducible rfl); rotate_left; (simp only [Act.put, zz1, zz2, zz3, i64_w, i32_w]; rfl)
                refine take_ (i := 0) (N := some 66) (v := ?_) (a' := ?_) #[τ,τ,φ,τ,φ,φ,φ,τ,τ,τ,φ,φ,φ,φ,φ,φ] rfl rfl (take_ofW HT_.out HW_.out (by kernel_rfl)) (fun _ _ _ h => h) (Or.inl ⟨by rfl, ?_⟩) hHeld ?_ ?_
                rotate_left; (rintro w' ⟨s0, s1⟩; go_simp; with_reducible rfl); rotate_left; (simp only [Act.put, zz1, zz2, zz3, i64_w, i32_w]; rfl)
                refine take_ (i := 2) (N := some 68) (v := ?_) (a' := ?_) #[τ,τ,τ,τ,φ,φ,φ,τ,τ,τ,φ,φ,φ,φ,φ,φ] rfl rfl (take_ofW HT_.out HW_.out (by kernel_rfl)) (fun _ _ _ h => h) (Or.inl ⟨by rfl, ?_⟩) hHeld ?_ ?_
                rotate_left; (rintro w' ⟨s0, s1⟩; go_simp; with_reducible rfl); rotate_left; (simp only [Act.put, zz1, zz2, zz3, i64_w, i32_w]; rfl)
                refine pure_ (i := 4) (N := some 70) (v := ?_) (a' := ?_) #[τ,τ,τ,τ,τ,φ,φ,τ,τ,τ,φ,φ,φ,φ,φ,φ] rfl rfl (any_of HT_.out (by kernel_rfl)) (fun _ _ _ h => h) (Or.inl ⟨by rfl, ?_⟩) ?_ ?_
                rotate_left; (intro w'; go_simp; with_reducible rfl); rotate_left; (simp only [Act.put, zz1, zz2, zz3, i64_w, i32_w]; rfl)
                refine pure_ (i := 5) (N := some 71) (v := ?_) (a' := ?_) #[τ,τ,τ,τ,τ,τ,φ,τ,τ,τ,φ,φ,φ,φ,φ,φ] rfl rfl (any_of HT_.out (by kernel_rfl)) (fun _ _ _ h => h) (Or.inl ⟨by rfl, ?_⟩) ?_ ?_
                rotate_left; (intro w'; go_simp; with_reducible rfl); rotate_left; (simp only [Act.put, zz1, zz2, zz3, i64_w, i32_w]; rfl)
                refine take_ (i := 6) (N := some 72) (v := ?_) (a' := ?_) #[τ,τ,τ,τ,τ,τ,τ,τ,τ,τ,φ,φ,φ,φ,φ,φ] rfl rfl (take_ofW HT_.out HW_.out (by kernel_rfl)) (fun _ _ _ h => h) (Or.inl ⟨by rfl, ?_⟩) hHeld ?_ ?_
                rotate_left; (rintro w' ⟨s0, s1⟩; go_simp; with_reducible rfl); rotate_left; (simp only [Act.put, zz1, zz2, zz3, i64_w, i32_w]; rfl)
                refine one_ (i := 10) (N := some 76) #[τ,τ,τ,τ,τ,τ,τ,τ,τ,τ,τ,φ,φ,φ,φ,φ] rfl rfl (one_of HT_.out (by kernel_rfl)) (by decide) (fun K hK => ?_)
                refine goes_ Tryd.func18 (by kernel_rfl) rfl #[.slice (some ad) g.length c0, .slice (some adr) rs.length cr, .int .i64 k] (by rfl) rfl rfl (by simp only [List.map_toArray, List.map_cons, List.map_nil]; rfl) ?_
                with_reducible refine (HSet.out).mono ?_
                rintro e W3 ⟨vs, s, rfl, hs3, hb3, hso, hsl⟩
                have r0 := pw_cell_below hb3 (drew_cell yb)
                have r1 := pw_cell_below hb3 (drew_cell yv)
                have HB3 := Aside0.mk (show Below wr.heap.size wr W3 from ⟨hb3.os, hb3.tape, hb3.output, hb3.size, hb3.block⟩)
                have HSo := Aside0.mk (And.intro hso hsl)
                obtain ⟨As, cs, rfl⟩ := Kd.R_slice hs3
                have HS3 := Aside0.mk hs3
                clear hb3 hso hsl hs3
                refine ⟨_, rfl, ?_⟩
                refine hK.out _ _ ⟨r0, r1⟩ (fun hHeld => ?_)
                clear hK K
                refine norm_ (a' := ?_) ?_ ?_
                rotate_left
                · show Act.put _ (some 76) _ = _
                  simp only [Act.put, zz1, zz2, zz3, i64_w, i32_w]
                  rfl
                refine one_ (i := 11) (N := some 77) #[τ,τ,τ,τ,τ,τ,τ,τ,τ,τ,τ,τ,φ,φ,φ,φ] rfl rfl (one_of HT_.out (by kernel_rfl)) (by decide) (fun K hK => ?_)
                refine value_ (w1 := ?_) (v := ?_) (by rfl) rfl ?_ ?_
                rotate_left 2
                · go_simp
                  constructor
                  · rfl
                  · rfl
                refine hK.out _ _ ⟨pw_cell_below (below_alloc (Below.refl _ _) _) r0, pw_cell_below (below_alloc (Below.refl _ _) _) r1⟩ (fun hHeld => ?_)
                clear hK K
                refine norm_ (a' := ?_) ?_ ?_
                rotate_left
                · show Act.put _ (some 77) _ = _
                  simp only [Act.put, zz1, zz2, zz3, i64_w, i32_w]
                  rfl
                refine one_ (i := 12) (N := some 78) #[τ,τ,τ,τ,τ,τ,τ,τ,τ,τ,τ,τ,τ,φ,φ,φ] rfl rfl (one_of HT_.out (by kernel_rfl)) (by decide) (fun K hK => ?_)
                refine Kd.R_append_step KL (w0 := W3) Wi.heap.size (by rfl) (.tmp 72) (.tmp 77) 67 31 (.slice none 0 0) 24 rfl Tryd.underlying67 infoL rfl (by decide) (by omega) v ss s [.slice As s.length cs] (fun _ => True) (fun k => wr.heap.size ≤ k) rfl rfl ⟨.slice As s.length cs, rfl, Kd.R_lower (Kd.R_mono (Kd.R_bound HS3.out) (fun k hk => hk.2.1)) HGj.out.kep.1⟩ (fun k hk => ⟨trivial, fun e => absurd (Nat.lt_of_lt_of_le (Kd.R_lt HGj.out.own k e.symm) hk) (Nat.lt_irrefl _)⟩) (fun _ _ => trivial) (Kd.R_below HGj.out.own HB3.out) (Below.refl _ _) (Nat.le_trans HGj.out.kep.1 HB3.out.size) HAL.out ?_
                intro v9 W9 ho hb9 hg9 hat9
                obtain ⟨A9, c9, e9⟩ := Kd.R_slice ho
                obtain ⟨n9, hn9⟩ : ∃ n9, n9 = (ss ++ [s]).length := ⟨_, rfl⟩
                rw [← hn9] at e9
                subst e9
                obtain ⟨z9, f9⟩ := HGj.out.later HB3.out hb9
                have b9 := (hb9.cell (p := ⟨fb, 0, none⟩) (Nat.lt_of_lt_of_le hfX HGj.out.kex.1)).trans r0
                have HO9 := Aside0.mk ho
                have HB9 := Aside0.mk hb9
                clear ho hb9 hg9 hat9 hn9
                refine hK.out _ _ ⟨b9, z9⟩ (fun hHeld => ?_)
                clear hK K
                refine norm_ (a' := ?_) ?_ ?_
                rotate_left
                · show Act.put _ (some 78) _ = _
                  simp only [Act.put, zz1, zz2, zz3, i64_w, i32_w]
                  rfl
                refine pure_ (i := 13) (N := some 79) (v := ?_) (a' := ?_) #[τ,τ,τ,τ,τ,τ,τ,τ,τ,τ,τ,τ,τ,τ,φ,φ] rfl rfl (any_of HT_.out (by kernel_rfl)) (fun _ _ _ h => h) (Or.inl ⟨by rfl, ?_⟩) ?_ ?_
                rotate_left; (intro w'; go_simp; with_reducible rfl); rotate_left; (simp only [Act.put, zz1, zz2, zz3, i64_w, i32_w]; rfl)
                refine pure_ (i := 14) (N := some 80) (v := ?_) (a' := ?_) #[τ,τ,τ,τ,τ,τ,τ,τ,τ,τ,τ,τ,τ,τ,τ,φ] rfl rfl (any_of HT_.out (by kernel_rfl)) (fun _ _ _ h => h) (Or.inl ⟨by rfl, ?_⟩) ?_ ?_
                rotate_left; (intro w'; go_simp; with_reducible rfl); rotate_left; (simp only [Act.put, zz1, zz2, zz3, i64_w, i32_w]; rfl)
                refine last_ (i := 15) (N := none) #[τ,τ,τ,τ,τ,τ,τ,τ,τ,τ,τ,τ,τ,τ,τ,τ] rfl rfl (one_of HT_.out (by kernel_rfl)) (by decide) (fun K hK => ?_)
                refine skip_ (w1 := ?_) (by rfl) rfl ?_ ?_
                rotate_left
                · go_simp
                  rfl
                refine hK.out _ _ ?_
                clear hK K
                refine done_ (done_of HT_.out (by kernel_rfl)) ?_
                have HGn := Aside0.mk (HGj.out.step HB3.out HO9.out HB9.out)
                have HPn := Aside0.mk (HFp.out.step (by rw [HKe.out]; exact HSo.out.1) (Nat.le_trans HSo.out.2 HML.out))
                have HBn := Aside0.mk (Below.setCell (Below.trans (below_then HBj.out HBj.out.size HB3.out) (HB9.out.mono (Nat.le_trans HBX.out.size HGj.out.kex.1))) (p := ⟨gF, an * 7 + 6, none⟩) (Nat.le_trans HB.out.size hg0) (.slice A9 n9 c9))
                go_wp2_with (fail)
                go_roundw
                case rel => exact ⟨j + 1, _, _, hlj, by rw [hwj], HGn, ⟨HPn.out⟩, HBn⟩
                case measure => rw [hwj]; exact meas hlj
              · obtain rfl : j = x.f4.length := Nat.le_antisymm hj (Nat.not_lt.1 hlj)
                have hGn := HGj.out
                have hNk := HNK.out
                have hFp := HFp.out
                rw [HX.out] at hGn hNk hFp
                have HFn := Aside0.mk (Grow.done (x := ⟨nd g (an : Int), rd rs (an : Int), ss⟩) hGn hNk (by rw [HA.out]; rfl) (fun q hq => apart_of HPp.out hq hiP HA.out) (by rw [HA.out]; exact hFp))
                clear hGn hNk hFp
                go_wp2_with (fail)
                go_roundw
                case rel => exact ⟨i + 1, hlt, by rw [hw], HFn, HBj⟩
                case measure => rw [hw]; exact meas hlt
          · obtain rfl : np = i := Nat.le_antisymm (Nat.not_lt.1 hlt) hi
            have hFu := HFi.out
            rw [HNP.out] at hFu
            obtain ⟨fs, hfl, hN, hfp⟩ := Fill.full hFu HPp.out
            have hFk := HFi.out.kep
            have hPU : Kd.R (Kd.int .i64) 3 U w.heap.size (fun k => k < Y.heap.size) (.slice A4 np c4) pl := Kd.R_kept HPX.out hFk (fun k hk e => by
              rw [e] at hk
              exact absurd (Nat.lt_of_lt_of_le hk hg0) (Nat.lt_irrefl _))
            have hv : ∀ k, (Value.slice A4 np c4).ownBlock = some k → k ≠ gF ∧ k ≠ fb ∧ k < X.heap.size := fun k hk => by
              have h1 : k < Y.heap.size := hPU.1 k hk
              exact ⟨by omega, by omega, by omega⟩
            have hzU := cell_kept HZB.out hFk hfb
            have h19 : pl.length ≤ 19 := by
              rw [HPp.out.length_eq]
              exact Nat.le_trans (plainTo_len g g.length) H19.out
            have HSort := Aside0.mk (sorts_calls (PO.comp cmpF_po (fun a : Int => fs.getD a.toNat zFm)) HBi.out hPU (cmpV_of HCk.out hfl hN hfp hzU (fun a ha => (plain_iff g a).2 (HPp.out.mem_iff.1 ha)) hv) h19)
            have HFfp := Aside0.mk hfp
            have HFl := Aside0.mk hfl
            have HNf := Aside0.mk hN
            have HzU := Aside0.mk hzU
            have HvU := Aside0.mk hv
            clear hFu hfl hN hfp hFk hPU hv hzU h19
            go_wp2_with (fail)
            refine HSort.out.mono ?_
            rintro e W2 ⟨rfl, ys, hys, hu, hr2, hb2, hk2⟩
            have HYS := Aside0.mk (hys.trans HPp.out)
            have HU := Aside0.mk hu
            have HRy := Aside0.mk hr2
            have HBy := Aside0.mk hb2
            have HZ2 := Aside0.mk (cell_kept HzU.out hk2 (fun hs => (HvU.out fb hs).2.1 rfl))
            have HF2 := Aside0.mk (show Kd.C (kF w) W2 (some ⟨gF, 0, none⟩) fs.length fs from (Kd.N_reads' (Kd.N_kept HNf.out hk2 (fun k ho hs => by
              obtain ⟨h3, h4, h5⟩ := HvU.out k hs
              rcases ho with h | h
              · exact h3 h
              · exact absurd (Nat.lt_of_lt_of_le h5 h) (Nat.lt_irrefl _)))).2.2)
            clear hys hu hr2 hb2 hk2 HSort HNf HzU HvU HFi HBi hi hlt hw
            go_wp2_with (first | (at_make; refine Kd.R_make (Kd.int .i64) (w0 := W2) W2.heap.size 3 rfl rfl 31 (.tmp 87) (.tmp 87) rfl (g.length : Int) rfl rfl Tryd.underlying31 (.int .i64 0) 8 CA.info3 rfl (by decide) (by decide) 0 (ok := fun _ => True) (okp := fun _ => False) rfl (fun _ h => h.elim) trivial (Int.natCast_nonneg _) HAr.out (Below.refl _ _) (Nat.le_refl _) ?_; intro v13 W3 ho13 hb13 hg13 hat13))
            obtain ⟨bN, hgN, hgN2⟩ := hat13
            obtain ⟨A13, c13, rfl⟩ := Kd.R_slice ho13
            have hl13 : (List.replicate ((g.length : Int)).toNat (0 : Int)).length = g.length := by simp
            rw [hl13] at ho13 hgN ⊢
            obtain ⟨a13, rfl⟩ : ∃ a, A13 = some a := by
              cases A13 with
              | none => simp [Value.ownBlock] at hgN
              | some a => exact ⟨a, rfl⟩
            obtain ⟨gN, rfl⟩ := Kd.R_head ho13
            obtain ⟨c, hcd⟩ : ∃ c : Int → Int → Int, c = fun a b => cmpF (fs.getD a.toNat zFm) (fs.getD b.toNat zFm) := ⟨_, rfl⟩
            rw [← hcd] at HU
            have HCd := Aside0.mk hcd
            have HO13 := Aside0.mk ho13
            have HB13 := Aside0.mk hb13
            have HTd := Aside0.mk (ToldP.start c ys g.length _ hl13)
            clear ho13 hb13 hg13 hgN hgN2 hl13 hcd
            go_loopw [14, 91] (fun v14 v91 wr => ∃ (i : Nat) (ns : List Int) (lq : Nat), i ≤ np ∧ v91 = .int .i64 i ∧ v14 = .int .i64 (lq : Int) ∧ Aside0 (lq = lv c ys (i - 1)) ∧ Aside0 (Kd.R (Kd.int .i64) 3 wr W2.heap.size (fun _ => True) (.slice (some ⟨gN, 0, none⟩) g.length c13) ns) ∧ Aside0 (ToldP c ys ns g.length i) ∧ Aside0 (Below W2.heap.size W2 wr)) (fun v14 v91 _ => np + 1 - (intOf v91).toNat)
            case atStart => exact ⟨0, _, 0, Nat.zero_le _, rfl, rfl, ⟨rfl⟩, HO13, HTd, HB13⟩
            case round =>
              clear HO13 HTd HB13
              obtain ⟨i, ns, lq, hi, rfl, rfl, HLq, HNs, HTi, HBi⟩ := hrel
              rename World => wr
              by_cases hlt : i < np
              · have hiY : i < ys.length := by
                  rw [HYS.out.length_eq, ← HPp.out.length_eq, ← HNP.out]
                  exact hlt
                have hCy := Kd.C_below (Kd.R_reads' HRy.out).2.2 HBi.out
                obtain ⟨adp, eP, hp0⟩ := ints_at hCy hiY
                have hPl := (plain_iff g _).2 (HYS.out.mem_iff.1 (getD_mem hiY 0))
                obtain ⟨bn, hA⟩ := Int.eq_ofNat_of_zero_le hPl.lo
                rw [hA] at hp0 hPl
                have HA := Aside0.mk hA
                have hbn : bn < g.length := Int.ofNat_lt.1 hPl.hi
                have HPb := Aside0.mk hPl
                have hwi : wrap64 ((i : Int) + 1) = ((i + 1 : Nat) : Int) := by
                  have h1 := H19.out
                  have h2 := plainTo_len g g.length
                  rw [← HYS.out.length_eq] at h2
                  exact wr1 hiY (Nat.le_trans h2 (Nat.le_trans h1 (by decide)))
                have hwl : wrap64 ((lq : Int) + 1) = ((lq + 1 : Nat) : Int) := by
                  have h1 := H19.out
                  have h2 := plainTo_len g g.length
                  rw [← HYS.out.length_eq] at h2
                  have h3 := lv_le c ys (i - 1)
                  rw [← HLq.out] at h3
                  exact wr1 (n := ys.length) (Nat.lt_of_le_of_lt (Nat.le_trans h3 (Nat.sub_le _ _)) hiY) (Nat.le_trans h2 (Nat.le_trans h1 (by decide)))
                have e3 : ((i : Int) < (np : Int)) = True := eq_true (Int.ofNat_lt.2 hlt)
                have e4 : ((bn : Int) < (g.length : Int)) = True := eq_true hPl.hi
                by_cases hi0 : i = 0
                · subst hi0
                  subst eP
                  have e5 : decide ((0 : Int) < ((0 : Nat) : Int)) = false := by decide
                  clear hCy hPl hA
                  have hp1 : wr.cell? adp = some (.int .i64 (bn : Int)) := hp0
                  go_wp2_with (fail)
                  refine start_ (n := 18) (S := fun w' => True) (ds := []) #[φ,φ,φ,φ,φ,φ,φ,φ,φ,φ,φ,φ,φ,φ,φ,φ,φ,φ] (by kernel_rfl) rfl rfl trivial (fun hHeld => ?_)
                  refine with_tabW cj26.tab26 cj26.bits26 (fun HT_ HW_ => ?_)
                  refine pure_ (i := 0) (N := some 96) (v := ?_) (a' := ?_) #[τ,φ,φ,φ,φ,φ,φ,φ,φ,φ,φ,φ,φ,φ,φ,φ,φ,φ] rfl rfl (any_of HT_.out (by kernel_rfl)) (fun _ _ _ h => h) (Or.inl ⟨by rfl, ?_⟩) ?_ ?_
                  rotate_left; (intro w'; go_simp; with_reducible rfl); rotate_left; (simp only [Act.put, zz1, zz2, zz3, i64_w, i32_w]; rfl)
                  refine pure_ (i := 1) (N := some 97) (v := ?_) (a' := ?_) #[τ,τ,φ,φ,φ,φ,φ,φ,φ,φ,φ,φ,φ,φ,φ,φ,φ,φ] rfl rfl (any_of HT_.out (by kernel_rfl)) (fun _ _ _ h => h) (Or.inl ⟨by rfl, ?_⟩) ?_ ?_
                  rotate_left; (intro w'; go_simp; with_reducible rfl); rotate_left; (simp only [Act.put, zz1, zz2, zz3, i64_w, i32_w]; rfl)
                  refine pure_ (i := 2) (N := some 98) (v := ?_) (a' := ?_) #[τ,τ,τ,φ,φ,φ,φ,φ,φ,φ,φ,φ,φ,φ,φ,φ,φ,φ] rfl rfl (any_of HT_.out (by kernel_rfl)) (fun _ _ _ h => h) (Or.inl ⟨by rfl, ?_⟩) ?_ ?_
                  rotate_left; (intro w'; go_simp; with_reducible rfl); rotate_left; (simp only [Act.put, zz1, zz2, zz3, i64_w, i32_w]; rfl)
                  refine pure_ (i := 3) (N := some 99) (v := undef) (a' := ?_) #[τ,τ,τ,τ,φ,φ,φ,φ,φ,φ,φ,φ,φ,φ,φ,φ,φ,φ] rfl rfl (any_of HT_.out (by kernel_rfl)) (fun _ _ _ h => h) (Or.inr ⟨by rfl, rfl⟩) ?_ ?_
                  rotate_left; (simp only [Act.put, zz1, zz2, zz3, i64_w, i32_w]; rfl)
                  refine pure_ (i := 4) (N := some 100) (v := undef) (a' := ?_) #[τ,τ,τ,τ,τ,φ,φ,φ,φ,φ,φ,φ,φ,φ,φ,φ,φ,φ] rfl rfl (any_of HT_.out (by kernel_rfl)) (fun _ _ _ h => h) (Or.inr ⟨by rfl, rfl⟩) ?_ ?_
                  rotate_left; (simp only [Act.put, zz1, zz2, zz3, i64_w, i32_w]; rfl)
                  refine pure_ (i := 5) (N := some 101) (v := undef) (a' := ?_) #[τ,τ,τ,τ,τ,τ,φ,φ,φ,φ,φ,φ,φ,φ,φ,φ,φ,φ] rfl rfl (any_of HT_.out (by kernel_rfl)) (fun _ _ _ h => h) (Or.inr ⟨by rfl, rfl⟩) ?_ ?_
                  rotate_left; (simp only [Act.put, zz1, zz2, zz3, i64_w, i32_w]; rfl)
                  refine pure_ (i := 6) (N := some 102) (v := undef) (a' := ?_) #[τ,τ,τ,τ,τ,τ,τ,φ,φ,φ,φ,φ,φ,φ,φ,φ,φ,φ] rfl rfl (any_of HT_.out (by kernel_rfl)) (fun _ _ _ h => h) (Or.inr ⟨by rfl, rfl⟩) ?_ ?_
                  rotate_left; (simp only [Act.put, zz1, zz2, zz3, i64_w, i32_w]; rfl)
                  refine pure_ (i := 7) (N := some 103) (v := undef) (a' := ?_) #[τ,τ,τ,τ,τ,τ,τ,τ,φ,φ,φ,φ,φ,φ,φ,φ,φ,φ] rfl rfl (any_of HT_.out (by kernel_rfl)) (fun _ _ _ h => h) (Or.inr ⟨by rfl, rfl⟩) ?_ ?_
                  rotate_left; (simp only [Act.put, zz1, zz2, zz3, i64_w, i32_w]; rfl)
                  refine pure_ (i := 8) (N := some 104) (v := undef) (a' := ?_) #[τ,τ,τ,τ,τ,τ,τ,τ,τ,φ,φ,φ,φ,φ,φ,φ,φ,φ] rfl rfl (any_of HT_.out (by kernel_rfl)) (fun _ _ _ h => h) (Or.inr ⟨by rfl, rfl⟩) ?_ ?_
                  rotate_left; (simp only [Act.put, zz1, zz2, zz3, i64_w, i32_w]; rfl)
                  refine pure_ (i := 9) (N := some 105) (v := undef) (a' := ?_) #[τ,τ,τ,τ,τ,τ,τ,τ,τ,τ,φ,φ,φ,φ,φ,φ,φ,φ] rfl rfl (any_of HT_.out (by kernel_rfl)) (fun _ _ _ h => h) (Or.inr ⟨by rfl, rfl⟩) ?_ ?_
                  rotate_left; (simp only [Act.put, zz1, zz2, zz3, i64_w, i32_w]; rfl)
                  refine pure_ (i := 10) (N := some 106) (v := undef) (a' := ?_) #[τ,τ,τ,τ,τ,τ,τ,τ,τ,τ,τ,φ,φ,φ,φ,φ,φ,φ] rfl rfl (any_of HT_.out (by kernel_rfl)) (fun _ _ _ h => h) (Or.inr ⟨by rfl, rfl⟩) ?_ ?_
                  rotate_left; (simp only [Act.put, zz1, zz2, zz3, i64_w, i32_w]; rfl)
                  refine pure_ (i := 11) (N := some 107) (v := undef) (a' := ?_) #[τ,τ,τ,τ,τ,τ,τ,τ,τ,τ,τ,τ,φ,φ,φ,φ,φ,φ] rfl rfl (any_of HT_.out (by kernel_rfl)) (fun _ _ _ h => h) (Or.inr ⟨by rfl, rfl⟩) ?_ ?_
                  rotate_left; (simp only [Act.put, zz1, zz2, zz3, i64_w, i32_w]; rfl)
                  refine pure_ (i := 12) (N := some 108) (v := undef) (a' := ?_) #[τ,τ,τ,τ,τ,τ,τ,τ,τ,τ,τ,τ,τ,φ,φ,φ,φ,φ] rfl rfl (any_of HT_.out (by kernel_rfl)) (fun _ _ _ h => h) (Or.inr ⟨by rfl, rfl⟩) ?_ ?_
                  rotate_left; (simp only [Act.put, zz1, zz2, zz3, i64_w, i32_w]; rfl)
                  refine pure_ (i := 13) (N := some 109) (v := undef) (a' := ?_) #[τ,τ,τ,τ,τ,τ,τ,τ,τ,τ,τ,τ,τ,τ,φ,φ,φ,φ] rfl rfl (any_of HT_.out (by kernel_rfl)) (fun _ _ _ h => h) (Or.inr ⟨by rfl, rfl⟩) ?_ ?_
                  rotate_left; (simp only [Act.put, zz1, zz2, zz3, i64_w, i32_w]; rfl)
                  refine pure_ (i := 14) (N := some 110) (v := undef) (a' := ?_) #[τ,τ,τ,τ,τ,τ,τ,τ,τ,τ,τ,τ,τ,τ,τ,φ,φ,φ] rfl rfl (any_of HT_.out (by kernel_rfl)) (fun _ _ _ h => h) (Or.inr ⟨by rfl, rfl⟩) ?_ ?_
                  rotate_left; (simp only [Act.put, zz1, zz2, zz3, i64_w, i32_w]; rfl)
                  refine pure_ (i := 15) (N := some 111) (v := undef) (a' := ?_) #[τ,τ,τ,τ,τ,τ,τ,τ,τ,τ,τ,τ,τ,τ,τ,τ,φ,φ] rfl rfl (any_of HT_.out (by kernel_rfl)) (fun _ _ _ h => h) (Or.inr ⟨by rfl, rfl⟩) ?_ ?_
                  rotate_left; (simp only [Act.put, zz1, zz2, zz3, i64_w, i32_w]; rfl)
                  refine pure_ (i := 16) (N := some 112) (v := undef) (a' := ?_) #[τ,τ,τ,τ,τ,τ,τ,τ,τ,τ,τ,τ,τ,τ,τ,τ,τ,φ] rfl rfl (any_of HT_.out (by kernel_rfl)) (fun _ _ _ h => h) (Or.inr ⟨by rfl, rfl⟩) ?_ ?_
                  rotate_left; (simp only [Act.put, zz1, zz2, zz3, i64_w, i32_w]; rfl)
                  refine pure_ (i := 17) (N := some 113) (v := ?_) (a' := ?_) #[τ,τ,τ,τ,τ,τ,τ,τ,τ,τ,τ,τ,τ,τ,τ,τ,τ,τ] rfl rfl (any_of HT_.out (by kernel_rfl)) (fun _ _ _ h => h) (Or.inl ⟨by rfl, ?_⟩) ?_ ?_
                  rotate_left; (intro w'; go_simp; with_reducible rfl); rotate_left; (simp only [Act.put, zz1, zz2, zz3, i64_w, i32_w]; rfl)
                  refine done_ (done_of HT_.out (by kernel_rfl)) ?_
                  obtain ⟨n0, n1⟩ := int_slot (Kd.R_drew HNs.out) hbn
                  obtain ⟨hr5, hb5⟩ := int_put HNs.out HBi.out bn (lq : Int)
                  have HT5 := Aside0.mk (HTi.out.step HYS.out hiY HA.out (q := (lq : Int)) (by rw [HLq.out]))
                  have HR5 := Aside0.mk (Kd.R_drew hr5)
                  have HB5 := Aside0.mk (below_drew hb5)
                  clear hr5 hb5
                  go_wp2_with (fail)
                  go_roundw
                  case rel => exact ⟨1, _, lq, hlt, rfl, rfl, HLq, HR5, HT5, HB5⟩
                  case measure => exact meas hlt
                · obtain ⟨q, rfl⟩ : ∃ q, i = q + 1 := ⟨i - 1, (Nat.succ_pred_eq_of_ne_zero hi0).symm⟩
                  have hqY : q < ys.length := Nat.lt_of_succ_lt hiY
                  obtain ⟨adq, eQ, hq0⟩ := ints_at hCy hqY
                  subst eP
                  cases eQ
                  have hPq := (plain_iff g _).2 (HYS.out.mem_iff.1 (getD_mem hqY 0))
                  obtain ⟨an, hAn⟩ := Int.eq_ofNat_of_zero_le hPq.lo
                  rw [hAn] at hq0 hPq
                  have han : an < g.length := Int.ofNat_lt.1 hPq.hi
                  have hCf := Kd.C_below HF2.out HBi.out
                  obtain ⟨adF, A1, cA1, A2, cA2, A3, cA3, eF, hm1⟩ := form_at hCf (i := an) (by rw [HFl.out]; exact han)
                  obtain ⟨adG, B1, cB1, B2, cB2, B3, cB3, eG, hm2⟩ := form_at hCf (i := bn) (by rw [HFl.out]; exact hbn)
                  obtain rfl : adF = adG := Option.some.inj (eF.symm.trans eG)
                  have hz2 := pw_cell_below HBi.out HZ2.out
                  rw [eF] at hz2
                  have hok1 := part_ok HCk.out hPq (HFfp.out _ hPq)
                  have hok2 := part_ok HCk.out HPb.out (HFfp.out _ HPb.out)
                  have hD : c (ys.getD q 0) (ys.getD (q + 1) 0) = cmpF (fs.getD an zFm) (fs.getD bn zFm) := by rw [hAn, HA.out, HCd.out]; rfl
                  rw [Int.toNat_natCast] at hok1 hok2
                  generalize fs.getD an zFm = x at hm1 hok1 hD
                  generalize fs.getD bn zFm = y at hm2 hok2 hD
                  have hBw := below_then HBy.out HBy.out.size HBi.out
                  have HCmp := Aside0.mk (compare_calls x y A1 A2 A3 B1 B2 B3 cA1 x.node.f4.length cA2 cA3 cB1 y.node.f4.length cB2 cB3 wr.drew ⟨hm1.kc, Kd.C_below hm1.ks (below_drew hBw), hm1.sc, Kd.C_drew hm1.ss, hok1.kl, hok1.sl, hok1.se⟩ ⟨hm2.kc, Kd.C_below hm2.ks (below_drew hBw), hm2.sc, Kd.C_drew hm2.ss, hok2.kl, hok2.sl, hok2.se⟩)
                  obtain ⟨d, hd⟩ : ∃ d, d = cmpF x y := ⟨_, rfl⟩
                  rw [← hd] at HCmp hD
                  have HD := Aside0.mk hD
                  obtain ⟨p0, p1, p2, p3, p4, p5, p6⟩ : (wr.cell? (adF.add (an * 7)) = some (.int .i64 x.node.f0)) ∧ _ ∧ _ ∧ _ ∧ _ ∧ _ ∧ _ := ⟨hm1.q0, hm1.q1, hm1.q2, hm1.q3, hm1.q4, hm1.q5, hm1.q6⟩
                  obtain ⟨r0, r1, r2, r3, r4, r5, r6⟩ : (wr.cell? (adF.add (bn * 7)) = some (.int .i64 y.node.f0)) ∧ _ ∧ _ ∧ _ ∧ _ ∧ _ ∧ _ := ⟨hm2.q0, hm2.q1, hm2.q2, hm2.q3, hm2.q4, hm2.q5, hm2.q6⟩
                  have hwq : wrap64 (q : Int) = (q : Int) := by
                    have h1 := H19.out
                    have h2 := plainTo_len g g.length
                    rw [← HYS.out.length_eq] at h2
                    exact wr0 hqY (Nat.le_trans h2 (Nat.le_trans h1 (by decide)))
                  have e5 : decide ((0 : Int) < ((q + 1 : Nat) : Int)) = true := decide_eq_true (Int.natCast_pos.2 (Nat.succ_pos q))
                  have e6 : ((an : Int) < (g.length : Int)) = True := eq_true hPq.hi
                  have e7 : ((q : Int) < (np : Int)) = True := eq_true (Int.ofNat_lt.2 (Nat.lt_of_succ_lt hlt))
                  have hp1 : wr.cell? ⟨adp.block, adp.off + (q + 1), none⟩ = some (.int .i64 (bn : Int)) := by
                    have h1 : adp.add (q + 1) = ⟨adp.block, adp.off + (q + 1), none⟩ := by simp [Addr.add]
                    rwa [h1] at hp0
                  have e8 : ((q : Int) + 1 < (np : Int)) = True := eq_true (by have := Int.ofNat_lt.2 hlt; rwa [Int.natCast_add] at this)
                  have e9 : ((0 : Int) ≤ (q : Int) + 1) = True := eq_true (Int.le_add_one (Int.natCast_nonneg q))
                  clear hCy hPl hA hPq hAn hCf eF eG hok1 hok2 hD hd hm1 hm2 hBw hi0
                  go_wp2_with (fail)
                  refine start_ (n := 18) (S := fun w' => w'.cell? ⟨fb, 0, none⟩ = some (.slice (some adF) g.length cf) ∧ w'.cell? (adp.add q) = some (.int .i64 (an : Int)) ∧ w'.cell? (adF.add (an * 7)) = some (.int .i64 x.node.f0) ∧ w'.cell? ⟨(adF.add (an * 7)).block, (adF.add (an * 7)).off + 1, none⟩ = some (.int .i64 x.node.f1) ∧ w'.cell? ⟨(adF.add (an * 7)).block, (adF.add (an * 7)).off + 2, none⟩ = some (.string x.node.f2) ∧ w'.cell? ⟨(adF.add (an * 7)).block, (adF.add (an * 7)).off + 3, none⟩ = some (.slice A1 x.node.f3.length cA1) ∧ w'.cell? ⟨(adF.add (an * 7)).block, (adF.add (an * 7)).off + 4, none⟩ = some (.slice A2 x.node.f4.length cA2) ∧ w'.cell? ⟨(adF.add (an * 7)).block, (adF.add (an * 7)).off + 5, none⟩ = some (.int .i64 x.rank) ∧ w'.cell? ⟨(adF.add (an * 7)).block, (adF.add (an * 7)).off + 6, none⟩ = some (.slice A3 x.sets.length cA3) ∧ w'.cell? (adF.add (bn * 7)) = some (.int .i64 y.node.f0) ∧ w'.cell? ⟨(adF.add (bn * 7)).block, (adF.add (bn * 7)).off + 1, none⟩ = some (.int .i64 y.node.f1) ∧ w'.cell? ⟨(adF.add (bn * 7)).block, (adF.add (bn * 7)).off + 2, none⟩ = some (.string y.node.f2) ∧ w'.cell? ⟨(adF.add (bn * 7)).block, (adF.add (bn * 7)).off + 3, none⟩ = some (.slice B1 y.node.f3.length cB1) ∧ w'.cell? ⟨(adF.add (bn * 7)).block, (adF.add (bn * 7)).off + 4, none⟩ = some (.slice B2 y.node.f4.length cB2) ∧ w'.cell? ⟨(adF.add (bn * 7)).block, (adF.add (bn * 7)).off + 5, none⟩ = some (.int .i64 y.rank) ∧ w'.cell? ⟨(adF.add (bn * 7)).block, (adF.add (bn * 7)).off + 6, none⟩ = some (.slice B3 y.sets.length cB3)) (ds := []) #[φ,φ,φ,φ,φ,φ,φ,φ,φ,φ,φ,φ,φ,φ,φ,φ,φ,φ] (by kernel_rfl) rfl rfl ⟨drew_cell hz2, drew_cell hq0, drew_cell p0, drew_cell p1, drew_cell p2, drew_cell p3, drew_cell p4, drew_cell p5, drew_cell p6, drew_cell r0, drew_cell r1, drew_cell r2, drew_cell r3, drew_cell r4, drew_cell r5, drew_cell r6⟩ (fun hHeld => ?_)
                  refine with_tabW cj26.tab26 cj26.bits26 (fun HT_ HW_ => ?_)
                  refine pure_ (i := 0) (N := some 96) (v := ?_) (a' := ?_) #[τ,φ,φ,φ,φ,φ,φ,φ,φ,φ,φ,φ,φ,φ,φ,φ,φ,φ] rfl rfl (any_of HT_.out (by kernel_rfl)) (fun _ _ _ h => h) (Or.inl ⟨by rfl, ?_⟩) ?_ ?_
                  rotate_left; (intro w'; go_simp; with_reducible rfl); rotate_left; (simp only [Act.put, zz1, zz2, zz3, i64_w, i32_w]; rfl)
                  refine pure_ (i := 1) (N := some 97) (v := ?_) (a' := ?_) #[τ,τ,φ,φ,φ,φ,φ,φ,φ,φ,φ,φ,φ,φ,φ,φ,φ,φ] rfl rfl (any_of HT_.out (by kernel_rfl)) (fun _ _ _ h => h) (Or.inl ⟨by rfl, ?_⟩) ?_ ?_
                  rotate_left; (intro w'; go_simp; with_reducible rfl); rotate_left; (simp only [Act.put, zz1, zz2, zz3, i64_w, i32_w]; rfl)
                  refine pure_ (i := 2) (N := some 98) (v := ?_) (a' := ?_) #[τ,τ,τ,φ,φ,φ,φ,φ,φ,φ,φ,φ,φ,φ,φ,φ,φ,φ] rfl rfl (any_of HT_.out (by kernel_rfl)) (fun _ _ _ h => h) (Or.inl ⟨by rfl, ?_⟩) ?_ ?_
                  rotate_left; (intro w'; go_simp; with_reducible rfl); rotate_left; (simp only [Act.put, zz1, zz2, zz3, i64_w, i32_w]; rfl)
                  refine pure_ (i := 4) (N := some 100) (v := ?_) (a' := ?_) #[τ,τ,τ,φ,τ,φ,φ,φ,φ,φ,φ,φ,φ,φ,φ,φ,φ,φ] rfl rfl (any_of HT_.out (by kernel_rfl)) (fun _ _ _ h => h) (Or.inl ⟨by rfl, ?_⟩) ?_ ?_
                  rotate_left; (intro w'; go_simp; with_reducible rfl); rotate_left; (simp only [Act.put, zz1, zz2, zz3, i64_w, i32_w]; rfl)
                  refine pure_ (i := 5) (N := some 101) (v := ?_) (a' := ?_) #[τ,τ,τ,φ,τ,τ,φ,φ,φ,φ,φ,φ,φ,φ,φ,φ,φ,φ] rfl rfl (any_of HT_.out (by kernel_rfl)) (fun _ _ _ h => h) (Or.inl ⟨by rfl, ?_⟩) ?_ ?_
                  rotate_left; (intro w'; go_simp; with_reducible rfl); rotate_left; (simp only [Act.put, zz1, zz2, zz3, i64_w, i32_w]; rfl)
                  refine pure_ (i := 6) (N := some 102) (v := ?_) (a' := ?_) #[τ,τ,τ,φ,τ,τ,τ,φ,φ,φ,φ,φ,φ,φ,φ,φ,φ,φ] rfl rfl (any_of HT_.out (by kernel_rfl)) (fun _ _ _ h => h) (Or.inl ⟨by rfl, ?_⟩) ?_ ?_
                  rotate_left; (intro w'; go_simp; with_reducible rfl); rotate_left; (simp only [Act.put, zz1, zz2, zz3, i64_w, i32_w]; rfl)
                  refine pure_ (i := 7) (N := some 103) (v := ?_) (a' := ?_) #[τ,τ,τ,φ,τ,τ,τ,τ,φ,φ,φ,φ,φ,φ,φ,φ,φ,φ] rfl rfl (any_of HT_.out (by kernel_rfl)) (fun _ _ _ h => h) (Or.inl ⟨by rfl, ?_⟩) ?_ ?_
                  rotate_left; (intro w'; go_simp; with_reducible rfl); rotate_left; (simp only [Act.put, zz1, zz2, zz3, i64_w, i32_w]; rfl)
                  refine pure_ (i := 12) (N := some 108) (v := ?_) (a' := ?_) #[τ,τ,τ,φ,τ,τ,τ,τ,φ,φ,φ,φ,τ,φ,φ,φ,φ,φ] rfl rfl (any_of HT_.out (by kernel_rfl)) (fun _ _ _ h => h) (Or.inl ⟨by rfl, ?_⟩) ?_ ?_
                  rotate_left; (intro w'; go_simp; with_reducible rfl); rotate_left; (simp only [Act.put, zz1, zz2, zz3, i64_w, i32_w]; rfl)
                  refine take_ (i := 3) (N := some 99) (v := ?_) (a' := ?_) #[τ,τ,τ,τ,τ,τ,τ,τ,φ,φ,φ,φ,τ,φ,φ,φ,φ,φ] rfl rfl (take_ofW HT_.out HW_.out (by kernel_rfl)) (fun _ _ _ h => h) (Or.inl ⟨by rfl, ?_⟩) hHeld ?_ ?_
                  rotate_left; (rintro w' ⟨s0, s1, s2, s3, s4, s5, s6, s7, s8, s9, s10, s11, s12, s13, s14, s15⟩; go_simp; with_reducible rfl); rotate_left; (simp only [Act.put, zz1, zz2, zz3, i64_w, i32_w]; rfl)
                  refine take_ (i := 8) (N := some 104) (v := ?_) (a' := ?_) #[τ,τ,τ,τ,τ,τ,τ,τ,τ,φ,φ,φ,τ,φ,φ,φ,φ,φ] rfl rfl (take_ofW HT_.out HW_.out (by kernel_rfl)) (fun _ _ _ h => h) (Or.inl ⟨by rfl, ?_⟩) hHeld ?_ ?_
                  rotate_left; (rintro w' ⟨s0, s1, s2, s3, s4, s5, s6, s7, s8, s9, s10, s11, s12, s13, s14, s15⟩; go_simp; with_reducible rfl); rotate_left; (simp only [Act.put, zz1, zz2, zz3, i64_w, i32_w]; rfl)
                  refine pure_ (i := 9) (N := some 105) (v := ?_) (a' := ?_) #[τ,τ,τ,τ,τ,τ,τ,τ,τ,τ,φ,φ,τ,φ,φ,φ,φ,φ] rfl rfl (any_of HT_.out (by kernel_rfl)) (fun _ _ _ h => h) (Or.inl ⟨by rfl, ?_⟩) ?_ ?_
                  rotate_left; (intro w'; go_simp; with_reducible rfl); rotate_left; (simp only [Act.put, zz1, zz2, zz3, i64_w, i32_w]; rfl)
                  refine take_ (i := 10) (N := some 106) (v := ?_) (a' := ?_) #[τ,τ,τ,τ,τ,τ,τ,τ,τ,τ,τ,φ,τ,φ,φ,φ,φ,φ] rfl rfl (take_ofW HT_.out HW_.out (by kernel_rfl)) (fun _ _ _ h => h) (Or.inl ⟨by rfl, ?_⟩) hHeld ?_ ?_
                  rotate_left; (rintro w' ⟨s0, s1, s2, s3, s4, s5, s6, s7, s8, s9, s10, s11, s12, s13, s14, s15⟩; go_simp; with_reducible rfl); rotate_left; (simp only [Act.put, zz1, zz2, zz3, i64_w, i32_w]; rfl)
                  refine take_ (i := 11) (N := some 107) (v := ?_) (a' := ?_) #[τ,τ,τ,τ,τ,τ,τ,τ,τ,τ,τ,τ,τ,φ,φ,φ,φ,φ] rfl rfl (take_ofW HT_.out HW_.out (by kernel_rfl)) (fun _ _ _ h => h) (Or.inl ⟨by rfl, ?_⟩) hHeld ?_ ?_
                  rotate_left; (rintro w' ⟨s0, s1, s2, s3, s4, s5, s6, s7, s8, s9, s10, s11, s12, s13, s14, s15⟩; go_simp; with_reducible rfl); rotate_left; (simp only [Act.put, zz1, zz2, zz3, i64_w, i32_w]; rfl)
                  refine pure_ (i := 13) (N := some 109) (v := ?_) (a' := ?_) #[τ,τ,τ,τ,τ,τ,τ,τ,τ,τ,τ,τ,τ,τ,φ,φ,φ,φ] rfl rfl (any_of HT_.out (by kernel_rfl)) (fun _ _ _ h => h) (Or.inl ⟨by rfl, ?_⟩) ?_ ?_
                  rotate_left; (intro w'; go_simp; with_reducible rfl); rotate_left; (simp only [Act.put, zz1, zz2, zz3, i64_w, i32_w]; rfl)
                  refine take_ (i := 14) (N := some 110) (v := ?_) (a' := ?_) #[τ,τ,τ,τ,τ,τ,τ,τ,τ,τ,τ,τ,τ,τ,τ,φ,φ,φ] rfl rfl (take_ofW HT_.out HW_.out (by kernel_rfl)) (fun _ _ _ h => h) (Or.inl ⟨by rfl, ?_⟩) hHeld ?_ ?_
                  rotate_left; (rintro w' ⟨s0, s1, s2, s3, s4, s5, s6, s7, s8, s9, s10, s11, s12, s13, s14, s15⟩; go_simp; with_reducible rfl); rotate_left; (simp only [Act.put, zz1, zz2, zz3, i64_w, i32_w]; rfl)
                  refine one_ (i := 15) (N := some 111) #[τ,τ,τ,τ,τ,τ,τ,τ,τ,τ,τ,τ,τ,τ,τ,τ,φ,φ] rfl rfl (one_of HT_.out (by kernel_rfl)) (by decide) (fun K hK => ?_)
                  refine goes_ Tryd.func31 (by kernel_rfl) rfl #[.agg #[.int .i64 x.node.f0, .int .i64 x.node.f1, .string x.node.f2, .slice A1 x.node.f3.length cA1, .slice A2 x.node.f4.length cA2, .int .i64 x.rank, .slice A3 x.sets.length cA3], .agg #[.int .i64 y.node.f0, .int .i64 y.node.f1, .string y.node.f2, .slice B1 y.node.f3.length cB1, .slice B2 y.node.f4.length cB2, .int .i64 y.rank, .slice B3 y.sets.length cB3]] (by rfl) rfl rfl (by simp only [List.map_toArray, List.map_cons, List.map_nil]; rfl) ?_
                  with_reducible refine (HCmp.out).mono ?_
                  rintro e W5 ⟨rfl, hb5⟩
                  have s0 := pw_cell_below hb5 (drew_cell hz2)
                  have s1 := pw_cell_below hb5 (drew_cell hq0)
                  have s2 := pw_cell_below hb5 (drew_cell p0)
                  have s3 := pw_cell_below hb5 (drew_cell p1)
                  have s4 := pw_cell_below hb5 (drew_cell p2)
                  have s5 := pw_cell_below hb5 (drew_cell p3)
                  have s6 := pw_cell_below hb5 (drew_cell p4)
                  have s7 := pw_cell_below hb5 (drew_cell p5)
                  have s8 := pw_cell_below hb5 (drew_cell p6)
                  have s9 := pw_cell_below hb5 (drew_cell r0)
                  have s10 := pw_cell_below hb5 (drew_cell r1)
                  have s11 := pw_cell_below hb5 (drew_cell r2)
                  have s12 := pw_cell_below hb5 (drew_cell r3)
                  have s13 := pw_cell_below hb5 (drew_cell r4)
                  have s14 := pw_cell_below hb5 (drew_cell r5)
                  have s15 := pw_cell_below hb5 (drew_cell r6)
                  have HB5 := Aside0.mk hb5
                  clear hb5
                  refine ⟨_, rfl, ?_⟩
                  refine hK.out _ _ ⟨s0, s1, s2, s3, s4, s5, s6, s7, s8, s9, s10, s11, s12, s13, s14, s15⟩ (fun hHeld => ?_)
                  clear hK K
                  refine norm_ (a' := ?_) ?_ ?_
                  rotate_left
                  · show Act.put _ (some 111) _ = _
                    simp only [Act.put, zz1, zz2, zz3, i64_w, i32_w]
                    rfl
                  refine pure_ (i := 16) (N := some 112) (v := ?_) (a' := ?_) #[τ,τ,τ,τ,τ,τ,τ,τ,τ,τ,τ,τ,τ,τ,τ,τ,τ,φ] rfl rfl (any_of HT_.out (by kernel_rfl)) (fun _ _ _ h => h) (Or.inl ⟨by rfl, ?_⟩) ?_ ?_
                  rotate_left; (intro w'; go_simp; with_reducible rfl); rotate_left; (simp only [Act.put, zz1, zz2, zz3, i64_w, i32_w]; rfl)
                  refine pure_ (i := 17) (N := some 113) (v := ?_) (a' := ?_) #[τ,τ,τ,τ,τ,τ,τ,τ,τ,τ,τ,τ,τ,τ,τ,τ,τ,τ] rfl rfl (any_of HT_.out (by kernel_rfl)) (fun _ _ _ h => h) (Or.inl ⟨by rfl, ?_⟩) ?_ ?_
                  rotate_left; (intro w'; go_simp; with_reducible rfl); rotate_left; (simp only [Act.put, zz1, zz2, zz3, i64_w, i32_w]; rfl)
                  refine done_ (done_of HT_.out (by kernel_rfl)) ?_
                  have hB5 : Below wr.heap.size wr W5 := ⟨HB5.out.os, HB5.out.tape, HB5.out.output, HB5.out.size, HB5.out.block⟩
                  have hNs5 := Kd.R_below HNs.out hB5
                  have hBi5 := below_then HBi.out HBi.out.size hB5
                  obtain ⟨n0, n1⟩ := int_slot hNs5 hbn
                  have hLv := lv_last c ys (q + 1) (Nat.succ_pos q)
                  rw [← HLq.out, Nat.add_sub_cancel, HD.out] at hLv
                  have hwi2 : wrap64 ((q : Int) + 1 + 1) = ((q + 1 + 1 : Nat) : Int) := by
                    rw [← hwi]
                    rfl
                  by_cases hd0 : d = 0
                  · have e10 : (d != 0) = false := by simp [hd0]
                    have HLq2 : Aside0 (lv c ys (q + 1) = lq) := ⟨by rw [hLv, if_pos hd0]; rfl⟩
                    obtain ⟨hr5, hb5⟩ := int_put hNs5 hBi5 bn (lq : Int)
                    have HT5 := Aside0.mk (HTi.out.step HYS.out hiY HA.out (q := (lq : Int)) (by rw [HLq2.out]))
                    have HR5 := Aside0.mk hr5
                    have HB6 := Aside0.mk hb5
                    clear hr5 hb5 hLv hd0 hNs5 hBi5 hB5
                    go_wp2_with (fail)
                    go_roundw
                    case rel => exact ⟨q + 1 + 1, _, lq, hlt, by first | (rw [hwi2]; done) | (rw [hwi]; done), rfl, ⟨HLq2.out.symm⟩, HR5, HT5, HB6⟩
                    case measure => first | (rw [hwi2]; exact meas hlt) | (rw [hwi]; exact meas hlt)
                  · have e10 : (d != 0) = true := by simp [hd0]
                    rw [if_neg hd0] at hLv
                    have HLq2 := Aside0.mk hLv
                    obtain ⟨hr5, hb5⟩ := int_put hNs5 hBi5 bn ((lq + 1 : Nat) : Int)
                    have HT5 := Aside0.mk (HTi.out.step HYS.out hiY HA.out (q := ((lq + 1 : Nat) : Int)) (by rw [HLq2.out]))
                    have HR5 := Aside0.mk hr5
                    have HB6 := Aside0.mk hb5
                    clear hr5 hb5 hLv hd0 hNs5 hBi5 hB5
                    go_wp2_with (fail)
                    go_roundw
                    case rel => exact ⟨q + 1 + 1, _, lq + 1, hlt, by first | (rw [hwi2]; done) | (rw [hwi]; done), by first | rfl | (rw [hwl]; done), ⟨HLq2.out.symm⟩, by first | exact HR5 | (rw [hwl]; exact HR5), HT5, by first | exact HB6 | (rw [hwl]; exact HB6)⟩
                    case measure => first | (rw [hwi2]; exact meas hlt) | (rw [hwi]; exact meas hlt)
              · obtain rfl : np = i := Nat.le_antisymm (Nat.not_lt.1 hlt) hi
                have hyl : np = ys.length := by rw [HYS.out.length_eq, ← HPp.out.length_eq, ← HNP.out]
                have hTi := HTi.out
                have hLq := HLq.out
                rw [hyl] at hTi hLq
                obtain ⟨hE1, hE2⟩ := round_end HCk.out HCd.out HRn.out HFfp.out HYS.out HU.out hTi hLq
                rw [← hyl] at hE1 hE2
                have HE1 := Aside0.mk hE1
                have HE2 := Aside0.mk hE2
                have HBe := Aside0.mk (below_then HBy.out HBy.out.size HBi.out)
                have HRe := Aside0.mk (Kd.R_lower HNs.out HBy.out.size)
                have HRye := Aside0.mk (Kd.R_mono (Kd.R_below HRy.out HBi.out) (ok' := fun _ => True) (fun _ _ => trivial))
                have hwl : wrap64 ((lq : Int) + 1) = ((lq + 1 : Nat) : Int) := by
                  have h1 := H19.out
                  have h2 := plainTo_len g g.length
                  rw [← HYS.out.length_eq] at h2
                  have h3 := lv_le c ys (ys.length - 1)
                  rw [← hLq] at h3
                  exact wr1 (n := 20) (Nat.lt_of_le_of_lt (Nat.le_trans h3 (Nat.le_trans (Nat.sub_le _ _) (Nat.le_trans h2 h1))) (by decide)) (by decide)
                clear hTi hLq hE1 hE2 hyl
                by_cases hm : lq + 1 = many
                · have e10 : (((lq + 1 : Nat) : Int) == (many : Int)) = true := by rw [hm]; simp
                  go_wp2_with (fail)
                  go_ret
                  exact ⟨_, _, rfl, HRe.out, HBe.out, HTi.out.len, HE1.out (.inl hm)⟩
                · have e10 : (((lq + 1 : Nat) : Int) == (many : Int)) = false := by
                    rw [beq_eq_false_iff_ne]
                    intro h
                    exact hm (Int.ofNat_inj.1 h)
                  by_cases hn0 : np = 0
                  · have e11 : ((np : Int) == 0) = true := by rw [hn0]; rfl
                    go_wp2_with (fail)
                    go_ret
                    exact ⟨_, _, rfl, HRe.out, HBe.out, HTi.out.len, HE1.out (.inr hn0)⟩
                  · have e11 : ((np : Int) == 0) = false := by
                      rw [beq_eq_false_iff_ne]
                      intro h
                      exact hn0 (Int.ofNat_inj.1 h)
                    go_wp2_with (fail)
                    obtain ⟨hE3, hE4, hE5⟩ := HE2.out (Nat.pos_of_ne_zero hn0)
                    have hRok : Kd.R (Kd.int .i64) 3 wr w.heap.size (fun k => some k ≠ (Value.slice A4 np c4).ownBlock) (.slice (some ⟨gN, 0, none⟩) g.length c13) ns := Kd.R_reok rfl HRe.out (fun k hk e => by
                      have h1 : W2.heap.size ≤ k := Kd.R_base HNs.out k hk
                      have h2 : k < W2.heap.size := Kd.R_lt HRy.out k e.symm
                      exact absurd (Nat.lt_of_lt_of_le h2 h1) (Nat.lt_irrefl _))
                    go_roundw
                    case rel => exact ⟨lq + 1, ns, ys, by rw [hwl], ⟨hRok⟩, HRye, HBe, ⟨HTi.out.len⟩, HYS, ⟨hE3⟩, ⟨hE5⟩⟩
                    case measure => rw [hwl]; exact meas2 hE4 hm hE5
end Go.Proofs.YtgppcpghpeenhaaDoor.CJ

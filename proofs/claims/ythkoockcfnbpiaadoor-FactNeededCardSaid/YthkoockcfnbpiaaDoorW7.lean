/- Facts: holds. -/
import Derived.Test.YthkoockcfnbpiaaDoorProg
import Derived.Test.YthkoockcfnbpiaaDoorWWords
import Derived.Test.YthkoockcfnbpiaaDoorWLast
import Derived.Test.YthkoockcfnbpiaaDoorW6
import Derived.Test.YthkoockcfnbpiaaDoorF3
namespace Go.Proofs.YthkoockcfnbpiaaDoor.W7
open Go.RowKit Go.Proofs.YthkoockcfnbpiaaDoorW.PrintWords Go.Proofs.YthkoockcfnbpiaaDoorW.PrintLast Go.Proofs.YthkoockcfnbpiaaDoorW.PrintMore Go.Proofs.YthkoockcfnbpiaaDoor L1 L4 G1 G2 S0 S1 S2 S3 S4 S5 S8 F1 W1 F2 F3 W2 W3 W4 W5 W6
set_option linter.unusedVariables false
set_option linter.unusedSimpArgs false
def ho8.T8 : Bool × List (List Nat × List Nat) := (true, [([], []), ([0], [0]), ([1], [1]), ([2], [2]), ([], []), ([], []), ([4, 5], [4, 5]), ([6], [6]), ([3, 7], [3, 7]), ([8], [8]), ([], []), ([10, 9, 0, 1, 2, 3, 4, 5, 6, 7, 8, 9, 10], [9, 10])])
def ho8.B8 : List Nat := [0, 1, 3, 7, 0, 0, 48, 112, 255, 511, 0, 2047]
theorem ho8.tab8 : rtab .any (opsOf Tryd.f34 8) = ho8.T8 := by kernel_rfl
theorem ho8.bits8 : waitsOk ho8.T8.2 ho8.B8 = true := by kernel_rfl
set_option maxHeartbeats 4000000 in
set_option maxRecDepth 100000 in
theorem holds_yes (xb : Nat) (A0 : Option Addr) (c0 : Nat) (g : List GN) (A1 : Option Addr) (c1 : Nat) (l : List FC) (a : Nat) (b : Int) (ws : List Int) (Aw : Option Addr) (cw : Nat) (w : World) (hx : Fx w xb A0 c0 g A1 c1 l) (hw : Kd.C (Kd.int .i64) w Aw ws.length ws) (hwc : ws.length ≤ cw) (ha : a < g.length) (hc : checkP g = 0) (hrs : RiseP (nd g a).f3) (hf : Fok g a b ws) (hon : (onP g ⟨a, b, ws⟩).all (inP l.length) = true) (hl : l.length ≤ 1000000000) (hwl : ws.length ≤ 1000000000) :
    Calls Tryd.prog 34 #[.pointer (some ⟨xb, 0, none⟩), .agg #[.int .i64 a, .int .i64 b, .slice Aw ws.length cw]] w fun e w' => e = .returned (.bool (holdsP g l ⟨a, b, ws⟩)) ∧ Below w.heap.size w w' := by
  have hbk := heap_alloc_new w (.cells #[.int .i64 a, .int .i64 b, .slice Aw ws.length cw] 37)
  have y0 : (w.alloc (.cells #[.int .i64 a, .int .i64 b, .slice Aw ws.length cw] 37)).cell? ⟨w.heap.size, 0, none⟩ = some (.int .i64 a) := (blk_cell hbk 0).trans rfl
  have y1 : (w.alloc (.cells #[.int .i64 a, .int .i64 b, .slice Aw ws.length cw] 37)).cell? ⟨w.heap.size, 1, none⟩ = some (.int .i64 b) := (blk_cell hbk 1).trans rfl
  have y2 : (w.alloc (.cells #[.int .i64 a, .int .i64 b, .slice Aw ws.length cw] 37)).cell? ⟨w.heap.size, 2, none⟩ = some (.slice Aw ws.length cw) := (blk_cell hbk 2).trans rfl
  have HB1 := Aside0.mk (below_alloc (Below.refl w.heap.size w) (.cells #[.int .i64 a, .int .i64 b, .slice Aw ws.length cw] 37))
  clear hbk
  have HX := Aside0.mk hx
  have HW := Aside0.mk hw
  have HWc := Aside0.mk hwc
  have HA := Aside0.mk ha
  have HC := Aside0.mk hc
  have HRs := Aside0.mk hrs
  have HF := Aside0.mk hf
  have HOn := Aside0.mk (List.all_eq_true.1 hon)
  have HL := Aside0.mk hl
  have HWl := Aside0.mk hwl
  have HOk := Aside0.mk (show (nd g a).f0 = 8 ∨ 1 ≤ ws.length from by
    rcases hf with h | h | ⟨k, m, h, _⟩
    · exact .inl h
    · exact .inr h.2.1
    · exact .inr h)
  have HOl := Aside0.mk (show (onP g ⟨a, b, ws⟩).length ≤ 1000000000 from by unfold onP; split <;> simp <;> omega)
  clear hx hw hwc ha hc hrs hf hon hl hwl
  obtain ⟨ps, hps⟩ : ∃ ps, ps = (byP g ⟨a, b, ws⟩).1 := ⟨_, rfl⟩
  obtain ⟨ok, hok⟩ : ∃ ok, ok = (byP g ⟨a, b, ws⟩).2 := ⟨_, rfl⟩
  obtain ⟨ks, hks⟩ : ∃ ks, ks = onP g ⟨a, b, ws⟩ := ⟨_, rfl⟩
  have HBy := Aside0.mk (by_yes xb A0 c0 g a b ws Aw cw (w.alloc (.cells #[.int .i64 a, .int .i64 b, .slice Aw ws.length cw] 37)) (HX.out.below HB1.out).z0 (HX.out.below HB1.out).gr HX.out.gc (Kd.C_below HW.out HB1.out) HWc.out HA.out HC.out HRs.out HF.out)
  rw [← hps, ← hok] at HBy
  rw [← hks] at HOn HOl
  have HP := Aside0.mk (show holdsP g l ⟨a, b, ws⟩ = (ok && decide (ks.map (pairOf l) = ps)) by unfold holdsP; rw [← hps, ← hok, ← hks])
  have HKs := Aside0.mk hks
  clear hps hok hks
  go_enter Tryd.func34, Tryd.ntmps34
  go_wp2_with (fail)
  generalize w.alloc (.cells #[.int .i64 a, .int .i64 b, .slice Aw ws.length cw] 37) = W1 at y0 y1 y2 HB1 HBy ⊢
  refine HBy.out.mono ?_
  rintro e W2 ⟨v, rfl, hr, hb2⟩
  obtain ⟨A5, c5, rfl, hc5, hr5⟩ := Kd.R_reads hr
  have HR5 := Aside0.mk hr5
  have HB2 := Aside0.mk (HB1.out.trans (hb2.mono HB1.out.size))
  have x0 := pw_cell_below hb2 y0
  have x1 := pw_cell_below hb2 y1
  have x2 := pw_cell_below hb2 y2
  clear hr hr5 hb2 y0 y1 y2 HB1 HBy
  go_wp2_with (fail)
  refine (on_yes xb A0 c0 g a b ws Aw cw W2 (HX.out.below HB2.out).z0 (HX.out.below HB2.out).gr HX.out.gc (Kd.C_below HW.out HB2.out) HWc.out HA.out HOk.out).mono ?_
  rw [← HKs.out]
  rintro e W3 ⟨A7, c7, rfl, hc7, hr7, hb3⟩
  have HR7 := Aside0.mk hr7
  have HR53 := Aside0.mk (Kd.C_below HR5.out hb3)
  have HB3 := Aside0.mk (HB2.out.trans (hb3.mono HB2.out.size))
  clear hr7 hb3 HR5 x0 x1 x2
  cases ok with
  | false =>
    go_wp2_with (fail)
    go_ret
    rw [HP.out]
    exact ⟨rfl, HB3.out⟩
  | true =>
    by_cases hln : ps.length = ks.length
    · have q1 : ((ps.length : Int) != (ks.length : Int)) = false := by simp [hln]
      have HLn := Aside0.mk hln
      clear hln
      go_wp2_with (fail)
      go_loopw [31] (fun v31 wr => ∃ i : Nat, i ≤ ps.length ∧ v31 = .int .i64 i ∧ Aside0 (Below W3.heap.size W3 wr) ∧ Aside0 ((ks.take i).map (pairOf l) = ps.take i)) (fun v31 _ => ps.length + 1 - (intOf v31).toNat)
      case atStart => exact ⟨0, by omega, rfl, ⟨Below.refl _ _⟩, ⟨rfl⟩⟩
      case round =>
        obtain ⟨i, hi, rfl, HBo, HI⟩ := hrel
        rename World => X
        have hw : wrap64 ((i : Int) + 1) = ((i + 1 : Nat) : Int) := by have := HOl.out; have := HLn.out; unfold wrap64; omega
        by_cases hlt : i < ps.length
        · have HBX := Aside0.mk (HB3.out.trans (HBo.out.mono HB3.out.size))
          obtain ⟨adp, eP, p0, p1⟩ := at_P (Kd.C_below HR53.out HBo.out) (i : Int) (by omega) (by omega)
          rw [Int.toNat_natCast] at p0 p1
          subst eP
          have hik : i < ks.length := by have := HLn.out; omega
          obtain ⟨adk, eK, hkm⟩ := ints_at (Kd.C_below HR7.out HBo.out) hik
          subst eK
          have hin := HOn.out (ks.getD i 0) (by rw [List.getD_eq_getElem?_getD, List.getElem?_eq_getElem hik]; exact List.getElem_mem hik)
          rw [inP_iff] at hin
          obtain ⟨j, hj⟩ := Int.eq_ofNat_of_zero_le hin.1
          rw [hj] at hkm hin
          have hjl : j < l.length := by omega
          obtain ⟨adf, Af, cf, eF, hF⟩ := fact_at (HX.out.below HBX.out).lr hjl
          obtain ⟨q, hq⟩ : ∃ q, q = ps.getD i (0, 0) := ⟨_, rfl⟩
          rw [← hq] at p0 p1
          obtain ⟨o, ho⟩ : ∃ o, o = l.getD j zF := ⟨_, rfl⟩
          rw [← ho] at hF
          have HTk := Aside0.mk (show (ks.take (i + 1)).map (pairOf l) = ps.take i ++ [(o.f0, o.f1)] by
            rw [take_one hik, hj, List.map_append, HI.out]
            simp only [List.map_cons, List.map_nil]
            unfold pairOf
            rw [Int.toNat_natCast, ← ho])
          have HTp := Aside0.mk (show ps.take (i + 1) = ps.take i ++ [q] by
            rw [List.take_add_one, List.getElem?_eq_getElem hlt, hq, List.getD_eq_getElem?_getD, List.getElem?_eq_getElem hlt]
            rfl)
          have z1 := (HX.out.below HBX.out).z1
          rw [eF] at z1
          have f0 := hF.c0
          have f1 := hF.c1
          have f2 := hF.c2
          have e1 : ((i : Int) < (ps.length : Int)) = True := eq_true (by omega)
          have e2 : ((i : Int) < (ks.length : Int)) = True := eq_true (by omega)
          have e3 : ((j : Int) < (l.length : Int)) = True := eq_true (by omega)
          clear hin hj hq ho hF eF hik
          go_wp2_with (fail)
          have hbq := heap_alloc_new X (.cells #[.int .i64 q.1, .int .i64 q.2] 72)
          have HB4 := Aside0.mk (below_drew (below_alloc (Below.refl X.heap.size X) (.cells #[.int .i64 q.1, .int .i64 q.2] 72)))
          have g1' := blk_drew hbq
          have z1' := pw_cell_below HB4.out z1
          have k1' := pw_cell_below HB4.out hkm
          have f0' := pw_cell_below HB4.out f0
          have f1' := pw_cell_below HB4.out f1
          have f2' := pw_cell_below HB4.out f2
          have hszq : X.heap.size < (X.alloc (.cells #[.int .i64 q.1, .int .i64 q.2] 72)).drew.heap.size := by
            show X.heap.size < (X.alloc (.cells #[.int .i64 q.1, .int .i64 q.2] 72)).heap.size
            rw [World.size_alloc]
            omega
          clear z1 hkm f0 f1 f2 hbq p0 p1
          refine start_ (n := 12) (S := fun w' => w'.cell? ⟨xb, 1, none⟩ = some (.slice (some adf) l.length c1) ∧ w'.cell? (adk.add i) = some (.int .i64 (j : Int)) ∧ w'.cell? (adf.add (j * 3)) = some (.int .i64 o.f0) ∧ w'.cell? ⟨(adf.add (j * 3)).block, (adf.add (j * 3)).off + 1, none⟩ = some (.int .i64 o.f1) ∧ w'.cell? ⟨(adf.add (j * 3)).block, (adf.add (j * 3)).off + 2, none⟩ = some (.slice Af o.f2.length cf)) (ds := [11]) #[φ,φ,φ,φ,φ,φ,φ,φ,φ,φ,φ,φ] (by kernel_rfl) rfl rfl ⟨z1', k1', f0', f1', f2'⟩ (fun hHeld => ?_)
          generalize (X.alloc (.cells #[.int .i64 q.1, .int .i64 q.2] 72)).drew = X2 at z1' k1' f0' f1' f2' g1' HB4 hszq hHeld ⊢
          refine with_tabW ho8.tab8 ho8.bits8 (fun HT_ HW_ => ?_)
          refine pure_ (i := 0) (N := some 36) (v := ?_) (a' := ?_) #[τ,φ,φ,φ,φ,φ,φ,φ,φ,φ,φ,φ] rfl rfl (any_of HT_.out (by kernel_rfl)) (fun _ _ _ h => h) (Or.inl ⟨by rfl, ?_⟩) ?_ ?_
          rotate_left; (intro w'; go_simp; with_reducible rfl); rotate_left; (simp only [Act.put, zz1, zz2, zz3, i64_w, i32_w]; rfl)
          refine pure_ (i := 1) (N := some 37) (v := ?_) (a' := ?_) #[τ,τ,φ,φ,φ,φ,φ,φ,φ,φ,φ,φ] rfl rfl (any_of HT_.out (by kernel_rfl)) (fun _ _ _ h => h) (Or.inl ⟨by rfl, ?_⟩) ?_ ?_
          rotate_left; (intro w'; go_simp; with_reducible rfl); rotate_left; (simp only [Act.put, zz1, zz2, zz3, i64_w, i32_w]; rfl)
          refine pure_ (i := 2) (N := some 38) (v := ?_) (a' := ?_) #[τ,τ,τ,φ,φ,φ,φ,φ,φ,φ,φ,φ] rfl rfl (any_of HT_.out (by kernel_rfl)) (fun _ _ _ h => h) (Or.inl ⟨by rfl, ?_⟩) ?_ ?_
          rotate_left; (intro w'; go_simp; with_reducible rfl); rotate_left; (simp only [Act.put, zz1, zz2, zz3, i64_w, i32_w]; rfl)
          refine pure_ (i := 4) (N := some 40) (v := ?_) (a' := ?_) #[τ,τ,τ,φ,τ,φ,φ,φ,φ,φ,φ,φ] rfl rfl (any_of HT_.out (by kernel_rfl)) (fun _ _ _ h => h) (Or.inl ⟨by rfl, ?_⟩) ?_ ?_
          rotate_left; (intro w'; go_simp; with_reducible rfl); rotate_left; (simp only [Act.put, zz1, zz2, zz3, i64_w, i32_w]; rfl)
          refine pure_ (i := 5) (N := some 41) (v := ?_) (a' := ?_) #[τ,τ,τ,φ,τ,τ,φ,φ,φ,φ,φ,φ] rfl rfl (any_of HT_.out (by kernel_rfl)) (fun _ _ _ h => h) (Or.inl ⟨by rfl, ?_⟩) ?_ ?_
          rotate_left; (intro w'; go_simp; with_reducible rfl); rotate_left; (simp only [Act.put, zz1, zz2, zz3, i64_w, i32_w]; rfl)
          refine pure_ (i := 6) (N := some 42) (v := ?_) (a' := ?_) #[τ,τ,τ,φ,τ,τ,τ,φ,φ,φ,φ,φ] rfl rfl (any_of HT_.out (by kernel_rfl)) (fun _ _ _ h => h) (Or.inl ⟨by rfl, ?_⟩) ?_ ?_
          rotate_left; (intro w'; go_simp; with_reducible rfl); rotate_left; (simp only [Act.put, zz1, zz2, zz3, i64_w, i32_w]; rfl)
          refine take_ (i := 3) (N := some 39) (v := ?_) (a' := ?_) #[τ,τ,τ,τ,τ,τ,τ,φ,φ,φ,φ,φ] rfl rfl (take_ofW HT_.out HW_.out (by kernel_rfl)) (fun _ _ _ h => h) (Or.inl ⟨by rfl, ?_⟩) hHeld ?_ ?_
          rotate_left; (rintro w' ⟨s0, s1, s2, s3, s4⟩; go_simp; with_reducible rfl); rotate_left; (simp only [Act.put, zz1, zz2, zz3, i64_w, i32_w]; rfl)
          refine take_ (i := 7) (N := some 43) (v := ?_) (a' := ?_) #[τ,τ,τ,τ,τ,τ,τ,τ,φ,φ,φ,φ] rfl rfl (take_ofW HT_.out HW_.out (by kernel_rfl)) (fun _ _ _ h => h) (Or.inl ⟨by rfl, ?_⟩) hHeld ?_ ?_
          rotate_left; (rintro w' ⟨s0, s1, s2, s3, s4⟩; go_simp; with_reducible rfl); rotate_left; (simp only [Act.put, zz1, zz2, zz3, i64_w, i32_w]; rfl)
          refine pure_ (i := 8) (N := some 44) (v := ?_) (a' := ?_) #[τ,τ,τ,τ,τ,τ,τ,τ,τ,φ,φ,φ] rfl rfl (any_of HT_.out (by kernel_rfl)) (fun _ _ _ h => h) (Or.inl ⟨by rfl, ?_⟩) ?_ ?_
          rotate_left; (intro w'; go_simp; with_reducible rfl); rotate_left; (simp only [Act.put, zz1, zz2, zz3, i64_w, i32_w]; rfl)
          refine take_ (i := 9) (N := some 45) (v := ?_) (a' := ?_) #[τ,τ,τ,τ,τ,τ,τ,τ,τ,τ,φ,φ] rfl rfl (take_ofW HT_.out HW_.out (by kernel_rfl)) (fun _ _ _ h => h) (Or.inl ⟨by rfl, ?_⟩) hHeld ?_ ?_
          rotate_left; (rintro w' ⟨s0, s1, s2, s3, s4⟩; go_simp; with_reducible rfl); rotate_left; (simp only [Act.put, zz1, zz2, zz3, i64_w, i32_w]; rfl)
          refine one_ (i := 10) (N := some 10) #[τ,τ,τ,τ,τ,τ,τ,τ,τ,τ,τ,φ] rfl rfl (one_of HT_.out (by kernel_rfl)) (by decide) (fun K hK => ?_)
          refine value_ (w1 := ?_) (v := ?_) (by rfl) rfl ?_ ?_
          rotate_left 2
          · go_simp
            constructor
            · rfl
            · rfl
          have hzb := heap_alloc_new X2 (.cells #[.int .i64 0, .int .i64 0, .slice none 0 0] 37)
          obtain ⟨s0, t0, s1, t1, s2, t2, hfin⟩ := store3_ hzb (.int .i64 o.f0) (.int .i64 o.f1) (.slice Af o.f2.length cf)
          refine hK.out _ _ ⟨pw_cell_below (below_alloc (Below.refl _ _) _) z1', pw_cell_below (below_alloc (Below.refl _ _) _) k1', pw_cell_below (below_alloc (Below.refl _ _) _) f0', pw_cell_below (below_alloc (Below.refl _ _) _) f1', pw_cell_below (below_alloc (Below.refl _ _) _) f2'⟩ (fun hHeld => ?_)
          clear hK K
          refine norm_ (a' := ?_) ?_ ?_
          rotate_left
          · show Act.put _ (some 10) _ = _
            simp only [Act.put, zz1, zz2, zz3, i64_w, i32_w]
            rfl
          refine last_ (i := 11) (N := none) #[τ,τ,τ,τ,τ,τ,τ,τ,τ,τ,τ,τ] rfl rfl (one_of HT_.out (by kernel_rfl)) (by decide) (fun K hK => ?_)
          refine skip_ (w1 := ?_) (by rfl) rfl ?_ ?_
          rotate_left
          · go_simp
            rfl
          refine hK.out _ _ ?_
          clear hK K
          refine done_ (done_of HT_.out (by kernel_rfl)) ?_
          clear s0 t0 s1 t1 s2 t2 z1' k1' f0' f1' f2' hHeld hfin hzb
          have hfin := heap_alloc_new X2 (.cells #[.int .i64 o.f0, .int .i64 o.f1, .slice Af o.f2.length cf] 37)
          have hqf := blk_alloc g1' (.cells #[.int .i64 o.f0, .int .i64 o.f1, .slice Af o.f2.length cf] 37)
          have hYb := below_alloc (Below.refl X2.heap.size X2) (.cells #[.int .i64 o.f0, .int .i64 o.f1, .slice Af o.f2.length cf] 37)
          generalize (X2.alloc (.cells #[.int .i64 o.f0, .int .i64 o.f1, .slice Af o.f2.length cf] 37)) = Y at hfin hqf hYb ⊢
          have y0 := (blk_cell hfin 0).trans rfl
          have y1 := (blk_cell hfin 1).trans rfl
          have y2 := (blk_cell hfin 2).trans rfl
          have q0 := (blk_cell hqf 0).trans rfl
          have q1' := (blk_cell hqf 1).trans rfl
          have HBY := Aside0.mk (HBo.out.trans ((HB4.out.trans (hYb.mono HB4.out.size)).mono HBo.out.size))
          clear hfin hqf hYb
          have HNE := Aside0.mk (fun (hne : (o.f0, o.f1) ≠ q) => show decide (ks.map (pairOf l) = ps) = false from by
            simp
            intro e
            have h1 : (ks.take (i + 1)).map (pairOf l) = ps.take (i + 1) := by rw [← e, List.map_take]
            rw [HTk.out, HTp.out] at h1
            have := List.append_cancel_left h1
            simp at this
            exact hne this)
          by_cases hq0 : q.1 = o.f0
          · have c0_ : (q.1 == o.f0) = true := by simp [hq0]
            by_cases hq1 : q.2 = o.f1
            · have c1_ : (q.2 == o.f1) = true := by simp [hq1]
              have HE := Aside0.mk (show (ks.take (i + 1)).map (pairOf l) = ps.take (i + 1) by rw [HTk.out, HTp.out, ← hq0, ← hq1])
              clear hq0 hq1
              go_wp2_with (fail)
              go_roundw
              case rel => exact ⟨i + 1, by omega, by first | (rw [hw]; done) | (rw [Int.natCast_add]; rfl), HBY, HE⟩
              case measure => first | (rw [hw]; simp only [intOf]; omega) | (simp only [intOf]; omega)
            · have c1_ : (q.2 == o.f1) = false := by simp [hq1]
              have HD := Aside0.mk (HNE.out (fun e => hq1 (congrArg Prod.snd e).symm))
              clear hq0 hq1
              go_wp2_with (fail)
              go_ret
              rw [HP.out, HD.out]
              exact ⟨rfl, HB3.out.trans (HBY.out.mono HB3.out.size)⟩
          · have c0_ : (q.1 == o.f0) = false := by simp [hq0]
            have HD := Aside0.mk (HNE.out (fun e => hq0 (congrArg Prod.fst e).symm))
            clear hq0
            go_wp2_with (fail)
            go_ret
            rw [HP.out, HD.out]
            exact ⟨rfl, HB3.out.trans (HBY.out.mono HB3.out.size)⟩
        · obtain rfl : i = ps.length := by omega
          go_wp2_with (fail)
          go_ret
          rw [HP.out]
          have h1 := HI.out
          rw [HLn.out, List.take_length] at h1
          rw [← HLn.out, List.take_length] at h1
          exact ⟨by rw [h1]; simp, HB3.out.trans (HBo.out.mono HB3.out.size)⟩
    · have q1 : ((ps.length : Int) != (ks.length : Int)) = true := by simp; omega
      have HD := Aside0.mk (show decide (ks.map (pairOf l) = ps) = false from by
        simp
        rintro e
        rw [← e, List.length_map] at hln
        exact hln rfl)
      clear hln
      go_wp2_with (fail)
      go_ret
      rw [HP.out, HD.out]
      exact ⟨rfl, HB3.out⟩
end Go.Proofs.YthkoockcfnbpiaaDoor.W7

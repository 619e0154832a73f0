/- canon.set. -/
/- canon.compare's closure; slices.CompareFunc of lists of ranks. -/
import Derived.Test.YtgppcpghpeenhaaDoorProg
import Derived.Test.YtgppcpghpeenhaaDoorWWords
import Derived.Test.YtgppcpghpeenhaaDoorWLast
import Derived.Test.YtgppcpghpeenhaaDoorCD
import Derived.Test.YtgppcpghpeenhaaDoorG2
namespace Go.Proofs.YtgppcpghpeenhaaDoor.CE
open Go.RowKit Go.Proofs.YtgppcpghpeenhaaDoorW.PrintWords Go.Proofs.YtgppcpghpeenhaaDoorW.PrintLast Go.Proofs.YtgppcpghpeenhaaDoorW.PrintMore Go.Proofs.YtgppcpghpeenhaaDoor L1 G1 G2 N1 N2 N3 N4 N5 CB CC CD
set_option linter.unusedVariables false
set_option linter.unusedSimpArgs false
theorem ints_at {w : World} {A : Option Addr} {l : List Int} (h : Kd.C (Kd.int .i64) w A l.length l) {i : Nat} (hi : i < l.length) : ∃ ad, A = some ad ∧ w.cell? (ad.add i) = some (.int .i64 (l.getD i 0)) := by
  obtain ⟨ad, e, hc⟩ := Kd.at_int h (i : Int) (by omega) (by omega)
  rw [Int.toNat_natCast] at hc
  exact ⟨ad, e, hc⟩
theorem take_one {α : Type} {l : List α} {i : Nat} (h : i < l.length) (d : α) : l.take (i + 1) = l.take i ++ [l.getD i d] := by
  rw [List.take_add_one, List.getElem?_eq_getElem h, List.getD_eq_getElem?_getD, List.getElem?_eq_getElem h]
  rfl
/-- What canon.set answers. -/
def SetP (g : List GN) (rs : List Int) (n : Int) (w : World) (e : Ending) (w' : World) : Prop :=
  ∃ v s, e = .returned v ∧ Kd.R (Kd.int .i64) 3 w' w.heap.size (fun _ => True) v s ∧ Below w.heap.size w w' ∧ SetOf g (rd rs) n s ∧ s.length ≤ (membersP g n).length
set_option maxHeartbeats 4000000 in
set_option maxRecDepth 100000 in
theorem set_calls (Ag Ar : Option Addr) (cg cr : Nat) (g : List GN) (rs : List Int) (n : Int) (w : World) (hg : Kd.C P.k33 w Ag g.length g) (hcg : g.length ≤ cg) (hs : ∀ x ∈ g, x.f4.length ≤ 1000000000)
    (hr : Kd.C (Kd.int .i64) w Ar rs.length rs) (hcr : rs.length ≤ cr) (hin : ∀ x ∈ membersP g n, 0 ≤ x ∧ x < rs.length) (h12 : (membersP g n).length ≤ 12) :
    Calls Tryd.prog 18 #[.slice Ag g.length cg, .slice Ar rs.length cr, .int .i64 n] w (SetP g rs n w) := by
  have HG := Aside0.mk hg
  have HR := Aside0.mk hr
  have HI := Aside0.mk hin
  have H12 := Aside0.mk h12
  have HS := Aside0.mk hs
  clear hg hr hin h12 hs
  go_enter Tryd.func18, Tryd.ntmps18
  go_wp2_with (fail)
  refine (members_yes Ag cg g n w HG.out hcg HS.out).mono ?_
  rintro e V ⟨u, rfl, hu, hb⟩
  have HB := Aside0.mk hb
  have hgt : w.heap.size ≤ V.heap.size := hb.size
  have HGT := Aside0.mk hgt
  have HR2 := Aside0.mk (Kd.C_below HR.out hb)
  obtain ⟨Am, cm, rfl⟩ := Kd.R_slice hu
  have HM := Aside0.mk (Kd.R_reads' hu).2.2
  obtain ⟨ms, hms⟩ : ∃ ms, ms = membersP g n := ⟨_, rfl⟩
  rw [← hms] at HI H12 HM ⊢
  have HMS := Aside0.mk hms
  clear hu hb hgt HG HR hms
  go_wp2_with (fail)
  go_loopw [7, 14] (fun v7 v14 wr => ∃ i : Nat, i ≤ ms.length ∧ v14 = .int .i64 i ∧ Aside0 (Kd.R (Kd.int .i64) 3 wr V.heap.size (fun _ => True) v7 ((ms.take i).map (rd rs))) ∧ Aside0 (Below V.heap.size V wr)) (fun v7 v14 _ => ms.length + 1 - (intOf v14).toNat)
  case atStart => exact ⟨0, by omega, rfl, ⟨Kd.R_nil _ _ _ _ _⟩, ⟨Below.refl _ _⟩⟩
  case round =>
    obtain ⟨i, hi, rfl, HRo, HBo⟩ := hrel
    rename World => X
    have hw : wrap64 ((i : Int) + 1) = ((i + 1 : Nat) : Int) := by have := H12.out; unfold wrap64; omega
    by_cases hlt : i < ms.length
    · obtain ⟨adl, eL, hm⟩ := ints_at (Kd.C_below HM.out HBo.out) hlt
      subst eL
      have HTk := Aside0.mk (take_one hlt 0)
      have hin : ms.getD i 0 ∈ ms := by
        rw [List.getD_eq_getElem?_getD, List.getElem?_eq_getElem hlt]
        exact List.getElem_mem hlt
      obtain ⟨y, hy⟩ : ∃ y, y = ms.getD i 0 := ⟨_, rfl⟩
      rw [← hy] at hm HTk hin
      obtain ⟨hy0, hy1⟩ := HI.out y hin
      obtain ⟨adr, eR, hq⟩ := Kd.at_int (Kd.C_below HR2.out HBo.out) y hy0 hy1
      subst eR
      clear hy hin
      have HAL : Aside0 ((((ms.take i).map (rd rs)).length + 1) * 8 ≤ 140737488355328) := ⟨by
        rw [List.length_map, List.length_take]
        have := H12.out
        omega⟩
      have e0 : decide (y < (rs.length : Int)) = true := decide_eq_true hy1
      have e1 : decide (0 ≤ y) = true := decide_eq_true hy0
      go_wp2_with (first | ((with_reducible refine gate_builtin (b := .append) (xs := #[.tmp 18, .tmp 23]) rfl ?_); at_builtin; refine Kd.R_append (Kd.int .i64) (w0 := V) V.heap.size rfl (.tmp 18) (.tmp 23) 31 3 (.int .i64 0) 8 rfl Tryd.underlying31 CA.info3 rfl (by decide) (by omega) u7 _ (rd rs y) [.int .i64 (rd rs y)] (fun _ => True) (fun _ => False) rfl rfl rfl (fun _ hk => hk.elim) (fun _ _ => trivial) HRo.out HBo.out HBo.out.size HAL.out ?_; intro v9 W9 ho hb hg9 hat9))
      have HO := Aside0.mk (show Kd.R (Kd.int .i64) 3 W9 V.heap.size (fun _ => True) v9 ((ms.take (i + 1)).map (rd rs)) by
        rw [HTk.out, List.map_append]
        exact ho)
      have HB9 := Aside0.mk hb
      clear ho hb hg9 hat9
      go_wp2_with (fail)
      go_roundw
      case rel => exact ⟨i + 1, by omega, by first | (rw [hw]; done) | (rw [Int.natCast_add]; rfl), HO, HB9⟩
      case measure => first | (rw [hw]; simp only [intOf]; omega) | (simp only [intOf]; omega)
    · obtain rfl : i = ms.length := by omega
      go_wp2_with (fail)
      have hr9 := HRo.out
      rw [List.take_length] at hr9
      refine (sort_small (P0 := fun _ => True) (w0 := V) (l := ms.map (rd rs)) (by rw [List.length_map]; exact H12.out) HBo.out hr9).mono ?_
      rintro e W1 ⟨rfl, ys, hp, hsd, hy0, hb1, _⟩
      have HP := Aside0.mk hp
      have HSD := Aside0.mk hsd
      have HY := Aside0.mk (Kd.R_mono hy0 (fun _ _ => trivial) : Kd.R (Kd.int .i64) 3 W1 V.heap.size (fun _ => True) u7 ys)
      have HB1 := Aside0.mk hb1
      clear hr9 hp hsd hy0 hb1
      go_wp2_with (fail)
      refine (compact_calls (P0 := fun _ => True) (w0 := V) (l := ys) (by rw [HP.out.length_eq, List.length_map]; have := H12.out; omega) HB1.out HY.out).mono ?_
      rintro e W2 ⟨v', rfl, hz, hb2, _⟩
      have HZ := Aside0.mk (Kd.R_mono hz (fun _ _ => trivial) : Kd.R (Kd.int .i64) 3 W2 V.heap.size (fun _ => True) v' (Lib.compact ys))
      have HB2 := Aside0.mk hb2
      clear hz hb2
      go_wp2_with (fail)
      go_ret
      refine ⟨_, _, rfl, Kd.R_lower HZ.out HGT.out, HB.out.trans (HB2.out.mono HGT.out), ⟨compact_srt ys HSD.out, fun v => ?_⟩, ?_⟩
      · rw [compact_mem, HP.out.mem_iff, HMS.out]
      · refine Nat.le_trans (compact_len ys) ?_
        rw [HP.out.length_eq, List.length_map, HMS.out]
        exact Nat.le_refl _
end Go.Proofs.YtgppcpghpeenhaaDoor.CE
namespace Go.Proofs.YtgppcpghpeenhaaDoor.CF
open Go.RowKit Go.Proofs.YtgppcpghpeenhaaDoorW.PrintWords Go.Proofs.YtgppcpghpeenhaaDoorW.PrintLast Go.Proofs.YtgppcpghpeenhaaDoorW.PrintMore Go.Proofs.YtgppcpghpeenhaaDoor L1 G1 G2 N1 N2 N3 N4 N5 CA CB CC CD CE
set_option linter.unusedVariables false
set_option linter.unusedSimpArgs false
/-- Lists of lists of numbers in memory. -/
abbrev KL : Kd (List Int) := Kd.slice 3 (Kd.int .i64)
theorem lists_at {w : World} {A : Option Addr} {xs : List (List Int)} (h : Kd.C KL w A xs.length xs) {i : Nat} (hi : i < xs.length) :
    ∃ ad A0 c0, A = some ad ∧ w.cell? (ad.add i) = some (.slice A0 (xs.getD i []).length c0) ∧ (xs.getD i []).length ≤ c0 ∧ Kd.C (Kd.int .i64) w A0 (xs.getD i []).length (xs.getD i []) := by
  obtain ⟨ad, c, e, hlen, hK, hc⟩ := Kd.C_get h ([] : List Int) (i : Int) (by omega) (by omega)
  rw [Int.toNat_natCast] at hK hc
  obtain ⟨A0, c0, rfl, l0, g0⟩ := hK
  have h0 := hc 0 _ rfl
  rw [show (KL).sz = 1 from rfl, Nat.mul_one, Nat.add_zero] at h0
  exact ⟨ad, A0, c0, e, h0, l0, g0⟩
set_option maxHeartbeats 4000000 in
set_option maxRecDepth 100000 in
theorem c1_calls (A B : Option Addr) (ca cb : Nat) (a b : List Int) (w : World) (ha : Kd.C (Kd.int .i64) w A a.length a) (hca : a.length ≤ ca) (hb : Kd.C (Kd.int .i64) w B b.length b) (hcb : b.length ≤ cb) (hl : a.length ≤ 1000000000) :
    Calls Tryd.prog 53 #[.slice A a.length ca, .slice B b.length cb] w fun e w' => e = .returned (.int .i64 (cmpL cmpI a b)) ∧ Drawn0 w w' := by
  go_enter Tryd.func53, Tryd.ntmps53
  go_wp2_with (fail)
  refine (slices_Compare_int_int.calls (a.length + 1) A ca a B cb b _ w ha hca hb hcb (compI_f hl)).mono ?_
  rintro e w' ⟨rfl, ⟨m, rfl⟩⟩
  go_wp2_with (fail)
  go_ret
  exact ⟨rfl, by repeat (first | exact Drawn0.refl _ | apply Drawn0.step)⟩
set_option maxHeartbeats 4000000 in
set_option maxRecDepth 100000 in
theorem compF_calls (A B : Option Addr) (ca cb : Nat) (s t : List (List Int)) (w : World) (hs : Kd.C KL w A s.length s) (hcs : s.length ≤ ca) (ht : Kd.C KL w B t.length t) (hct : t.length ≤ cb) (hl : s.length ≤ 1000000000) (hle : ∀ l ∈ s, l.length ≤ 1000000000) :
    Calls Tryd.prog 52 #[.slice A s.length ca, .slice B t.length cb, .func (.func 53) #[] #[]] w fun e w' => e = .returned (.int .i64 (cmpL (cmpL cmpI) s t)) ∧ Drawn0 w w' := by
  have HS := Aside0.mk hs
  have HT := Aside0.mk ht
  have HL := Aside0.mk hl
  have HLE := Aside0.mk hle
  clear hs ht hl hle
  go_enter Tryd.func52, Tryd.ntmps52
  go_wp2_with (fail)
  go_loopw [13] (fun v13 wr => ∃ i : Nat, i ≤ s.length ∧ i ≤ t.length ∧ v13 = .int .i64 i ∧ (∃ m, wr = w.drewN m) ∧ Aside0 (cmpL (cmpL cmpI) s t = cmpL (cmpL cmpI) (s.drop i) (t.drop i))) (fun v13 _ => s.length + 1 - (intOf v13).toNat)
  case atStart => exact ⟨0, by omega, by omega, rfl, ⟨0, rfl⟩, ⟨rfl⟩⟩
  case round =>
    obtain ⟨i, hi, hi2, rfl, ⟨m, rfl⟩, HE⟩ := hrel
    have hw : wrap64 ((i : Int) + 1) = ((i + 1 : Nat) : Int) := by have := HL.out; unfold wrap64; omega
    by_cases hlt : i < s.length
    · obtain ⟨ad1, A1, c1, eS, q1, l1, g1⟩ := lists_at HS.out hlt
      subst eS
      have hm1 : s.getD i [] ∈ s := by
        rw [List.getD_eq_getElem?_getD, List.getElem?_eq_getElem hlt]
        exact List.getElem_mem hlt
      have hle1 := HLE.out _ hm1
      have hd1 : s.drop i = s.getD i [] :: s.drop (i + 1) := by
        rw [List.drop_eq_getElem_cons hlt, List.getD_eq_getElem?_getD, List.getElem?_eq_getElem hlt]
        rfl
      have HD1 := Aside0.mk hd1
      clear hd1
      obtain ⟨y1, hy1⟩ : ∃ y, y = s.getD i [] := ⟨_, rfl⟩
      rw [← hy1] at q1 l1 g1 hm1 hle1 HD1
      clear hy1 hm1
      have q1' : (w.drewN m).cell? (ad1.add i) = some (.slice A1 y1.length c1) := q1
      by_cases hlt2 : i < t.length
      · obtain ⟨ad2, A2, c2, eT, q2, l2, g2⟩ := lists_at HT.out hlt2
        subst eT
        have hd2 : t.drop i = t.getD i [] :: t.drop (i + 1) := by
          rw [List.drop_eq_getElem_cons hlt2, List.getD_eq_getElem?_getD, List.getElem?_eq_getElem hlt2]
          rfl
        have HD2 := Aside0.mk hd2
        clear hd2
        obtain ⟨y2, hy2⟩ : ∃ y, y = t.getD i [] := ⟨_, rfl⟩
        rw [← hy2] at q2 l2 g2 HD2
        clear hy2
        have q2' : (w.drewN m).cell? (ad2.add i) = some (.slice A2 y2.length c2) := q2
        have e1 : ((t.length : Int) ≤ (i : Int)) = False := eq_false (by omega)
        go_wp2_with (fail)
        refine (c1_calls A1 A2 c1 c2 y1 y2 (w.drewN m) (Kd.C_below g1 (pw_below_drewN (Below.refl _ _) m)) l1 (Kd.C_below g2 (pw_below_drewN (Below.refl _ _) m)) l2 hle1).mono ?_
        rintro e w2 ⟨rfl, ⟨m2, rfl⟩⟩
        by_cases h0 : cmpL cmpI y1 y2 = 0
        · have HE2 := Aside0.mk (show cmpL (cmpL cmpI) s t = cmpL (cmpL cmpI) (s.drop (i + 1)) (t.drop (i + 1)) by
            rw [HE.out, HD1.out, HD2.out]
            show (if cmpL cmpI y1 y2 = 0 then _ else _) = _
            rw [if_pos h0])
          rw [h0]
          clear q1' q2' h0
          go_wp2_with (fail)
          go_roundw
          case rel => exact ⟨i + 1, by omega, by omega, by first | (rw [hw]; done) | (rw [Int.natCast_add]; rfl), ⟨m + m2, by first | rfl | (simp [World.drewN, Nat.add_assoc, Nat.add_comm, Nat.add_left_comm]; done) | skip⟩, HE2⟩
          case measure => first | (rw [hw]; simp only [intOf]; omega) | (simp only [intOf]; omega)
        · have HE2 := Aside0.mk (show cmpL (cmpL cmpI) s t = cmpL cmpI y1 y2 by
            rw [HE.out, HD1.out, HD2.out]
            show (if cmpL cmpI y1 y2 = 0 then _ else _) = _
            rw [if_neg h0])
          obtain ⟨r, hr⟩ : ∃ r, r = cmpL cmpI y1 y2 := ⟨_, rfl⟩
          rw [← hr] at h0 HE2 ⊢
          have e2 : (r != 0) = true := bne_iff_ne.mpr h0
          clear q1' q2' hr
          go_wp2_with (fail)
          go_ret
          exact ⟨by rw [HE2.out]; rfl, by repeat (first | exact Drawn0.refl _ | apply Drawn0.step)⟩
      · have e1 : ((t.length : Int) ≤ (i : Int)) = True := eq_true (by omega)
        have HE2 := Aside0.mk (show cmpL (cmpL cmpI) s t = 1 by
          rw [HE.out, HD1.out, List.drop_eq_nil_of_le (show t.length ≤ i by omega)]
          rfl)
        go_wp2_with (fail)
        go_ret
        exact ⟨by rw [HE2.out]; rfl, by repeat (first | exact Drawn0.refl _ | apply Drawn0.step)⟩
    · obtain rfl : i = s.length := by omega
      by_cases h1 : s.length < t.length
      · have HE2 := Aside0.mk (show cmpL (cmpL cmpI) s t = -1 by
          rw [HE.out, List.drop_eq_nil_of_le (Nat.le_refl _), List.drop_eq_getElem_cons h1]
          rfl)
        have e1 : ((s.length : Int) < (t.length : Int)) = True := eq_true (by omega)
        go_wp2_with (fail)
        go_ret
        exact ⟨by rw [HE2.out]; rfl, by repeat (first | exact Drawn0.refl _ | apply Drawn0.step)⟩
      · have HE2 := Aside0.mk (show cmpL (cmpL cmpI) s t = 0 by
          rw [HE.out, List.drop_eq_nil_of_le (Nat.le_refl _), List.drop_eq_nil_of_le (show t.length ≤ s.length by omega)]
          rfl)
        have e1 : ((s.length : Int) < (t.length : Int)) = False := eq_false (by omega)
        go_wp2_with (fail)
        go_ret
        exact ⟨by rw [HE2.out]; rfl, by repeat (first | exact Drawn0.refl _ | apply Drawn0.step)⟩
end Go.Proofs.YtgppcpghpeenhaaDoor.CF

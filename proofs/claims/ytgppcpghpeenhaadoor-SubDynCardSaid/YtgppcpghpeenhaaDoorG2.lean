/- graph.Check and graph.Members. -/
import Derived.Test.YtgppcpghpeenhaaDoorProg
import Derived.Test.YtgppcpghpeenhaaDoorWWords
import Derived.Test.YtgppcpghpeenhaaDoorWLast
import Derived.Test.YtgppcpghpeenhaaDoorG1
namespace Go.Proofs.YtgppcpghpeenhaaDoor.G2
open Go.RowKit Go.Proofs.YtgppcpghpeenhaaDoorW.PrintWords Go.Proofs.YtgppcpghpeenhaaDoorW.PrintLast Go.Proofs.YtgppcpghpeenhaaDoorW.PrintMore Go.Proofs.YtgppcpghpeenhaaDoor L1 L2 L3 L4 G1
set_option linter.unusedVariables false
set_option linter.unusedSimpArgs false
def checkP (g : List GN) : Int := if 2000 < g.length then 5 else if g.all (mayP g) then 0 else 2
set_option maxHeartbeats 4000000 in
set_option maxRecDepth 100000 in
theorem check_yes (A0 : Option Addr) (c0 : Nat) (g : List GN) (w : World) (hK : Keys w) (hg : Kd.C P.k33 w A0 g.length g) (hgc : g.length ≤ c0) :
    Calls Tryd.prog 12 #[.slice A0 g.length c0] w fun e w' => e = .returned (.int .i64 (checkP g)) ∧ Below w.heap.size w w' := by
  have HK := Aside0.mk hK
  have HG := Aside0.mk hg
  have HGc := Aside0.mk hgc
  clear hK hg hgc
  go_enter Tryd.func12, Tryd.ntmps12
  by_cases h2 : 2000 < g.length
  · have HP := Aside0.mk (show checkP g = 5 from if_pos h2)
    go_wp2_with (fail)
    go_ret
    exact ⟨by rw [HP.out]; rfl, Below.refl _ _⟩
  · have H2 := Aside0.mk h2
    go_wp2_with (fail)
    clear h2
    go_loopw [10] (fun v10 wr => ∃ i : Nat, i ≤ g.length ∧ v10 = .int .i64 i ∧ Aside0 ((g.take i).all (mayP g) = true) ∧ Aside0 (Below w.heap.size w wr)) (fun v10 _ => g.length + 1 - (intOf v10).toNat)
    case atStart => exact ⟨0, by omega, rfl, ⟨rfl⟩, ⟨Below.refl _ _⟩⟩
    case round =>
      obtain ⟨i, hi, rfl, HA, HB⟩ := hrel
      by_cases hlt : i < g.length
      · obtain ⟨ad, A3, c3, A4, c4, eA, q0, q1, q2, q3, q4, l3, g3, l4, g4⟩ := P.at_T33 HG.out (i : Int) (by omega) (by omega)
        cases eA
        have hx : P.rd_T33 g (i : Int) = g[i] := by
          show g.getD i _ = _
          rw [List.getD_eq_getElem?_getD, List.getElem?_eq_getElem hlt]; rfl
        have hs : (g.take (i + 1)).all (mayP g) = mayP g g[i] := by
          rw [List.take_add_one, List.all_append, HA.out, Bool.true_and, List.getElem?_eq_getElem hlt]
          simp
        obtain ⟨x, hxx⟩ : ∃ x, x = g[i] := ⟨_, rfl⟩
        rw [hx, ← hxx] at q0 q1 q2 q3 q4 l3 g3 l4 g4
        rw [← hxx] at hs
        rw [Int.toNat_natCast] at q0 q1 q2 q3 q4
        have HS := Aside0.mk hs
        have HX := Aside0.mk (show x ∈ g by rw [hxx]; exact List.getElem_mem hlt)
        have p0 := (HB.out.cell (World.block_lt_of_cell? w _ q0)).trans q0
        have p1 := (HB.out.cell (World.block_lt_of_cell? w _ q1)).trans q1
        have p2 := (HB.out.cell (World.block_lt_of_cell? w _ q2)).trans q2
        have p3 := (HB.out.cell (World.block_lt_of_cell? w _ q3)).trans q3
        have p4 := (HB.out.cell (World.block_lt_of_cell? w _ q4)).trans q4
        have HL3 := Aside0.mk l3
        have HL4 := Aside0.mk l4
        have HG3 := Aside0.mk g3
        have HG4 := Aside0.mk g4
        clear q0 q1 q2 q3 q4 l3 l4 g3 g4 hx hs hxx
        have HB2 := Aside0.mk (below_alloc HB.out (.cells #[.int .i64 x.f0, .int .i64 x.f1, .string x.f2, .slice A3 x.f3.length c3, .slice A4 x.f4.length c4] 33))
        have HD := Aside0.mk (show decide (2000 < (g.length : Int)) = false from decide_eq_false (by have := H2.out; omega))
        cases hm : mayP g x with
        | true =>
          have HM := Aside0.mk hm
          clear hm
          go_wp2_with (fail)
          refine (may_yes (some ad) c0 g x A3 c3 A4 c4 _ (HK.out.below HB2.out) (Kd.C_below HG.out HB2.out) HGc.out (Kd.C_below HG3.out HB2.out) HL3.out (Kd.C_below HG4.out HB2.out) HL4.out).mono ?_
          rw [HM.out]
          rintro e w' ⟨rfl, hb⟩
          have HB3 := Aside0.mk (HB2.out.trans (hb.mono HB2.out.size))
          clear hb
          go_wp2_with (fail)
          go_roundw
          case rel => exact ⟨i + 1, by omega, by rw [Int.natCast_add]; rfl, ⟨by rw [HS.out, HM.out]⟩, HB3⟩
          case measure => simp only [intOf]; omega
        | false =>
          have HM := Aside0.mk hm
          have HP := Aside0.mk (show checkP g = 2 by
            unfold checkP
            rw [if_neg H2.out, if_neg (by rw [List.all_eq_true]; intro h; have := h x HX.out; rw [hm] at this; exact absurd this (by simp))])
          clear hm
          go_wp2_with (fail)
          refine (may_yes (some ad) c0 g x A3 c3 A4 c4 _ (HK.out.below HB2.out) (Kd.C_below HG.out HB2.out) HGc.out (Kd.C_below HG3.out HB2.out) HL3.out (Kd.C_below HG4.out HB2.out) HL4.out).mono ?_
          rw [HM.out]
          rintro e w' ⟨rfl, hb⟩
          have HB3 := Aside0.mk (HB2.out.trans (hb.mono HB2.out.size))
          clear hb
          go_wp2_with (fail)
          go_ret
          exact ⟨by rw [HP.out]; rfl, HB3.out⟩
      · obtain rfl : i = g.length := by omega
        have HP := Aside0.mk (show checkP g = 0 by
          unfold checkP
          rw [if_neg H2.out, if_pos (by have := HA.out; rwa [List.take_length] at this)])
        go_wp2_with (fail)
        go_ret
        exact ⟨by rw [HP.out]; rfl, HB.out⟩
theorem infoI : (Tryd.prog.info? 3).map (fun i => (i.zero, i.size, i.bytes)) = some (some (.int .i64 0), 1, 8) := by kernel_rfl
set_option maxHeartbeats 4000000 in
set_option maxRecDepth 100000 in
theorem clone_yes (A : Option Addr) (c : Nat) (l : List Int) (w : World) (hr : Kd.C (Kd.int .i64) w A l.length l) (hc : l.length ≤ c) (hl : l.length ≤ 1000000000) :
    Calls Tryd.prog 55 #[.slice A l.length c] w fun e w' => ∃ v, e = .returned v ∧ Kd.R (Kd.int .i64) 3 w' w.heap.size (fun _ => True) v l ∧ Below w.heap.size w w' := by
  have HR0 := Aside0.mk hr
  have HC0 := Aside0.mk hc
  have LMc2 := Aside0.mk hl
  clear hr hc hl
  have HB := Aside0.mk (Below.refl w.heap.size w)
  have keq := fun (W : World) => Lib.run_eql_slice_nil (P := Tryd.prog) W 31 3 A l.length c 0 0 Tryd.underlying31
  cases A with
  | none =>
    obtain rfl : l = [] := by
      rcases l with _ | ⟨x, xs⟩
      · rfl
      · obtain ⟨ad, e, _⟩ := HR0.out.2.2 (by simp)
        cases e
    clear keq
    have keq := fun (W : World) => Lib.run_eql_slice_nil (P := Tryd.prog) W 31 3 none 0 c 0 0 Tryd.underlying31
    show Calls Tryd.prog 55 #[.slice none 0 c] w _
    go_enter Tryd.func55, Tryd.ntmps55
    go_wp2
    go_ret
    exact ⟨_, rfl, Kd.R_nil _ _ _ _ (fun _ => True), Below.refl _ _⟩
  | some ad =>
    have HO0 := Aside0.mk (show Kd.R (Kd.int .i64) 3 (w.alloc (.cells #[] 3)) w.heap.size (fun _ => True) (.slice (some ⟨w.heap.size, 0, none⟩) 0 0) ([] : List Int) from Kd.R_of_own (own_lit w w.heap.size 3 .i64 [] (Nat.le_refl _) (by simp)) (fun _ _ => trivial))
    go_enter Tryd.func55, Tryd.ntmps55
    go_wp2_with (first | ((with_reducible refine gate_builtin (b := .append) (xs := #[.tmp 5, .tmp 6]) rfl ?_); at_builtin; refine Kd.R_append_rows (Kd.int .i64) (w0 := w) w.heap.size rfl (.tmp 5) (.tmp 6) 31 3 (.int .i64 0) 8 rfl Tryd.underlying31 infoI rfl (by decide) (by omega) (.slice (some ⟨w.heap.size, 0, none⟩) 0 0) ([] : List Int) l _ _ _ (fun _ => True) (fun _ => False) rfl rfl ?aO ?aR (fun _ _ h => h) (fun _ h => h.elim) ?aF ?aB ?aS ?aL ?_; (case aR => exact Kd.C_alloc HR0.out _); (case aB => exact below_alloc HB.out _); (case aF => exact (fun _ _ => trivial)); (case aO => exact HO0.out); (case aS => simp); (case aL => have := LMc2.out; simp; omega); intro v102 w3 ho hb hg hat; have n0_ := Aside0.mk (hb); have n1_ := Aside0.mk (ho); clear HB; have HB := n0_; have HO103 := n1_; clear n0_ n1_; clear ho hb hg hat))
    go_ret
    exact ⟨_, rfl, by simpa using HO103.out, HB.out⟩
/-- What a type is of. -/
def membersP (g : List GN) (n : Int) : List Int := if n < 0 then [] else if (g.length : Int) ≤ n then [] else if (g.getD n.toNat P.z33).f0 = 8 then (g.getD n.toNat P.z33).f4 else [n]
set_option maxHeartbeats 4000000 in
set_option maxRecDepth 100000 in
theorem members_yes (A0 : Option Addr) (c0 : Nat) (g : List GN) (n : Int) (w : World) (hg : Kd.C P.k33 w A0 g.length g) (hgc : g.length ≤ c0) (hs : ∀ x ∈ g, x.f4.length ≤ 1000000000) :
    Calls Tryd.prog 32 #[.slice A0 g.length c0, .int .i64 n] w fun e w' => ∃ v, e = .returned v ∧ Kd.R (Kd.int .i64) 3 w' w.heap.size (fun _ => True) v (membersP g n) ∧ Below w.heap.size w w' := by
  have HG := Aside0.mk hg
  have HGc := Aside0.mk hgc
  have HSh := Aside0.mk hs
  clear hg hgc hs
  go_enter Tryd.func32, Tryd.ntmps32
  by_cases h0 : n < 0
  · have HP := Aside0.mk (show membersP g n = [] from if_pos h0)
    go_wp2_with (fail)
    go_ret
    exact ⟨_, rfl, by rw [HP.out]; exact Kd.R_nil _ _ _ _ _, Below.refl _ _⟩
  · by_cases h1 : (g.length : Int) ≤ n
    · have HP := Aside0.mk (show membersP g n = [] by unfold membersP; rw [if_neg h0, if_pos h1])
      go_wp2_with (fail)
      go_ret
      exact ⟨_, rfl, by rw [HP.out]; exact Kd.R_nil _ _ _ _ _, Below.refl _ _⟩
    · obtain ⟨m, rfl⟩ := Int.eq_ofNat_of_zero_le (by omega : 0 ≤ n)
      have hm : m < g.length := by omega
      obtain ⟨ad, A3, c3, A4, c4, eA, q0, q1, q2, q3, q4, l3, g3, l4, g4⟩ := P.at_T33 HG.out (m : Int) (by omega) (by omega)
      cases eA
      have hx : P.rd_T33 g (m : Int) = g.getD m P.z33 := rfl
      obtain ⟨x, hxx⟩ : ∃ x, x = g.getD m P.z33 := ⟨_, rfl⟩
      have hxm : x ∈ g := by rw [hxx, List.getD_eq_getElem?_getD, List.getElem?_eq_getElem hm]; exact List.getElem_mem hm
      have hP : membersP g (m : Int) = if x.f0 = 8 then x.f4 else [(m : Int)] := by
        unfold membersP
        rw [if_neg h0, if_neg h1, Int.toNat_natCast, ← hxx]
      rw [hx, ← hxx] at q0 q4 l4 g4
      rw [Int.toNat_natCast] at q0 q4
      have HP := Aside0.mk hP
      have HL4 := Aside0.mk l4
      have HG4 := Aside0.mk g4
      have HS4 := Aside0.mk (HSh.out x hxm)
      clear q1 q2 q3 l3 g3 l4 g4 hx hxx hxm hP
      by_cases h8 : x.f0 = 8
      · rw [h8] at q0
        rw [if_pos h8] at HP
        clear h8
        go_wp2_with (fail)
        refine (clone_yes A4 c4 x.f4 w HG4.out HL4.out HS4.out).mono ?_
        rintro e w' ⟨v, rfl, hr, hb⟩
        have HO := Aside0.mk hr
        have HB := Aside0.mk hb
        clear hr hb
        go_wp2_with (fail)
        go_ret
        exact ⟨_, rfl, by rw [HP.out]; exact HO.out, HB.out⟩
      · rw [if_neg h8] at HP
        have h8b : (x.f0 == 8) = false := by simp [h8]
        clear h8
        go_wp2_with (fail)
        go_ret
        exact ⟨_, rfl, by rw [HP.out]; exact Kd.R_of_own (own_lit w w.heap.size 3 .i64 [(m : Int)] (Nat.le_refl _) (by simp)) (fun _ _ => trivial), below_alloc (Below.refl _ _) _⟩
end Go.Proofs.YtgppcpghpeenhaaDoor.G2

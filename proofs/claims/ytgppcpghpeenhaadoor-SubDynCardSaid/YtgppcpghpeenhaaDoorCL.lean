/- canon.One, by what canon.rank answers. -/
/- Forms, as they are being filled: plain law, no program. -/
/- Forms' rows: one form is laid; its sets change. -/
import Derived.Test.YtgppcpghpeenhaaDoorProg
import Derived.Test.YtgppcpghpeenhaaDoorWWords
import Derived.Test.YtgppcpghpeenhaaDoorWLast
import Derived.Test.YtgppcpghpeenhaaDoorCI
import Derived.Test.YtgppcpghpeenhaaDoorN6
import Derived.Test.YtgppcpghpeenhaaDoorS11
namespace Go.Proofs.YtgppcpghpeenhaaDoor.CK
open Go.RowKit Go.Proofs.YtgppcpghpeenhaaDoorW.PrintWords Go.Proofs.YtgppcpghpeenhaaDoorW.PrintLast Go.Proofs.YtgppcpghpeenhaaDoorW.PrintMore Go.Proofs.YtgppcpghpeenhaaDoor L1 L4 G1 G2 S3 S4 S5 S9 S11 N1 N2 N3 N4 N5 N6 CA CB CE
set_option linter.unusedVariables false
set_option linter.unusedSimpArgs false
set_option maxHeartbeats 4000000 in
set_option maxRecDepth 100000 in
theorem is_calls (A0 : Option Addr) (c0 : Nat) (g : List GN) (n : Int) (w : World) (h0 : 0 ≤ n) (h1 : n < g.length) :
    Calls Tryd.prog 15 #[.slice A0 g.length c0, .int .i64 n] w fun e w' => e = .returned (.bool true) ∧ Below w.heap.size w w' := by
  have e1 : ((0 : Int) ≤ n) = True := eq_true h0
  have e2 : (n < (g.length : Int)) = True := eq_true h1
  have e3 : decide (n < (g.length : Int)) = true := decide_eq_true h1
  clear h0 h1
  go_enter Tryd.func15, Tryd.ntmps15
  go_wp2_with (fail)
  go_ret
  first | exact ⟨rfl, Below.refl _ _⟩ | exact ⟨by simp [e2], Below.refl _ _⟩ | exact ⟨by simp [e2], pw_below_drewN (Below.refl _ _) _⟩
/-- What canon.rank answers. -/
def RankP (g : List GN) (w : World) (e : Ending) (w' : World) : Prop :=
  ∃ v rs, e = .returned v ∧ Kd.R (Kd.int .i64) 3 w' w.heap.size (fun _ => True) v rs ∧ Below w.heap.size w w' ∧ rs.length = g.length ∧ Fnl g (rd rs)
theorem members_len {g : List GN} (h12 : ∀ x ∈ g, x.f0 = 8 → x.f4.length ≤ 12) (n : Int) : (membersP g n).length ≤ 12 := by
  unfold membersP
  split
  · simp
  · split
    · simp
    · rename_i h0 h1
      split
      · rename_i h8
        refine h12 _ ?_ h8
        rw [List.getD_eq_getElem?_getD, List.getElem?_eq_getElem (show n.toNat < g.length by omega)]
        exact List.getElem_mem _
      · simp
set_option maxHeartbeats 4000000 in
set_option maxRecDepth 100000 in
theorem one_calls (A0 : Option Addr) (c0 : Nat) (g : List GN) (m n : Int) (w : World) (hK : Keys w) (hg : Kd.C P.k33 w A0 g.length g) (hgc : g.length ≤ c0) (hc : checkP g = 0) (h12 : ∀ x ∈ g, x.f0 = 8 → x.f4.length ≤ 12)
    (hm0 : 0 ≤ m) (hm1 : m < g.length) (hn0 : 0 ≤ n) (hn1 : n < g.length) (hr : ∀ W : World, Kd.C P.k33 W A0 g.length g → Calls Tryd.prog 16 #[.slice A0 g.length c0] W (RankP g W)) :
    Calls Tryd.prog 6 #[.slice A0 g.length c0, .int .i64 m, .int .i64 n] w fun e w' => ∃ b, e = .returned (.bool b) ∧ (b = true ↔ OneP g m n) ∧ Below w.heap.size w w' := by
  have HG := Aside0.mk hg
  have HCh := Aside0.mk (check_yes A0 c0 g w hK hg hgc)
  have HI1 := Aside0.mk (fun W => is_calls A0 c0 g m W hm0 hm1)
  have HI2 := Aside0.mk (fun W => is_calls A0 c0 g n W hn0 hn1)
  have HRk := Aside0.mk hr
  have HMs := Aside0.mk (members_small hc)
  have HL1 := Aside0.mk (members_len h12 m)
  have HL2 := Aside0.mk (members_len h12 n)
  have HP1 := Aside0.mk (fun x (hx : x ∈ membersP g m) => members_pl hc hm0 hm1 hx)
  have HP2 := Aside0.mk (fun x (hx : x ∈ membersP g n) => members_pl hc hn0 hn1 hx)
  have HOne := Aside0.mk (fun (rs : List Int) (hf : Fnl g (rd rs)) => one_iff hc hf hm0 hm1 hn0 hn1)
  rw [hc] at HCh
  clear hg hK hr hm0 hm1 hn0 hn1 h12
  go_enter Tryd.func6, Tryd.ntmps6
  go_wp2_with (fail)
  refine HCh.out.mono ?_
  rintro e W1 ⟨rfl, hb1⟩
  have HB1 := Aside0.mk hb1
  clear hb1
  go_wp2_with (fail)
  refine (HI1.out W1).mono ?_
  rintro e W2 ⟨rfl, hb2⟩
  have HB2 := Aside0.mk (below_then HB1.out HB1.out.size hb2)
  clear hb2
  go_wp2_with (fail)
  refine (HI2.out W2).mono ?_
  rintro e W3 ⟨rfl, hb3⟩
  have HB3 := Aside0.mk (below_then HB2.out HB2.out.size hb3)
  clear hb3
  go_wp2_with (fail)
  refine (HRk.out W3 (Kd.C_below HG.out HB3.out)).mono ?_
  rintro e W4 ⟨v, rs, rfl, hv, hb4, hrl, hfn⟩
  have HB4 := Aside0.mk (below_then HB3.out HB3.out.size hb4)
  obtain ⟨Ar, cr, rfl, hcr, hCr⟩ := Kd.R_reads hv
  have HCr := Aside0.mk hCr
  have HRl := Aside0.mk hrl
  have HFn := Aside0.mk hfn
  clear hb4 hv hCr hrl hfn
  go_wp2_with (fail)
  refine (set_calls A0 Ar c0 cr g rs m W4 (Kd.C_below HG.out HB4.out) hgc HMs.out HCr.out hcr (fun x hx => ⟨(HP1.out x hx).lo, by rw [HRl.out]; exact (HP1.out x hx).hi⟩) HL1.out).mono ?_
  rintro e W5 ⟨v5, s5, rfl, hv5, hb5, hs5, hl5⟩
  obtain ⟨A5, c5, rfl, hc5, hC5⟩ := Kd.R_reads hv5
  have HB5 := Aside0.mk (below_then HB4.out HB4.out.size hb5)
  have HC5 := Aside0.mk hC5
  have HS5 := Aside0.mk hs5
  have HLs := Aside0.mk hl5
  have HCr5 := Aside0.mk (Kd.C_below HCr.out hb5)
  clear hv5 hb5 hs5 hl5 hC5
  go_wp2_with (fail)
  refine (set_calls A0 Ar c0 cr g rs n W5 (Kd.C_below HG.out HB5.out) hgc HMs.out HCr5.out hcr (fun x hx => ⟨(HP2.out x hx).lo, by rw [HRl.out]; exact (HP2.out x hx).hi⟩) HL2.out).mono ?_
  rintro e W6 ⟨v6, s6, rfl, hv6, hb6, hs6, hl6⟩
  obtain ⟨A6, c6, rfl, hc6, hC6⟩ := Kd.R_reads hv6
  have HB6 := Aside0.mk (below_then HB5.out HB5.out.size hb6)
  have HC6 := Aside0.mk hC6
  have HS6 := Aside0.mk hs6
  have HC56 := Aside0.mk (Kd.C_below HC5.out hb6)
  clear hv6 hb6 hs6 hl6 hC6
  go_wp2_with (fail)
  refine (slices_Equal_int_int.calls (s5.length + 1) A5 c5 s5 A6 c6 s6 _ W6 HC56.out hc5 HC6.out hc6 (equal_f (by have := HLs.out; have := HL1.out; omega))).mono ?_
  rintro e W7 ⟨rfl, ⟨m7, rfl⟩⟩
  go_wp2_with (fail)
  go_ret
  refine ⟨_, rfl, ?_, pw_below_drewN HB6.out _⟩
  rw [decide_eq_true_iff, HOne.out rs HFn.out]
  constructor
  · rintro rfl v
    rw [← HS5.out.2, ← HS6.out.2]
  · intro h
    refine srt_eq HS5.out.1 HS6.out.1 fun v => ?_
    rw [HS5.out.2, HS6.out.2]
    exact h v
end Go.Proofs.YtgppcpghpeenhaaDoor.CK
namespace Go.Proofs.YtgppcpghpeenhaaDoor.N7
open Go.RowKit Go.Proofs.YtgppcpghpeenhaaDoorW.PrintWords Go.Proofs.YtgppcpghpeenhaaDoor L1 L4 G1 G2 S3 S4 S5 N1 N2 N3 N4 N5 N6
set_option linter.unusedVariables false
set_option linter.unusedSimpArgs false
/-- A form of which the first j sets are there. -/
structure FmPart (g : List GN) (r : Int → Int) (a : Int) (j : Nat) (f : Fm) : Prop where
  node : f.node = nd g a
  rank : f.rank = r a
  len : f.sets.length = j
  sets : ∀ (i : Nat) (s : List Int), f.sets[i]? = some s → SetOf g r (rd (nd g a).f4 (i : Int)) s ∧ s.length ≤ 12
theorem FmPart.start (g : List GN) (r : Int → Int) (a : Int) : FmPart g r a 0 ⟨nd g a, r a, []⟩ := ⟨rfl, rfl, rfl, fun i s h => by simp at h⟩
theorem FmPart.step {g : List GN} {r : Int → Int} {a : Int} {j : Nat} {f : Fm} (h : FmPart g r a j f) {s : List Int} (hs : SetOf g r (rd (nd g a).f4 (j : Int)) s) (hl : s.length ≤ 12) : FmPart g r a (j + 1) ⟨f.node, f.rank, f.sets ++ [s]⟩ := by
  refine ⟨h.node, h.rank, by simp [h.len], fun i t ht => ?_⟩
  have ht' : (f.sets ++ [s])[i]? = some t := ht
  rcases Nat.lt_or_ge i j with hi | hi
  · rw [List.getElem?_append_left (by rw [h.len]; exact hi)] at ht'
    exact h.sets i t ht'
  · rw [List.getElem?_append_right (by rw [h.len]; exact hi), h.len] at ht'
    rcases Nat.eq_or_lt_of_le hi with e | e
    · rw [← e, Nat.sub_self] at ht'
      simp at ht'
      rw [← e, ← ht']
      exact ⟨hs, hl⟩
    · rw [List.getElem?_eq_none (by simp; omega)] at ht'
      cases ht'
theorem FmPart.done {g : List GN} {r : Int → Int} {a : Int} {f : Fm} (h : FmPart g r a (nd g a).f4.length f) : FmOf g r a f := ⟨h.node, h.rank, h.len, fun i s hs => (h.sets i s hs).1⟩
theorem FmPart.small {g : List GN} {r : Int → Int} {a : Int} {j : Nat} {f : Fm} (h : FmPart g r a j f) : ∀ l ∈ f.sets, l.length ≤ 1000000000 := fun l hl => by
  obtain ⟨i, hi, e⟩ := List.getElem_of_mem hl
  have := (h.sets i l (by rw [List.getElem?_eq_getElem hi, e])).2
  omega
end Go.Proofs.YtgppcpghpeenhaaDoor.N7
namespace Go.Proofs.YtgppcpghpeenhaaDoor.CL
open Go.RowKit Go.Proofs.YtgppcpghpeenhaaDoorW.PrintWords Go.Proofs.YtgppcpghpeenhaaDoorW.PrintLast Go.Proofs.YtgppcpghpeenhaaDoorW.PrintMore Go.Proofs.YtgppcpghpeenhaaDoor G1 N1 N4 CF CI
set_option linter.unusedVariables false
set_option linter.unusedSimpArgs false
/-- A cell of a row can be written. -/
theorem row_cell {W : World} {g t : Nat} {cur : Array Value} (h : W.heap[g]? = some (.cells cur t (0, 0))) {k : Nat} (hk : k < cur.size) : ∃ c, W.cell? ⟨g, k, none⟩ = some c ∧ W.frozen? ⟨g, k, none⟩ = false :=
  ⟨cur[k], (blk_cell h k).trans (Array.getElem?_eq_getElem hk), by simp [World.frozen?, h]⟩
theorem store7_ {W : World} {g t o : Nat} {cur : Array Value} (h : W.heap[g]? = some (.cells cur t (0, 0))) (ho : o + 7 ≤ cur.size) (v0 v1 v2 v3 v4 v5 v6 : Value) : ∃ c0 c1 c2 c3 c4 c5 c6, W.cell? ⟨g, o, none⟩ = some c0 ∧ W.frozen? ⟨g, o, none⟩ = false ∧ (W.setCell ⟨g, o, none⟩ v0).cell? ⟨g, o + 1, none⟩ = some c1 ∧ (W.setCell ⟨g, o, none⟩ v0).frozen? ⟨g, o + 1, none⟩ = false ∧ ((W.setCell ⟨g, o, none⟩ v0).setCell ⟨g, o + 1, none⟩ v1).cell? ⟨g, o + 2, none⟩ = some c2 ∧ ((W.setCell ⟨g, o, none⟩ v0).setCell ⟨g, o + 1, none⟩ v1).frozen? ⟨g, o + 2, none⟩ = false ∧ (((W.setCell ⟨g, o, none⟩ v0).setCell ⟨g, o + 1, none⟩ v1).setCell ⟨g, o + 2, none⟩ v2).cell? ⟨g, o + 3, none⟩ = some c3 ∧ (((W.setCell ⟨g, o, none⟩ v0).setCell ⟨g, o + 1, none⟩ v1).setCell ⟨g, o + 2, none⟩ v2).frozen? ⟨g, o + 3, none⟩ = false ∧ ((((W.setCell ⟨g, o, none⟩ v0).setCell ⟨g, o + 1, none⟩ v1).setCell ⟨g, o + 2, none⟩ v2).setCell ⟨g, o + 3, none⟩ v3).cell? ⟨g, o + 4, none⟩ = some c4 ∧ ((((W.setCell ⟨g, o, none⟩ v0).setCell ⟨g, o + 1, none⟩ v1).setCell ⟨g, o + 2, none⟩ v2).setCell ⟨g, o + 3, none⟩ v3).frozen? ⟨g, o + 4, none⟩ = false ∧ (((((W.setCell ⟨g, o, none⟩ v0).setCell ⟨g, o + 1, none⟩ v1).setCell ⟨g, o + 2, none⟩ v2).setCell ⟨g, o + 3, none⟩ v3).setCell ⟨g, o + 4, none⟩ v4).cell? ⟨g, o + 5, none⟩ = some c5 ∧ (((((W.setCell ⟨g, o, none⟩ v0).setCell ⟨g, o + 1, none⟩ v1).setCell ⟨g, o + 2, none⟩ v2).setCell ⟨g, o + 3, none⟩ v3).setCell ⟨g, o + 4, none⟩ v4).frozen? ⟨g, o + 5, none⟩ = false ∧ ((((((W.setCell ⟨g, o, none⟩ v0).setCell ⟨g, o + 1, none⟩ v1).setCell ⟨g, o + 2, none⟩ v2).setCell ⟨g, o + 3, none⟩ v3).setCell ⟨g, o + 4, none⟩ v4).setCell ⟨g, o + 5, none⟩ v5).cell? ⟨g, o + 6, none⟩ = some c6 ∧ ((((((W.setCell ⟨g, o, none⟩ v0).setCell ⟨g, o + 1, none⟩ v1).setCell ⟨g, o + 2, none⟩ v2).setCell ⟨g, o + 3, none⟩ v3).setCell ⟨g, o + 4, none⟩ v4).setCell ⟨g, o + 5, none⟩ v5).frozen? ⟨g, o + 6, none⟩ = false := by
  have z0 : cur.size = cur.size := rfl
  obtain ⟨c0, a0, b0⟩ := row_cell h (show o < cur.size by omega)
  have h1 : (W.setCell ⟨g, o, none⟩ v0).heap[g]? = some (.cells (cur.setIfInBounds (o) v0) t (0, 0)) := blk_put h _ v0 rfl
  obtain ⟨c1, a1, b1⟩ := row_cell h1 (show o + 1 < _ by simp; omega)
  have h2 : ((W.setCell ⟨g, o, none⟩ v0).setCell ⟨g, o + 1, none⟩ v1).heap[g]? = some (.cells ((cur.setIfInBounds (o) v0).setIfInBounds (o + 1) v1) t (0, 0)) := blk_put h1 _ v1 rfl
  obtain ⟨c2, a2, b2⟩ := row_cell h2 (show o + 2 < _ by simp; omega)
  have h3 : (((W.setCell ⟨g, o, none⟩ v0).setCell ⟨g, o + 1, none⟩ v1).setCell ⟨g, o + 2, none⟩ v2).heap[g]? = some (.cells (((cur.setIfInBounds (o) v0).setIfInBounds (o + 1) v1).setIfInBounds (o + 2) v2) t (0, 0)) := blk_put h2 _ v2 rfl
  obtain ⟨c3, a3, b3⟩ := row_cell h3 (show o + 3 < _ by simp; omega)
  have h4 : ((((W.setCell ⟨g, o, none⟩ v0).setCell ⟨g, o + 1, none⟩ v1).setCell ⟨g, o + 2, none⟩ v2).setCell ⟨g, o + 3, none⟩ v3).heap[g]? = some (.cells ((((cur.setIfInBounds (o) v0).setIfInBounds (o + 1) v1).setIfInBounds (o + 2) v2).setIfInBounds (o + 3) v3) t (0, 0)) := blk_put h3 _ v3 rfl
  obtain ⟨c4, a4, b4⟩ := row_cell h4 (show o + 4 < _ by simp; omega)
  have h5 : (((((W.setCell ⟨g, o, none⟩ v0).setCell ⟨g, o + 1, none⟩ v1).setCell ⟨g, o + 2, none⟩ v2).setCell ⟨g, o + 3, none⟩ v3).setCell ⟨g, o + 4, none⟩ v4).heap[g]? = some (.cells (((((cur.setIfInBounds (o) v0).setIfInBounds (o + 1) v1).setIfInBounds (o + 2) v2).setIfInBounds (o + 3) v3).setIfInBounds (o + 4) v4) t (0, 0)) := blk_put h4 _ v4 rfl
  obtain ⟨c5, a5, b5⟩ := row_cell h5 (show o + 5 < _ by simp; omega)
  have h6 : ((((((W.setCell ⟨g, o, none⟩ v0).setCell ⟨g, o + 1, none⟩ v1).setCell ⟨g, o + 2, none⟩ v2).setCell ⟨g, o + 3, none⟩ v3).setCell ⟨g, o + 4, none⟩ v4).setCell ⟨g, o + 5, none⟩ v5).heap[g]? = some (.cells ((((((cur.setIfInBounds (o) v0).setIfInBounds (o + 1) v1).setIfInBounds (o + 2) v2).setIfInBounds (o + 3) v3).setIfInBounds (o + 4) v4).setIfInBounds (o + 5) v5) t (0, 0)) := blk_put h5 _ v5 rfl
  obtain ⟨c6, a6, b6⟩ := row_cell h6 (show o + 6 < _ by simp; omega)
  exact ⟨c0, c1, c2, c3, c4, c5, c6, a0, b0, a1, b1, a2, b2, a3, b3, a4, b4, a5, b5, a6, b6⟩
theorem setCells7 (W : World) (g o : Nat) (v0 v1 v2 v3 v4 v5 v6 : Value) : W.setCells g o [v0, v1, v2, v3, v4, v5, v6] = (((((((W.setCell ⟨g, o, none⟩ v0).setCell ⟨g, o + 1, none⟩ v1).setCell ⟨g, o + 2, none⟩ v2).setCell ⟨g, o + 3, none⟩ v3).setCell ⟨g, o + 4, none⟩ v4).setCell ⟨g, o + 5, none⟩ v5).setCell ⟨g, o + 6, none⟩ v6) := rfl
/-- Cells of a row of raw rows are written over. -/
theorem raw_put {W : World} {base : Nat} {ok : Nat → Prop} {e g n cap sz : Nat} {rows : List (List Value)} (h : Kd.R (Kd.raw sz) e W base ok (.slice (some ⟨g, 0, none⟩) n cap) rows) {i j : Nat} (hi : i < n) {seg : List Value} (hj : j + seg.length ≤ sz) (h1 : ∀ u ∈ seg, u.oneCell' = true) :
    ∃ c, c.length = sz ∧ rows[i]? = some c ∧ Kd.R (Kd.raw sz) e (W.setCells g (i * sz + j) seg) base ok (.slice (some ⟨g, 0, none⟩) n cap) (rows.set i (c.take j ++ seg ++ c.drop (j + seg.length))) ∧ W.grownBy (W.setCells g (i * sz + j) seg) (some g) := by
  obtain ⟨c, hcl, hM, hcc⟩ := Kd.R_getA h [] (i : Int) (by omega) (by omega)
  obtain ⟨hrl, _⟩ := Kd.R_reads' h
  obtain ⟨hc, hl, h2⟩ := hM
  rw [Int.toNat_natCast] at hc
  have hlen : (c.take j ++ seg ++ c.drop (j + seg.length)).length = sz := by
    have : c.length = sz := hl
    simp
    omega
  have h3 := Kd.R_seg h (i : Int) (by omega) (by omega) hcl (fun j u hu => by
    have h2 := hcc j u hu
    rw [Int.toNat_natCast] at h2 ⊢
    generalize i * (Kd.raw sz).sz + j = q at h2 ⊢
    have : (⟨g, 0, none⟩ : Addr).add q = ⟨g, q, none⟩ := by by_cases h0 : q = 0 <;> simp [Addr.add, h0]
    rw [this] at h2
    exact h2) (j := j) (seg := seg) hj (x' := c.take j ++ seg ++ c.drop (j + seg.length)) (okp := fun _ => False) ⟨rfl, hlen, fun u hu => by
      rcases List.mem_append.1 hu with hu | hu
      · rcases List.mem_append.1 hu with hu | hu
        · exact h2 u (List.mem_of_mem_take hu)
        · exact h1 u hu
      · exact h2 u (List.mem_of_mem_drop hu)⟩ (fun _ h => h.elim)
  rw [Int.toNat_natCast] at h3
  refine ⟨c, hl, ?_, h3.1, h3.2⟩
  rw [List.getD_eq_getElem?_getD, List.getElem?_eq_getElem (by omega)] at hc
  rw [List.getElem?_eq_getElem (by omega)]
  first | exact congrArg some hc | exact congrArg some hc.symm
end Go.Proofs.YtgppcpghpeenhaaDoor.CL

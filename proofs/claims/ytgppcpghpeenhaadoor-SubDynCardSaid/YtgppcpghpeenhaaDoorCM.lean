/- Forms while they are being filled: what holds of their row, form by form, set by set. -/
import Derived.Test.YtgppcpghpeenhaaDoorProg
import Derived.Test.YtgppcpghpeenhaaDoorWWords
import Derived.Test.YtgppcpghpeenhaaDoorWLast
import Derived.Test.YtgppcpghpeenhaaDoorCL
import Derived.Test.YtgppcpghpeenhaaDoorWMore
namespace Go.Proofs.YtgppcpghpeenhaaDoor.CM
open Go.RowKit Go.Proofs.YtgppcpghpeenhaaDoorW.PrintWords Go.Proofs.YtgppcpghpeenhaaDoorW.PrintLast Go.Proofs.YtgppcpghpeenhaaDoorW.PrintMore Go.Proofs.YtgppcpghpeenhaaDoor L1 L4 G1 G2 S3 S4 S5 N1 N4 N6 N7 CF CI CL
set_option linter.unusedVariables false
set_option linter.unusedSimpArgs false
/-- A form's cells. -/
theorem kF_mk {w0 W : World} {x : Fm} {A1 : Option Addr} {c1 : Nat} {A2 : Option Addr} {c2 : Nat} {A3 : Option Addr} {c3 : Nat} (hN : P.k33.K w0 x.node [.int .i64 x.node.f0, .int .i64 x.node.f1, .string x.node.f2, .slice A1 x.node.f3.length c1, .slice A2 x.node.f4.length c2]) (l6 : x.sets.length ≤ c3) (g6 : Kd.C KL W A3 x.sets.length x.sets) :
    (kF w0).K W x [.int .i64 x.node.f0, .int .i64 x.node.f1, .string x.node.f2, .slice A1 x.node.f3.length c1, .slice A2 x.node.f4.length c2, .int .i64 x.rank, .slice A3 x.sets.length c3] :=
  ⟨[.int .i64 x.node.f0, .int .i64 x.node.f1, .string x.node.f2, .slice A1 x.node.f3.length c1, .slice A2 x.node.f4.length c2], [.int .i64 x.rank, .slice A3 x.sets.length c3], rfl, hN, [.int .i64 x.rank], [.slice A3 x.sets.length c3], rfl, rfl, A3, c3, rfl, l6, g6⟩
theorem zF_any {w0 W : World} {c : List Value} (h : (kF w0).K W zFm c) (W' : World) : (kF w0).K W' zFm c := by
  obtain ⟨d0, d1, rfl, hN, e0, e1, rfl, h5, A3, c3, rfl, l6, g6⟩ := h
  exact ⟨d0, _, rfl, hN, e0, _, rfl, h5, A3, c3, rfl, l6, ⟨rfl, by simp [zFm], fun h => absurd h (by simp [zFm])⟩⟩
theorem zero_N {w0 W : World} {base n : Nat} {ok ok' : Nat → Prop} {v : Value} (h : (kF w0).R 69 W base ok v (List.replicate n zFm)) (h' : ∀ k, v.ownBlock = some k → ok' k) : (kF w0).N 69 W base ok' v (List.replicate n zFm) := by
  obtain ⟨h0, rows, hl, hR, hf⟩ := Kd.R_N h
  refine ⟨h', rows, hl, hR, fun j x c hx hc W' _ => ?_⟩
  have hk := Kd.FK_now (hf j x c hx hc)
  have hx' : x = zFm := by
    rw [List.getElem?_replicate] at hx
    split at hx
    · exact (Option.some.inj hx).symm
    · cases hx
  subst hx'
  exact zF_any hk W'
/-- The row of forms while it is being filled: of the first t places of pl the forms are there. -/
structure Fill (w0 X W : World) (gF cf n base : Nat) (g : List GN) (r : Int → Int) (pl : List Int) (t : Nat) : Prop where
  row : ∃ fs : List Fm, fs.length = n ∧ (kF w0).N 69 W base (fun k => k = gF ∨ X.heap.size ≤ k) (.slice (some ⟨gF, 0, none⟩) n cf) fs ∧ ∀ j, j < t → FmPart g r (pl.getD j 0) (nd g (pl.getD j 0)).f4.length (fs.getD (pl.getD j 0).toNat zFm)
  kep : Kept X W (fun k => k = gF)
theorem Fill.start {w0 X : World} {gF cf n base : Nat} {g : List GN} {r : Int → Int} {pl : List Int} (h : (kF w0).R 69 X base (fun _ => True) (.slice (some ⟨gF, 0, none⟩) n cf) (List.replicate n zFm)) : Fill w0 X X gF cf n base g r pl 0 :=
  ⟨⟨_, List.length_replicate, zero_N h (fun k hk => .inl (by simpa [Value.ownBlock] using hk.symm)), fun j hj => absurd hj (by omega)⟩, Kept.refl _ _⟩
theorem Fill.drew {w0 X W : World} {gF cf n base : Nat} {g : List GN} {r : Int → Int} {pl : List Int} {t : Nat} (h : Fill w0 X W gF cf n base g r pl t) : Fill w0 X W.drew gF cf n base g r pl t :=
  ⟨by
    obtain ⟨fs, hl, hN, hp⟩ := h.row
    exact ⟨fs, hl, Kd.N_drew hN, hp⟩, h.kep.drew⟩
theorem hal24 {n m : Nat} (h : n = m) (hm : m ≤ 1000000000) : (n + 1) * 24 ≤ 140737488355328 := by omega
theorem raw_block {W : World} {base gF cf n : Nat} {ok : Nat → Prop} {rows : List (List Value)} (h : (Kd.raw 7).R 69 W base ok (.slice (some ⟨gF, 0, none⟩) n cf) rows) : ∃ cur, W.heap[gF]? = some (.cells cur 69 (0, 0)) ∧ n * 7 ≤ cur.size := by
  have hn := (Kd.R_reads' h).1
  obtain ⟨inner, ho⟩ := Kd.R_own h
  rcases ho.2 with ⟨hv, _⟩ | ⟨g', cap', cur, hv, hb, hh, hnc', hcm, hcs, ht⟩
  · cases hv
  injection hv with ha hn' hc
  injection ha with ha
  injection ha with hg
  subst hg
  refine ⟨cur, hh, ?_⟩
  have hcs' : cur.size = cap' * 7 := hcs
  rw [hcs', hn]
  exact Nat.mul_le_mul_right _ hnc'
theorem Fill.block {w0 X W : World} {gF cf n base : Nat} {g : List GN} {r : Int → Int} {pl : List Int} {t : Nat} (h : Fill w0 X W gF cf n base g r pl t) : ∃ cur, W.heap[gF]? = some (.cells cur 69 (0, 0)) ∧ n * 7 ≤ cur.size := by
  obtain ⟨fs, hfl, ⟨h0, rows, hrl, hR, hf⟩, hp⟩ := h.row
  exact raw_block hR
theorem getD_mem {α : Type} {l : List α} {i : Nat} (h : i < l.length) (d : α) : l.getD i d ∈ l := by
  rw [List.getD_eq_getElem?_getD, List.getElem?_eq_getElem h]
  exact List.getElem_mem h
theorem apart_of {g : List GN} {pl : List Int} (hp : pl.Perm (plainTo g g.length)) {i j : Nat} (hj : j < i) (hi : i < pl.length) {an : Nat} (h : pl.getD i 0 = (an : Int)) : (pl.getD j 0).toNat ≠ an := by
  intro e
  have hjl : j < pl.length := by omega
  have h0 : 0 ≤ pl.getD j 0 := ((plain_iff g _).2 (hp.mem_iff.1 (getD_mem hjl 0))).lo
  have hnd := List.nodup_iff_pairwise_ne.1 (hp.nodup_iff.2 (plain_nodup g g.length))
  have := List.pairwise_iff_getElem.1 hnd j i hjl hi hj
  rw [List.getD_eq_getElem?_getD, List.getElem?_eq_getElem hjl] at e h0
  rw [List.getD_eq_getElem?_getD, List.getElem?_eq_getElem hi] at h
  simp only [Option.getD_some] at e h0 h
  omega
theorem meas {n j : Nat} (h : j < n) : n + 1 - (intOf (.int .i64 ((j + 1 : Nat) : Int))).toNat < n + 1 - (intOf (.int .i64 (j : Int))).toNat := by
  simp only [intOf]
  omega
/-- One form that is being filled: ss are there. -/
structure Grow (w0 X Wi W : World) (gF cf n base : Nat) (g : List GN) (r : Int → Int) (pl : List Int) (t i : Nat) (hd : List Value) (v : Value) (ss : List (List Int)) : Prop where
  row : ∃ (fs : List Fm) (rows : List (List Value)), fs.length = n ∧ rows.length = n ∧ (Kd.raw 7).R 69 W base (fun _ => True) (.slice (some ⟨gF, 0, none⟩) n cf) (rows.set i (hd ++ [v])) ∧
    (∀ j x c, j ≠ i → fs[j]? = some x → rows[j]? = some c → Kd.FK (kF w0) Wi (fun k => X.heap.size ≤ k ∧ k < Wi.heap.size) x c) ∧ ∀ j, j < t → FmPart g r (pl.getD j 0) (nd g (pl.getD j 0)).f4.length (fs.getD (pl.getD j 0).toNat zFm)
  own : Kd.R KL 31 W Wi.heap.size (fun _ => True) v ss
  kep : Kept Wi W (fun k => k = gF)
  kex : Kept X Wi (fun k => k = gF)
  gfx : gF < X.heap.size
  hi : i < n
  hl : hd.length = 6
theorem raw_elem {W : World} {base gF cf n : Nat} {ok : Nat → Prop} {rows : List (List Value)} (h : (Kd.raw 7).R 69 W base ok (.slice (some ⟨gF, 0, none⟩) n cf) rows) {i : Nat} (hi : i < n) : ∃ c, rows[i]? = some c ∧ c.length = 7 ∧ (∀ j u, c[j]? = some u → W.cell? ⟨gF, i * 7 + j, none⟩ = some u) ∧ ∀ j, W.frozen? ⟨gF, i * 7 + j, none⟩ = false := by
  have hn := (Kd.R_reads' h).1
  obtain ⟨c, hcl, hM, hcc, hfr⟩ := Kd.R_elem h [] (i : Int) (by omega) (by omega)
  rw [Int.toNat_natCast] at hcc hfr hM
  have h2 := hM.1
  have hir : i < rows.length := by omega
  rw [List.getD_eq_getElem?_getD, List.getElem?_eq_getElem hir] at h2
  exact ⟨c, by rw [h2]; exact List.getElem?_eq_getElem hir, hcl, hcc, hfr⟩
theorem seven {α : Type} {c : List α} (h : c.length = 7) (seg : List α) (hs : seg.length = 7) : c.take 0 ++ seg ++ c.drop (0 + seg.length) = seg := by
  rw [List.take_zero, List.nil_append, List.drop_eq_nil_of_le (by omega), List.append_nil]
/-- A form is begun: its cells are laid, no set is there. -/
theorem Fill.fresh {w0 X W : World} {gF cf n base : Nat} {g : List GN} {r : Int → Int} {pl : List Int} {t : Nat} (h : Fill w0 X W gF cf n base g r pl t) (hg : gF < X.heap.size) {i : Nat} (hi : i < n) {hd : List Value} (hl : hd.length = 6) (h1 : ∀ u ∈ hd, u.oneCell' = true) :
    Grow w0 X (W.setCells gF (i * 7) (hd ++ [.slice none 0 0])) (W.setCells gF (i * 7) (hd ++ [.slice none 0 0])) gF cf n base g r pl t i hd (.slice none 0 0) [] ∧ W.grownBy (W.setCells gF (i * 7) (hd ++ [.slice none 0 0])) (some gF) := by
  obtain ⟨fs, hfl, ⟨h0, rows, hrl, hR, hf⟩, hp⟩ := h.row
  obtain ⟨c, hci, hcl, hcc, _⟩ := raw_elem hR hi
  have hsl : (hd ++ [Value.slice none 0 0]).length = 7 := by simp [hl]
  have h3 := Kd.R_seg (Kd.raw_any hR) (i : Int) (by omega) (by omega) (c := c) (seg := hd ++ [.slice none 0 0]) (j := 0) (x' := hd ++ [.slice none 0 0]) (okp := fun _ => False) hcl (fun j u hu => by
    rw [Int.toNat_natCast]
    exact hcc j u hu) (by rw [hsl]; exact Nat.le_refl 7) ⟨seven hcl _ hsl, by rw [seven hcl _ hsl]; exact hsl, fun u hu => by
      rw [seven hcl _ hsl] at hu
      rcases List.mem_append.1 hu with hu | hu
      · exact h1 u hu
      · rw [List.mem_singleton.1 hu]; rfl⟩ (fun _ hk => hk.elim)
  rw [Int.toNat_natCast] at h3
  have h3' : (Kd.raw 7).R 69 (W.setCells gF (i * 7) (hd ++ [.slice none 0 0])) base (fun _ => True) (.slice (some ⟨gF, 0, none⟩) n cf) (rows.set i (hd ++ [.slice none 0 0])) ∧ W.grownBy (W.setCells gF (i * 7) (hd ++ [.slice none 0 0])) (some gF) := h3
  have hk : Kept X (W.setCells gF (i * 7) (hd ++ [.slice none 0 0])) (fun k => k = gF) := Kept.of_grown h3'.2 h.kep (fun k hk => .inl (by injection hk with hk; exact hk.symm))
  refine ⟨⟨⟨fs, rows, hfl, by omega, h3'.1, fun j x c hj hx hc => ?_, hp⟩, Kd.R_nil _ _ _ _ _, Kept.refl _ _, hk, hg, hi, hl⟩, h3'.2⟩
  refine Kd.FK_mono (Kd.FK_bound (Kd.FK_grown (hf j x c hx hc) h3'.2 (fun k hk => hk.2))) (fun k hk => ⟨?_, hk.2⟩)
  rcases hk.1.1 with rfl | h5
  · exact absurd rfl hk.1.2
  · exact h5
theorem Fill.fresh7 {w0 X W w : World} {gF cf n base : Nat} {g : List GN} {r : Int → Int} {pl : List Int} {t : Nat} (h : Fill w0 X W gF cf n base g r pl t) (hg : gF < X.heap.size) {i : Nat} (hi : i < n) (x : GN) (Ak : Option Addr) (ck : Nat) (Al : Option Addr) (cl : Nat) (q : Int) (hb : Below w.heap.size w W) (hgw : w.heap.size ≤ gF) :
    ∃ Wi, Wi = (((((((W.setCell ⟨gF, i * 7, none⟩ (.int .i64 x.f0)).setCell ⟨gF, i * 7 + 1, none⟩ (.int .i64 x.f1)).setCell ⟨gF, i * 7 + 2, none⟩ (.string x.f2)).setCell ⟨gF, i * 7 + 3, none⟩ (.slice Ak x.f3.length ck)).setCell ⟨gF, i * 7 + 4, none⟩ (.slice Al x.f4.length cl)).setCell ⟨gF, i * 7 + 5, none⟩ (.int .i64 q)).setCell ⟨gF, i * 7 + 6, none⟩ (.slice none 0 0)) ∧ Grow w0 X Wi Wi gF cf n base g r pl t i [.int .i64 x.f0, .int .i64 x.f1, .string x.f2, .slice Ak x.f3.length ck, .slice Al x.f4.length cl, .int .i64 q] (.slice none 0 0) [] ∧ Below w.heap.size w Wi := by
  refine ⟨_, rfl, ?_⟩
  rw [← setCells7]
  obtain ⟨h1, h2⟩ := h.fresh hg hi (hd := [.int .i64 x.f0, .int .i64 x.f1, .string x.f2, .slice Ak x.f3.length ck, .slice Al x.f4.length cl, .int .i64 q]) rfl (fun u hu => by
    simp only [List.mem_cons, List.not_mem_nil, or_false] at hu
    rcases hu with rfl | rfl | rfl | rfl | rfl | rfl <;> rfl)
  exact ⟨h1, pw_below_grown hb (some gF) hb.size h2 (fun k hk => by
    injection hk with hk
    rw [← hk]
    exact hgw)⟩
/-- A set more. -/
theorem Grow.step {w0 X Wi W W1 W2 : World} {gF cf n base : Nat} {g : List GN} {r : Int → Int} {pl : List Int} {t i : Nat} {hd : List Value} {v v' : Value} {ss ss' : List (List Int)} (h : Grow w0 X Wi W gF cf n base g r pl t i hd v ss) (hb : Below W.heap.size W W1) (ho : Kd.R KL 31 W2 Wi.heap.size (fun _ => True) v' ss') (hb2 : Below Wi.heap.size W1 W2) :
    Grow w0 X Wi (W2.setCell ⟨gF, i * 7 + 6, none⟩ v') gF cf n base g r pl t i hd v' ss' := by
  obtain ⟨fs, rows, hfl, hrl, hR, hf, hp⟩ := h.row
  have hgi : gF < Wi.heap.size := Nat.lt_of_lt_of_le h.gfx h.kex.1
  have hk1 : Kept Wi W1 (fun k => k = gF) := h.kep.below hb
  have hk2 : Kept Wi W2 (fun k => k = gF) := hk1.then_ (S2 := fun k => Wi.heap.size ≤ k) ⟨hb2.size, fun k hk hn => hb2.block k (Nat.lt_of_not_le hn)⟩ (fun k hk => .inr hk)
  have hR2 : (Kd.raw 7).R 69 W2 base (fun _ => True) (.slice (some ⟨gF, 0, none⟩) n cf) (rows.set i (hd ++ [v])) := Kd.raw_any (Kd.R_step (Kd.raw_tight (Kd.R_below hR hb)) (fun k hk hlt => hb2.block k (by
    have : k = gF := by simpa [Value.ownBlock] using hk
    omega)))
  obtain ⟨c, hcl, hci, h3, hg3⟩ := raw_put hR2 h.hi (j := 6) (seg := [v']) (by simp) (fun u hu => by
    rw [List.mem_singleton.1 hu]
    exact (Kd.R_val ho).2)
  have hc : c = hd ++ [v] := by
    rw [List.getElem?_set_self (by rw [hrl]; exact h.hi)] at hci
    exact (Option.some.inj hci).symm
  have hset : W2.setCells gF (i * 7 + 6) [v'] = W2.setCell ⟨gF, i * 7 + 6, none⟩ v' := rfl
  have hcs : c.take 6 ++ [v'] ++ c.drop (6 + [v'].length) = hd ++ [v'] := by
    rw [hc, List.take_left' h.hl, List.drop_eq_nil_of_le (by simp [h.hl]), List.append_nil]
  rw [hset, hcs, List.set_set] at h3
  refine ⟨⟨fs, rows, hfl, hrl, h3, hf, hp⟩, ?_, hk2.setCell (p := ⟨gF, i * 7 + 6, none⟩) (.inl rfl) _, h.kex, h.gfx, h.hi, h.hl⟩
  exact Kd.R_mono (Kd.R_far (p := ⟨gF, i * 7 + 6, none⟩) (Kd.R_bound ho) (fun k hk => by
    have := hk.2.1
    show k ≠ gF
    omega) _) (fun _ _ => trivial)
theorem Grow.cell {w0 X Wi W : World} {gF cf n base : Nat} {g : List GN} {r : Int → Int} {pl : List Int} {t i : Nat} {hd : List Value} {v : Value} {ss : List (List Int)} (h : Grow w0 X Wi W gF cf n base g r pl t i hd v ss) : W.cell? ⟨gF, i * 7 + 6, none⟩ = some v ∧ W.frozen? ⟨gF, i * 7 + 6, none⟩ = false := by
  obtain ⟨fs, rows, hfl, hrl, hR, hf, hp⟩ := h.row
  obtain ⟨c, hci, hcl, hcc, hfr⟩ := raw_elem hR h.hi
  have hc : c = hd ++ [v] := by
    rw [List.getElem?_set_self (by rw [hrl]; exact h.hi)] at hci
    exact (Option.some.inj hci).symm
  exact ⟨hcc 6 v (by rw [hc, List.getElem?_append_right (by rw [h.hl]; exact Nat.le_refl _), h.hl]; rfl), hfr 6⟩
theorem Grow.kx {w0 X Wi W : World} {gF cf n base : Nat} {g : List GN} {r : Int → Int} {pl : List Int} {t i : Nat} {hd : List Value} {v : Value} {ss : List (List Int)} (h : Grow w0 X Wi W gF cf n base g r pl t i hd v ss) : Kept X W (fun k => k = gF) := h.kex.then_ h.kep (fun k hk => .inl hk)
theorem Grow.later {w0 X Wi W W1 W2 : World} {gF cf n base : Nat} {g : List GN} {r : Int → Int} {pl : List Int} {t i : Nat} {hd : List Value} {v : Value} {ss : List (List Int)} (h : Grow w0 X Wi W gF cf n base g r pl t i hd v ss) (hb : Below W.heap.size W W1) (hb2 : Below Wi.heap.size W1 W2) : W2.cell? ⟨gF, i * 7 + 6, none⟩ = some v ∧ W2.frozen? ⟨gF, i * 7 + 6, none⟩ = false := by
  have hgi : gF < Wi.heap.size := Nat.lt_of_lt_of_le h.gfx h.kex.1
  have hgw : gF < W.heap.size := Nat.lt_of_lt_of_le hgi h.kep.1
  have e : W2.heap[gF]? = W.heap[gF]? := (hb2.block gF hgi).trans (hb.block gF hgw)
  obtain ⟨h1, h2⟩ := h.cell
  exact ⟨by simpa [World.cell?, e] using h1, by simpa [World.frozen?, e] using h2⟩
/-- The form is there. -/
theorem Grow.done {w0 X Wi W : World} {gF cf n base : Nat} {g : List GN} {r : Int → Int} {pl : List Int} {t i : Nat} {v : Value} {x : Fm} {A1 : Option Addr} {c1 : Nat} {A2 : Option Addr} {c2 : Nat} (h : Grow w0 X Wi W gF cf n base g r pl t i [.int .i64 x.node.f0, .int .i64 x.node.f1, .string x.node.f2, .slice A1 x.node.f3.length c1, .slice A2 x.node.f4.length c2, .int .i64 x.rank] v x.sets)
    (hN : P.k33.K w0 x.node [.int .i64 x.node.f0, .int .i64 x.node.f1, .string x.node.f2, .slice A1 x.node.f3.length c1, .slice A2 x.node.f4.length c2]) (hi : i = (pl.getD t 0).toNat) (hne : ∀ j, j < t → (pl.getD j 0).toNat ≠ i) (hx : FmPart g r (pl.getD t 0) (nd g (pl.getD t 0)).f4.length x) : Fill w0 X W gF cf n base g r pl (t + 1) := by
  obtain ⟨fs, rows, hfl, hrl, hR, hf, hp⟩ := h.row
  have hkx : Kept X W (fun k => k = gF) := h.kex.then_ h.kep (fun k hk => .inl hk)
  have hgi : gF < Wi.heap.size := Nat.lt_of_lt_of_le h.gfx h.kex.1
  have hin : i < n := h.hi
  refine ⟨⟨fs.set i x, by rw [List.length_set]; exact hfl, ⟨fun k hk => .inl (by simpa [Value.ownBlock] using hk.symm), rows.set i _, by rw [List.length_set, List.length_set]; omega, Kd.raw_tight hR, fun j y c hy hc => ?_⟩, fun j hj => ?_⟩, hkx⟩
  · by_cases hji : j = i
    · subst hji
      rw [List.getElem?_set_self (by omega)] at hy hc
      injection hy with hy
      injection hc with hc
      subst hy
      subst hc
      obtain ⟨A3, c3, rfl⟩ := Kd.R_slice h.own
      have h6 := (Kd.R_reads' h.own).2.1
      intro W' hW'
      refine kF_mk hN h6 (Kd.R_F (Kd.R_bound h.own) W' (fun k hk hlt => hW' k ⟨.inr (Nat.le_trans h.kex.1 hk.2.1), fun e => ?_⟩ hlt))
      have e' : k = gF := by simpa [Value.ownBlock] using e
      have := hk.2.1
      omega
    · rw [List.getElem?_set_ne (fun e => hji e.symm)] at hy hc
      refine Kd.FK_mono (Kd.FK_step (hf j y c hji hy hc) (fun k hk hlt => h.kep.2 k hlt (fun e => ?_))) (fun k hk => ⟨.inr hk.1, fun e => ?_⟩)
      · have := h.gfx
        have := hk.1
        omega
      · have e' : k = gF := by simpa [Value.ownBlock] using e
        have := h.gfx
        have := hk.1
        omega
  · by_cases hjt : j = t
    · subst hjt
      rw [← hi, List.getD_eq_getElem?_getD (l := fs.set i x), List.getElem?_set_self (by omega)]
      exact hx
    · have := hp j (by omega)
      rw [List.getD_eq_getElem?_getD (l := fs.set i x), List.getElem?_set_ne (fun e => hne j (by omega) e.symm), ← List.getD_eq_getElem?_getD]
      exact this
end Go.Proofs.YtgppcpghpeenhaaDoor.CM

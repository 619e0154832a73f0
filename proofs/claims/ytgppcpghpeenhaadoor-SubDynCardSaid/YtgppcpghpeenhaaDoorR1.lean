/- rec, and the chapter's graph. -/
import Derived.Test.YtgppcpghpeenhaaDoorProg
import Derived.Test.YtgppcpghpeenhaaDoorWWords
import Derived.Test.YtgppcpghpeenhaaDoorWLast
import Derived.Test.YtgppcpghpeenhaaDoorS11
namespace Go.Proofs.YtgppcpghpeenhaaDoor.R1
open Go.RowKit Go.Proofs.YtgppcpghpeenhaaDoorW.PrintWords Go.Proofs.YtgppcpghpeenhaaDoorW.PrintLast Go.Proofs.YtgppcpghpeenhaaDoorW.PrintMore Go.Proofs.YtgppcpghpeenhaaDoor L1 G1 G2 S3
set_option linter.unusedVariables false
set_option linter.unusedSimpArgs false
def kA : ByteArray := ⟨#[97]⟩
def kB : ByteArray := ⟨#[98]⟩
def kC : ByteArray := ⟨#[99]⟩
def recK (n : Nat) : List ByteArray := [kA, kB, kC].take n
set_option maxHeartbeats 4000000 in
set_option maxRecDepth 100000 in
theorem rec_yes (A : Option Addr) (c : Nat) (n : Nat) (w : World) (hn : n ≤ 3) :
    Calls Tryd.prog 11 #[.slice A n c] w fun e w' => ∃ q, e = .returned (.agg #[.int .i64 7, .int .i64 0, .string ⟨#[]⟩, .slice (some ⟨q, 0, none⟩) n 3, .slice A n c]) ∧
      w.heap.size ≤ q ∧ w'.heap[q]? = some (.cells #[.string kA, .string kB, .string kC] 9 (0, 0)) ∧ Below w.heap.size w w' := by
  have h3 : ((n : Int) ≤ 3) = True := eq_true (by omega)
  have h0 : ((0 : Int) ≤ (n : Int)) = True := eq_true (by omega)
  go_enter Tryd.func11, Tryd.ntmps11
  go_wp2_with (fail)
  have hb := below_alloc (below_alloc (Below.refl w.heap.size w) (.cells #[.int .i64 7, .int .i64 0, .string ⟨#[]⟩, .slice (some ⟨w.heap.size + 1, 0, none⟩) n 3, .slice A n c] 33)) (.cells #[.string ⟨#[97]⟩, .string ⟨#[98]⟩, .string ⟨#[99]⟩] 9)
  have h1 := blk_alloc (heap_alloc_new w (.cells #[.int .i64 7, .int .i64 0, .string ⟨#[]⟩, .slice (some ⟨w.heap.size + 1, 0, none⟩) n 3, .slice A n c] 33)) (.cells #[.string ⟨#[97]⟩, .string ⟨#[98]⟩, .string ⟨#[99]⟩] 9)
  have h2 := heap_alloc_new (w.alloc (.cells #[.int .i64 7, .int .i64 0, .string ⟨#[]⟩, .slice (some ⟨w.heap.size + 1, 0, none⟩) n 3, .slice A n c] 33)) (.cells #[.string ⟨#[97]⟩, .string ⟨#[98]⟩, .string ⟨#[99]⟩] 9)
  rw [World.size_alloc] at h2
  generalize (w.alloc (.cells #[.int .i64 7, .int .i64 0, .string ⟨#[]⟩, .slice (some ⟨w.heap.size + 1, 0, none⟩) n 3, .slice A n c] 33)).alloc (.cells #[.string ⟨#[97]⟩, .string ⟨#[98]⟩, .string ⟨#[99]⟩] 9) = W at hb h1 h2 ⊢
  have q0 : W.cell? ⟨w.heap.size, 0, none⟩ = some (.int .i64 7) := (blk_cell h1 0).trans rfl
  have q1 : W.cell? ⟨w.heap.size, 1, none⟩ = some (.int .i64 0) := (blk_cell h1 1).trans rfl
  have q2 : W.cell? ⟨w.heap.size, 2, none⟩ = some (.string ⟨#[]⟩) := (blk_cell h1 2).trans rfl
  have q3 : W.cell? ⟨w.heap.size, 3, none⟩ = some (.slice (some ⟨w.heap.size + 1, 0, none⟩) n 3) := (blk_cell h1 3).trans rfl
  have q4 : W.cell? ⟨w.heap.size, 4, none⟩ = some (.slice A n c) := (blk_cell h1 4).trans rfl
  refine bodyPost_ret (v := .agg #[.int .i64 7, .int .i64 0, .string ⟨#[]⟩, .slice (some ⟨w.heap.size + 1, 0, none⟩) n 3, .slice A n c]) ?_ rfl ⟨_, rfl, by omega, h2, hb⟩
  unfold results
  rw [show Tryd.f11.results = #[ResultVar.cell 2 33] from rfl]
  go_simp
theorem lit_ints (V : World) (xs : List Int) (hm : xs.length ≤ 9223372036854775807) : Kd.C (Kd.int .i64) (V.alloc (.cells (nums .i64 xs).toArray 3)) (some ⟨V.heap.size, 0, none⟩) xs.length xs := by
  have hr : Kd.R (Kd.int .i64) 3 (V.alloc (.cells (nums .i64 xs).toArray 3)) V.heap.size (fun _ => True) (.slice (some ⟨V.heap.size, 0, none⟩) xs.length xs.length) xs := Kd.R_of_own (own_lit V V.heap.size 3 .i64 xs (Nat.le_refl _) hm) (fun _ _ => trivial)
  exact (Kd.R_reads' hr).2.2
theorem add_at (q j n : Nat) (h : n = j) : (⟨q, 0, none⟩ : Addr).add n = ⟨q, j, none⟩ := by
  subst h
  rcases n with _ | n
  · rfl
  · simp [Addr.add]
theorem C_keys {W : World} {q : Nat} (h : W.heap[q]? = some (.cells #[.string kA, .string kB, .string kC] 9 (0, 0))) {n : Nat} (hn : n ≤ 3) : Kd.C Kd.string W (some ⟨q, 0, none⟩) n (recK n) := by
  refine ⟨by simp [recK]; omega, by omega, fun _ => ⟨_, rfl, fun j p hj => ⟨[.string p], rfl, rfl, fun i u hu => ?_⟩⟩⟩
  rcases i with _ | i
  · simp at hu
    subst hu
    have hjn : j < n := by
      have h1 := (List.getElem?_eq_some_iff.1 hj).1
      simp [recK] at h1
      omega
    have hp : [kA, kB, kC][j]? = some p := by
      rw [← hj]
      unfold recK
      rw [List.getElem?_take_of_lt hjn]
    have := blk_cell h j
    rw [show (⟨q, 0, none⟩ : Addr).add (j * Kd.string.sz + 0) = ⟨q, j, none⟩ from add_at q j _ (by rw [show Kd.string.sz = 1 from rfl]; omega)]
    rw [this]
    rcases j with _ | _ | _ | j
    · simp at hp; rw [← hp]; rfl
    · simp at hp; rw [← hp]; rfl
    · simp at hp; rw [← hp]; rfl
    · simp at hp
  · simp at hu
/-- A record of the keys a, b, and so on. -/
def recG (l : List Int) : GN := ⟨7, 0, ⟨#[]⟩, recK l.length, l⟩
theorem recK_len {n : Nat} (h : n ≤ 3) : (recK n).length = n := by simp [recK]; omega
def chap : List GN := [⟨4, 0, ⟨#[]⟩, [], []⟩, ⟨2, 0, ⟨#[]⟩, [], []⟩, ⟨1, 0, ⟨#[]⟩, [], []⟩, recG [0], recG [0, 1], ⟨8, 0, ⟨#[]⟩, [], [0, 1]⟩, recG [5], ⟨9, 0, ⟨#[]⟩, [], [3]⟩, recG [8], recG [10], recG [9, 0]]
/-- A node in memory, with its slices. -/
structure Row5 where
  x : GN
  Ak : Option Addr
  ck : Nat
  Al : Option Addr
  cl : Nat
def Row5.cells (r : Row5) : List Value := [.int .i64 r.x.f0, .int .i64 r.x.f1, .string r.x.f2, .slice r.Ak r.x.f3.length r.ck, .slice r.Al r.x.f4.length r.cl]
theorem flat5 : ∀ (rows : List Row5) (j : Nat) (r : Row5), rows[j]? = some r → ∀ i u, r.cells[i]? = some u → (rows.flatMap Row5.cells)[j * 5 + i]? = some u
  | [], j, r, h, _, _, _ => by simp at h
  | x :: rest, 0, r, h, i, u, hu => by
    simp at h
    subst h
    rw [List.flatMap_cons, Nat.zero_mul, Nat.zero_add, List.getElem?_append_left (List.getElem?_eq_some_iff.1 hu).1]
    exact hu
  | x :: rest, j + 1, r, h, i, u, hu => by
    simp at h
    rw [List.flatMap_cons, List.getElem?_append_right (by show 5 ≤ _; omega)]
    rw [show (j + 1) * 5 + i - x.cells.length = j * 5 + i by show _ - 5 = _; omega]
    exact flat5 rest j r h i u hu
theorem C_graph {W : World} {q : Nat} (rows : List Row5) (h : W.heap[q]? = some (.cells (rows.flatMap Row5.cells).toArray 33 (0, 0))) (hn : rows.length ≤ 9223372036854775807) (hr : ∀ r ∈ rows, Nd W r.x r.Ak r.ck r.Al r.cl) :
    Kd.C P.k33 W (some ⟨q, 0, none⟩) rows.length (rows.map Row5.x) := by
  refine ⟨by simp, hn, fun _ => ⟨_, rfl, fun j p hj => ?_⟩⟩
  rw [List.getElem?_map] at hj
  cases hrow : rows[j]? with
  | none => rw [hrow] at hj; cases hj
  | some r =>
    rw [hrow] at hj
    simp at hj
    subst hj
    have hN := hr r (List.mem_of_getElem? hrow)
    refine ⟨r.cells, rfl, P.k33_mk W r.x hN.kc hN.ks hN.lc hN.ls, fun i u hu => ?_⟩
    rw [show (⟨q, 0, none⟩ : Addr).add (j * P.k33.sz + i) = ⟨q, j * 5 + i, none⟩ from add_at q _ _ rfl]
    rw [blk_cell h]
    have := flat5 rows j r hrow i u hu
    simpa using this
theorem C_none {α : Type} (d : Kd α) (w : World) : Kd.C d w none 0 [] := ⟨rfl, by omega, fun h => by omega⟩
set_option maxHeartbeats 8000000 in
set_option maxRecDepth 100000 in
theorem chapter_yes (w : World) : Calls Tryd.prog 19 #[] w fun e w' => ∃ A, e = .returned (.slice A 11 11) ∧ Kd.C P.k33 w' A 11 chap ∧ Below w.heap.size w w' := by
  go_enter Tryd.func19, Tryd.ntmps19
  have HB0 := Aside0.mk (Below.refl w.heap.size w)
  have c1 : Kd.C (Kd.int .i64) (w.alloc (.cells #[.int .i64 0] 3)) (some ⟨w.heap.size, 0, none⟩) 1 [0] := lit_ints w [0] (by decide)
  have hbl1 := below_alloc (Below.refl w.heap.size w) (.cells #[.int .i64 0] 3)
  have HB1' := Aside0.mk (HB0.out.trans (hbl1.mono HB0.out.size))
  clear hbl1
  have Hc1 := Aside0.mk c1
  clear c1
  go_wp2_with (fail)
  have c1 := Hc1.out
  clear Hc1
  obtain ⟨b1, hb1⟩ : ∃ b, b = w.heap.size := ⟨_, rfl⟩
  rw [← hb1] at c1 ⊢
  clear hb1
  generalize (w.alloc (.cells #[.int .i64 0] 3)) = U1 at HB1' c1 ⊢
  refine (rec_yes (some ⟨b1, 0, none⟩) 1 1 U1 (by omega)).mono ?_
  rintro e V1 ⟨q1, rfl, hq, hs, hb⟩
  have s1 := C_keys hs (n := 1) (by omega)
  replace c1 := Kd.C_below c1 hb
  have HB1 := Aside0.mk (HB1'.out.trans (hb.mono HB1'.out.size))
  clear hq hs hb HB1'
  have c2 : Kd.C (Kd.int .i64) (V1.alloc (.cells #[.int .i64 0, .int .i64 1] 3)) (some ⟨V1.heap.size, 0, none⟩) 2 [0, 1] := lit_ints V1 [0, 1] (by decide)
  have hbl2 := below_alloc (Below.refl V1.heap.size V1) (.cells #[.int .i64 0, .int .i64 1] 3)
  replace c1 := Kd.C_below c1 hbl2
  replace s1 := Kd.C_below s1 hbl2
  have HB2' := Aside0.mk (HB1.out.trans (hbl2.mono HB1.out.size))
  clear hbl2
  have Hc1 := Aside0.mk c1
  clear c1
  have Hs1 := Aside0.mk s1
  clear s1
  have Hc2 := Aside0.mk c2
  clear c2
  go_wp2_with (fail)
  have c1 := Hc1.out
  clear Hc1
  have s1 := Hs1.out
  clear Hs1
  have c2 := Hc2.out
  clear Hc2
  obtain ⟨b2, hb2⟩ : ∃ b, b = V1.heap.size := ⟨_, rfl⟩
  rw [← hb2] at c2 ⊢
  clear hb2
  generalize (V1.alloc (.cells #[.int .i64 0, .int .i64 1] 3)) = U2 at HB2' c1 s1 c2 ⊢
  refine (rec_yes (some ⟨b2, 0, none⟩) 2 2 U2 (by omega)).mono ?_
  rintro e V2 ⟨q2, rfl, hq, hs, hb⟩
  have s2 := C_keys hs (n := 2) (by omega)
  replace c1 := Kd.C_below c1 hb
  replace s1 := Kd.C_below s1 hb
  replace c2 := Kd.C_below c2 hb
  have HB2 := Aside0.mk (HB2'.out.trans (hb.mono HB2'.out.size))
  clear hq hs hb HB2'
  have c3 : Kd.C (Kd.int .i64) (V2.alloc (.cells #[.int .i64 0, .int .i64 1] 3)) (some ⟨V2.heap.size, 0, none⟩) 2 [0, 1] := lit_ints V2 [0, 1] (by decide)
  have c4 : Kd.C (Kd.int .i64) ((V2.alloc (.cells #[.int .i64 0, .int .i64 1] 3)).alloc (.cells #[.int .i64 5] 3)) (some ⟨(V2.alloc (.cells #[.int .i64 0, .int .i64 1] 3)).heap.size, 0, none⟩) 1 [5] := lit_ints (V2.alloc (.cells #[.int .i64 0, .int .i64 1] 3)) [5] (by decide)
  rw [World.size_alloc] at c4
  have hbl3 := below_alloc (below_alloc (Below.refl V2.heap.size V2) (.cells #[.int .i64 0, .int .i64 1] 3)) (.cells #[.int .i64 5] 3)
  replace c3 := Kd.C_below c3 (below_alloc (Below.refl (V2.alloc (.cells #[.int .i64 0, .int .i64 1] 3)).heap.size (V2.alloc (.cells #[.int .i64 0, .int .i64 1] 3))) (.cells #[.int .i64 5] 3))
  replace c1 := Kd.C_below c1 hbl3
  replace s1 := Kd.C_below s1 hbl3
  replace c2 := Kd.C_below c2 hbl3
  replace s2 := Kd.C_below s2 hbl3
  have HB3' := Aside0.mk (HB2.out.trans (hbl3.mono HB2.out.size))
  clear hbl3
  have Hc1 := Aside0.mk c1
  clear c1
  have Hs1 := Aside0.mk s1
  clear s1
  have Hc2 := Aside0.mk c2
  clear c2
  have Hs2 := Aside0.mk s2
  clear s2
  have Hc3 := Aside0.mk c3
  clear c3
  have Hc4 := Aside0.mk c4
  clear c4
  go_wp2_with (fail)
  have c1 := Hc1.out
  clear Hc1
  have s1 := Hs1.out
  clear Hs1
  have c2 := Hc2.out
  clear Hc2
  have s2 := Hs2.out
  clear Hs2
  have c3 := Hc3.out
  clear Hc3
  have c4 := Hc4.out
  clear Hc4
  obtain ⟨b3, hb3⟩ : ∃ b, b = V2.heap.size := ⟨_, rfl⟩
  rw [← hb3] at c3 c4 ⊢
  clear hb3
  generalize ((V2.alloc (.cells #[.int .i64 0, .int .i64 1] 3)).alloc (.cells #[.int .i64 5] 3)) = U3 at HB3' c1 s1 c2 s2 c3 c4 ⊢
  refine (rec_yes (some ⟨b3 + 1, 0, none⟩) 1 1 U3 (by omega)).mono ?_
  rintro e V3 ⟨q3, rfl, hq, hs, hb⟩
  have s3 := C_keys hs (n := 1) (by omega)
  replace c1 := Kd.C_below c1 hb
  replace s1 := Kd.C_below s1 hb
  replace c2 := Kd.C_below c2 hb
  replace s2 := Kd.C_below s2 hb
  replace c3 := Kd.C_below c3 hb
  replace c4 := Kd.C_below c4 hb
  have HB3 := Aside0.mk (HB3'.out.trans (hb.mono HB3'.out.size))
  clear hq hs hb HB3'
  have c5 : Kd.C (Kd.int .i64) (V3.alloc (.cells #[.int .i64 3] 3)) (some ⟨V3.heap.size, 0, none⟩) 1 [3] := lit_ints V3 [3] (by decide)
  have c6 : Kd.C (Kd.int .i64) ((V3.alloc (.cells #[.int .i64 3] 3)).alloc (.cells #[.int .i64 8] 3)) (some ⟨(V3.alloc (.cells #[.int .i64 3] 3)).heap.size, 0, none⟩) 1 [8] := lit_ints (V3.alloc (.cells #[.int .i64 3] 3)) [8] (by decide)
  rw [World.size_alloc] at c6
  have hbl4 := below_alloc (below_alloc (Below.refl V3.heap.size V3) (.cells #[.int .i64 3] 3)) (.cells #[.int .i64 8] 3)
  replace c5 := Kd.C_below c5 (below_alloc (Below.refl (V3.alloc (.cells #[.int .i64 3] 3)).heap.size (V3.alloc (.cells #[.int .i64 3] 3))) (.cells #[.int .i64 8] 3))
  replace c1 := Kd.C_below c1 hbl4
  replace s1 := Kd.C_below s1 hbl4
  replace c2 := Kd.C_below c2 hbl4
  replace s2 := Kd.C_below s2 hbl4
  replace c3 := Kd.C_below c3 hbl4
  replace c4 := Kd.C_below c4 hbl4
  replace s3 := Kd.C_below s3 hbl4
  have HB4' := Aside0.mk (HB3.out.trans (hbl4.mono HB3.out.size))
  clear hbl4
  have Hc1 := Aside0.mk c1
  clear c1
  have Hs1 := Aside0.mk s1
  clear s1
  have Hc2 := Aside0.mk c2
  clear c2
  have Hs2 := Aside0.mk s2
  clear s2
  have Hc3 := Aside0.mk c3
  clear c3
  have Hc4 := Aside0.mk c4
  clear c4
  have Hs3 := Aside0.mk s3
  clear s3
  have Hc5 := Aside0.mk c5
  clear c5
  have Hc6 := Aside0.mk c6
  clear c6
  go_wp2_with (fail)
  have c1 := Hc1.out
  clear Hc1
  have s1 := Hs1.out
  clear Hs1
  have c2 := Hc2.out
  clear Hc2
  have s2 := Hs2.out
  clear Hs2
  have c3 := Hc3.out
  clear Hc3
  have c4 := Hc4.out
  clear Hc4
  have s3 := Hs3.out
  clear Hs3
  have c5 := Hc5.out
  clear Hc5
  have c6 := Hc6.out
  clear Hc6
  obtain ⟨b4, hb4⟩ : ∃ b, b = V3.heap.size := ⟨_, rfl⟩
  rw [← hb4] at c5 c6 ⊢
  clear hb4
  generalize ((V3.alloc (.cells #[.int .i64 3] 3)).alloc (.cells #[.int .i64 8] 3)) = U4 at HB4' c1 s1 c2 s2 c3 c4 s3 c5 c6 ⊢
  refine (rec_yes (some ⟨b4 + 1, 0, none⟩) 1 1 U4 (by omega)).mono ?_
  rintro e V4 ⟨q4, rfl, hq, hs, hb⟩
  have s4 := C_keys hs (n := 1) (by omega)
  replace c1 := Kd.C_below c1 hb
  replace s1 := Kd.C_below s1 hb
  replace c2 := Kd.C_below c2 hb
  replace s2 := Kd.C_below s2 hb
  replace c3 := Kd.C_below c3 hb
  replace c4 := Kd.C_below c4 hb
  replace s3 := Kd.C_below s3 hb
  replace c5 := Kd.C_below c5 hb
  replace c6 := Kd.C_below c6 hb
  have HB4 := Aside0.mk (HB4'.out.trans (hb.mono HB4'.out.size))
  clear hq hs hb HB4'
  have c7 : Kd.C (Kd.int .i64) (V4.alloc (.cells #[.int .i64 10] 3)) (some ⟨V4.heap.size, 0, none⟩) 1 [10] := lit_ints V4 [10] (by decide)
  have hbl5 := below_alloc (Below.refl V4.heap.size V4) (.cells #[.int .i64 10] 3)
  replace c1 := Kd.C_below c1 hbl5
  replace s1 := Kd.C_below s1 hbl5
  replace c2 := Kd.C_below c2 hbl5
  replace s2 := Kd.C_below s2 hbl5
  replace c3 := Kd.C_below c3 hbl5
  replace c4 := Kd.C_below c4 hbl5
  replace s3 := Kd.C_below s3 hbl5
  replace c5 := Kd.C_below c5 hbl5
  replace c6 := Kd.C_below c6 hbl5
  replace s4 := Kd.C_below s4 hbl5
  have HB5' := Aside0.mk (HB4.out.trans (hbl5.mono HB4.out.size))
  clear hbl5
  have Hc1 := Aside0.mk c1
  clear c1
  have Hs1 := Aside0.mk s1
  clear s1
  have Hc2 := Aside0.mk c2
  clear c2
  have Hs2 := Aside0.mk s2
  clear s2
  have Hc3 := Aside0.mk c3
  clear c3
  have Hc4 := Aside0.mk c4
  clear c4
  have Hs3 := Aside0.mk s3
  clear s3
  have Hc5 := Aside0.mk c5
  clear c5
  have Hc6 := Aside0.mk c6
  clear c6
  have Hs4 := Aside0.mk s4
  clear s4
  have Hc7 := Aside0.mk c7
  clear c7
  go_wp2_with (fail)
  have c1 := Hc1.out
  clear Hc1
  have s1 := Hs1.out
  clear Hs1
  have c2 := Hc2.out
  clear Hc2
  have s2 := Hs2.out
  clear Hs2
  have c3 := Hc3.out
  clear Hc3
  have c4 := Hc4.out
  clear Hc4
  have s3 := Hs3.out
  clear Hs3
  have c5 := Hc5.out
  clear Hc5
  have c6 := Hc6.out
  clear Hc6
  have s4 := Hs4.out
  clear Hs4
  have c7 := Hc7.out
  clear Hc7
  obtain ⟨b5, hb5⟩ : ∃ b, b = V4.heap.size := ⟨_, rfl⟩
  rw [← hb5] at c7 ⊢
  clear hb5
  generalize (V4.alloc (.cells #[.int .i64 10] 3)) = U5 at HB5' c1 s1 c2 s2 c3 c4 s3 c5 c6 s4 c7 ⊢
  refine (rec_yes (some ⟨b5, 0, none⟩) 1 1 U5 (by omega)).mono ?_
  rintro e V5 ⟨q5, rfl, hq, hs, hb⟩
  have s5 := C_keys hs (n := 1) (by omega)
  replace c1 := Kd.C_below c1 hb
  replace s1 := Kd.C_below s1 hb
  replace c2 := Kd.C_below c2 hb
  replace s2 := Kd.C_below s2 hb
  replace c3 := Kd.C_below c3 hb
  replace c4 := Kd.C_below c4 hb
  replace s3 := Kd.C_below s3 hb
  replace c5 := Kd.C_below c5 hb
  replace c6 := Kd.C_below c6 hb
  replace s4 := Kd.C_below s4 hb
  replace c7 := Kd.C_below c7 hb
  have HB5 := Aside0.mk (HB5'.out.trans (hb.mono HB5'.out.size))
  clear hq hs hb HB5'
  have c8 : Kd.C (Kd.int .i64) (V5.alloc (.cells #[.int .i64 9, .int .i64 0] 3)) (some ⟨V5.heap.size, 0, none⟩) 2 [9, 0] := lit_ints V5 [9, 0] (by decide)
  have hbl6 := below_alloc (Below.refl V5.heap.size V5) (.cells #[.int .i64 9, .int .i64 0] 3)
  replace c1 := Kd.C_below c1 hbl6
  replace s1 := Kd.C_below s1 hbl6
  replace c2 := Kd.C_below c2 hbl6
  replace s2 := Kd.C_below s2 hbl6
  replace c3 := Kd.C_below c3 hbl6
  replace c4 := Kd.C_below c4 hbl6
  replace s3 := Kd.C_below s3 hbl6
  replace c5 := Kd.C_below c5 hbl6
  replace c6 := Kd.C_below c6 hbl6
  replace s4 := Kd.C_below s4 hbl6
  replace c7 := Kd.C_below c7 hbl6
  replace s5 := Kd.C_below s5 hbl6
  have HB6' := Aside0.mk (HB5.out.trans (hbl6.mono HB5.out.size))
  clear hbl6
  have Hc1 := Aside0.mk c1
  clear c1
  have Hs1 := Aside0.mk s1
  clear s1
  have Hc2 := Aside0.mk c2
  clear c2
  have Hs2 := Aside0.mk s2
  clear s2
  have Hc3 := Aside0.mk c3
  clear c3
  have Hc4 := Aside0.mk c4
  clear c4
  have Hs3 := Aside0.mk s3
  clear s3
  have Hc5 := Aside0.mk c5
  clear c5
  have Hc6 := Aside0.mk c6
  clear c6
  have Hs4 := Aside0.mk s4
  clear s4
  have Hc7 := Aside0.mk c7
  clear c7
  have Hs5 := Aside0.mk s5
  clear s5
  have Hc8 := Aside0.mk c8
  clear c8
  go_wp2_with (fail)
  have c1 := Hc1.out
  clear Hc1
  have s1 := Hs1.out
  clear Hs1
  have c2 := Hc2.out
  clear Hc2
  have s2 := Hs2.out
  clear Hs2
  have c3 := Hc3.out
  clear Hc3
  have c4 := Hc4.out
  clear Hc4
  have s3 := Hs3.out
  clear Hs3
  have c5 := Hc5.out
  clear Hc5
  have c6 := Hc6.out
  clear Hc6
  have s4 := Hs4.out
  clear Hs4
  have c7 := Hc7.out
  clear Hc7
  have s5 := Hs5.out
  clear Hs5
  have c8 := Hc8.out
  clear Hc8
  obtain ⟨b6, hb6⟩ : ∃ b, b = V5.heap.size := ⟨_, rfl⟩
  rw [← hb6] at c8 ⊢
  clear hb6
  generalize (V5.alloc (.cells #[.int .i64 9, .int .i64 0] 3)) = U6 at HB6' c1 s1 c2 s2 c3 c4 s3 c5 c6 s4 c7 s5 c8 ⊢
  refine (rec_yes (some ⟨b6, 0, none⟩) 2 2 U6 (by omega)).mono ?_
  rintro e V6 ⟨q6, rfl, hq, hs, hb⟩
  have s6 := C_keys hs (n := 2) (by omega)
  replace c1 := Kd.C_below c1 hb
  replace s1 := Kd.C_below s1 hb
  replace c2 := Kd.C_below c2 hb
  replace s2 := Kd.C_below s2 hb
  replace c3 := Kd.C_below c3 hb
  replace c4 := Kd.C_below c4 hb
  replace s3 := Kd.C_below s3 hb
  replace c5 := Kd.C_below c5 hb
  replace c6 := Kd.C_below c6 hb
  replace s4 := Kd.C_below s4 hb
  replace c7 := Kd.C_below c7 hb
  replace s5 := Kd.C_below s5 hb
  replace c8 := Kd.C_below c8 hb
  have HB6 := Aside0.mk (HB6'.out.trans (hb.mono HB6'.out.size))
  clear hq hs hb HB6'
  have Hc1 := Aside0.mk c1
  clear c1
  have Hs1 := Aside0.mk s1
  clear s1
  have Hc2 := Aside0.mk c2
  clear c2
  have Hs2 := Aside0.mk s2
  clear s2
  have Hc3 := Aside0.mk c3
  clear c3
  have Hc4 := Aside0.mk c4
  clear c4
  have Hs3 := Aside0.mk s3
  clear s3
  have Hc5 := Aside0.mk c5
  clear c5
  have Hc6 := Aside0.mk c6
  clear c6
  have Hs4 := Aside0.mk s4
  clear s4
  have Hc7 := Aside0.mk c7
  clear c7
  have Hs5 := Aside0.mk s5
  clear s5
  have Hc8 := Aside0.mk c8
  clear c8
  have Hs6 := Aside0.mk s6
  clear s6
  go_wp2_with (fail)
  go_ret
  have c1 := Hc1.out
  clear Hc1
  have s1 := Hs1.out
  clear Hs1
  have c2 := Hc2.out
  clear Hc2
  have s2 := Hs2.out
  clear Hs2
  have c3 := Hc3.out
  clear Hc3
  have c4 := Hc4.out
  clear Hc4
  have s3 := Hs3.out
  clear Hs3
  have c5 := Hc5.out
  clear Hc5
  have c6 := Hc6.out
  clear Hc6
  have s4 := Hs4.out
  clear Hs4
  have c7 := Hc7.out
  clear Hc7
  have s5 := Hs5.out
  clear Hs5
  have c8 := Hc8.out
  clear Hc8
  have s6 := Hs6.out
  clear Hs6
  have hr : ∀ r ∈ ([⟨⟨4, 0, ⟨#[]⟩, [], []⟩, none, 0, none, 0⟩, ⟨⟨2, 0, ⟨#[]⟩, [], []⟩, none, 0, none, 0⟩, ⟨⟨1, 0, ⟨#[]⟩, [], []⟩, none, 0, none, 0⟩, ⟨recG [0], some ⟨q1, 0, none⟩, 3, some ⟨b1, 0, none⟩, 1⟩, ⟨recG [0, 1], some ⟨q2, 0, none⟩, 3, some ⟨b2, 0, none⟩, 2⟩, ⟨⟨8, 0, ⟨#[]⟩, [], [0, 1]⟩, none, 0, some ⟨b3, 0, none⟩, 2⟩, ⟨recG [5], some ⟨q3, 0, none⟩, 3, some ⟨b3 + 1, 0, none⟩, 1⟩, ⟨⟨9, 0, ⟨#[]⟩, [], [3]⟩, none, 0, some ⟨b4, 0, none⟩, 1⟩, ⟨recG [8], some ⟨q4, 0, none⟩, 3, some ⟨b4 + 1, 0, none⟩, 1⟩, ⟨recG [10], some ⟨q5, 0, none⟩, 3, some ⟨b5, 0, none⟩, 1⟩, ⟨recG [9, 0], some ⟨q6, 0, none⟩, 3, some ⟨b6, 0, none⟩, 2⟩] : List Row5), Nd V6 r.x r.Ak r.ck r.Al r.cl := by
    intro r hr
    simp only [List.mem_cons, List.not_mem_nil, or_false] at hr
    rcases hr with rfl | rfl | rfl | rfl | rfl | rfl | rfl | rfl | rfl | rfl | rfl
    · exact ⟨C_none _ _, Nat.le_of_ble_eq_true rfl, C_none _ _, Nat.le_of_ble_eq_true rfl⟩
    · exact ⟨C_none _ _, Nat.le_of_ble_eq_true rfl, C_none _ _, Nat.le_of_ble_eq_true rfl⟩
    · exact ⟨C_none _ _, Nat.le_of_ble_eq_true rfl, C_none _ _, Nat.le_of_ble_eq_true rfl⟩
    · exact ⟨s1, Nat.le_of_ble_eq_true rfl, c1, Nat.le_of_ble_eq_true rfl⟩
    · exact ⟨s2, Nat.le_of_ble_eq_true rfl, c2, Nat.le_of_ble_eq_true rfl⟩
    · exact ⟨C_none _ _, Nat.le_of_ble_eq_true rfl, c3, Nat.le_of_ble_eq_true rfl⟩
    · exact ⟨s3, Nat.le_of_ble_eq_true rfl, c4, Nat.le_of_ble_eq_true rfl⟩
    · exact ⟨C_none _ _, Nat.le_of_ble_eq_true rfl, c5, Nat.le_of_ble_eq_true rfl⟩
    · exact ⟨s4, Nat.le_of_ble_eq_true rfl, c6, Nat.le_of_ble_eq_true rfl⟩
    · exact ⟨s5, Nat.le_of_ble_eq_true rfl, c7, Nat.le_of_ble_eq_true rfl⟩
    · exact ⟨s6, Nat.le_of_ble_eq_true rfl, c8, Nat.le_of_ble_eq_true rfl⟩
  have hblk := heap_alloc_new V6 (.cells (([⟨⟨4, 0, ⟨#[]⟩, [], []⟩, none, 0, none, 0⟩, ⟨⟨2, 0, ⟨#[]⟩, [], []⟩, none, 0, none, 0⟩, ⟨⟨1, 0, ⟨#[]⟩, [], []⟩, none, 0, none, 0⟩, ⟨recG [0], some ⟨q1, 0, none⟩, 3, some ⟨b1, 0, none⟩, 1⟩, ⟨recG [0, 1], some ⟨q2, 0, none⟩, 3, some ⟨b2, 0, none⟩, 2⟩, ⟨⟨8, 0, ⟨#[]⟩, [], [0, 1]⟩, none, 0, some ⟨b3, 0, none⟩, 2⟩, ⟨recG [5], some ⟨q3, 0, none⟩, 3, some ⟨b3 + 1, 0, none⟩, 1⟩, ⟨⟨9, 0, ⟨#[]⟩, [], [3]⟩, none, 0, some ⟨b4, 0, none⟩, 1⟩, ⟨recG [8], some ⟨q4, 0, none⟩, 3, some ⟨b4 + 1, 0, none⟩, 1⟩, ⟨recG [10], some ⟨q5, 0, none⟩, 3, some ⟨b5, 0, none⟩, 1⟩, ⟨recG [9, 0], some ⟨q6, 0, none⟩, 3, some ⟨b6, 0, none⟩, 2⟩] : List Row5).flatMap Row5.cells).toArray 33)
  have hb := below_alloc (Below.refl V6.heap.size V6) (.cells (([⟨⟨4, 0, ⟨#[]⟩, [], []⟩, none, 0, none, 0⟩, ⟨⟨2, 0, ⟨#[]⟩, [], []⟩, none, 0, none, 0⟩, ⟨⟨1, 0, ⟨#[]⟩, [], []⟩, none, 0, none, 0⟩, ⟨recG [0], some ⟨q1, 0, none⟩, 3, some ⟨b1, 0, none⟩, 1⟩, ⟨recG [0, 1], some ⟨q2, 0, none⟩, 3, some ⟨b2, 0, none⟩, 2⟩, ⟨⟨8, 0, ⟨#[]⟩, [], [0, 1]⟩, none, 0, some ⟨b3, 0, none⟩, 2⟩, ⟨recG [5], some ⟨q3, 0, none⟩, 3, some ⟨b3 + 1, 0, none⟩, 1⟩, ⟨⟨9, 0, ⟨#[]⟩, [], [3]⟩, none, 0, some ⟨b4, 0, none⟩, 1⟩, ⟨recG [8], some ⟨q4, 0, none⟩, 3, some ⟨b4 + 1, 0, none⟩, 1⟩, ⟨recG [10], some ⟨q5, 0, none⟩, 3, some ⟨b5, 0, none⟩, 1⟩, ⟨recG [9, 0], some ⟨q6, 0, none⟩, 3, some ⟨b6, 0, none⟩, 2⟩] : List Row5).flatMap Row5.cells).toArray 33)
  have hfin := C_graph ([⟨⟨4, 0, ⟨#[]⟩, [], []⟩, none, 0, none, 0⟩, ⟨⟨2, 0, ⟨#[]⟩, [], []⟩, none, 0, none, 0⟩, ⟨⟨1, 0, ⟨#[]⟩, [], []⟩, none, 0, none, 0⟩, ⟨recG [0], some ⟨q1, 0, none⟩, 3, some ⟨b1, 0, none⟩, 1⟩, ⟨recG [0, 1], some ⟨q2, 0, none⟩, 3, some ⟨b2, 0, none⟩, 2⟩, ⟨⟨8, 0, ⟨#[]⟩, [], [0, 1]⟩, none, 0, some ⟨b3, 0, none⟩, 2⟩, ⟨recG [5], some ⟨q3, 0, none⟩, 3, some ⟨b3 + 1, 0, none⟩, 1⟩, ⟨⟨9, 0, ⟨#[]⟩, [], [3]⟩, none, 0, some ⟨b4, 0, none⟩, 1⟩, ⟨recG [8], some ⟨q4, 0, none⟩, 3, some ⟨b4 + 1, 0, none⟩, 1⟩, ⟨recG [10], some ⟨q5, 0, none⟩, 3, some ⟨b5, 0, none⟩, 1⟩, ⟨recG [9, 0], some ⟨q6, 0, none⟩, 3, some ⟨b6, 0, none⟩, 2⟩] : List Row5) hblk (Nat.le_of_ble_eq_true rfl) (fun r hm => ⟨Kd.C_below (hr r hm).ks hb, (hr r hm).kc, Kd.C_below (hr r hm).ls hb, (hr r hm).lc⟩)
  exact ⟨some ⟨V6.heap.size, 0, none⟩, rfl, hfin, HB6.out.trans (hb.mono HB6.out.size)⟩
end Go.Proofs.YtgppcpghpeenhaaDoor.R1

/- Literal rows in memory; small. -/
import Derived.Test.YthkoockcfnbpiaaDoorProg
import Derived.Test.YthkoockcfnbpiaaDoorWWords
import Derived.Test.YthkoockcfnbpiaaDoorWLast
import Derived.Test.YthkoockcfnbpiaaDoorC1
namespace Go.Proofs.YthkoockcfnbpiaaDoor.W16
open Go.RowKit Go.Proofs.YthkoockcfnbpiaaDoorW.PrintWords Go.Proofs.YthkoockcfnbpiaaDoorW.PrintLast Go.Proofs.YthkoockcfnbpiaaDoorW.PrintMore Go.Proofs.YthkoockcfnbpiaaDoor L1 G1 G2 S3 C1
set_option linter.unusedVariables false
set_option linter.unusedSimpArgs false
theorem add_at (q j n : Nat) (h : n = j) : (⟨q, 0, none⟩ : Addr).add n = ⟨q, j, none⟩ := by
  subst h
  rcases n with _ | n
  · rfl
  · simp [Addr.add]
theorem flatL {α : Type} (sz : Nat) : ∀ (rows : List (α × List Value)) (j : Nat) (r : α × List Value), (∀ r ∈ rows, r.2.length = sz) → rows[j]? = some r → ∀ i u, r.2[i]? = some u → (rows.flatMap Prod.snd)[j * sz + i]? = some u
  | [], j, r, _, h, _, _, _ => by simp at h
  | x :: rest, 0, r, hl, h, i, u, hu => by
    simp at h
    subst h
    rw [List.flatMap_cons, Nat.zero_mul, Nat.zero_add, List.getElem?_append_left (List.getElem?_eq_some_iff.1 hu).1]
    exact hu
  | x :: rest, j + 1, r, hl, h, i, u, hu => by
    simp at h
    have h1 := hl x List.mem_cons_self
    rw [List.flatMap_cons, List.getElem?_append_right (by rw [h1, Nat.succ_mul]; omega)]
    rw [show (j + 1) * sz + i - x.2.length = j * sz + i by rw [h1, Nat.succ_mul]; omega]
    exact flatL sz rest j r (fun r hr => hl r (List.mem_cons_of_mem _ hr)) h i u hu
/-- A literal's block, row by row. -/
theorem C_lit {α : Type} (d : Kd α) {W : World} {q : Nat} {t : TypeId} (rows : List (α × List Value)) (h : W.heap[q]? = some (.cells (rows.flatMap Prod.snd).toArray t (0, 0))) (hn : rows.length ≤ 9223372036854775807) (hr : ∀ r ∈ rows, d.K W r.1 r.2 ∧ r.2.length = d.sz) :
    Kd.C d W (some ⟨q, 0, none⟩) rows.length (rows.map Prod.fst) := by
  refine ⟨by simp, hn, fun _ => ⟨_, rfl, fun j p hj => ?_⟩⟩
  rw [List.getElem?_map] at hj
  cases hrow : rows[j]? with
  | none => rw [hrow] at hj; cases hj
  | some r =>
    rw [hrow] at hj
    simp at hj
    subst hj
    have hK := hr r (List.mem_of_getElem? hrow)
    refine ⟨r.2, hK.2, hK.1, fun i u hu => ?_⟩
    rw [show (⟨q, 0, none⟩ : Addr).add (j * d.sz + i) = ⟨q, j * d.sz + i, none⟩ from add_at q _ _ rfl]
    rw [blk_cell h]
    have := flatL d.sz rows j r (fun r hr' => (hr r hr').2) hrow i u hu
    simpa using this
theorem C_none {α : Type} (d : Kd α) (w : World) : Kd.C d w none 0 [] := ⟨rfl, by omega, fun h => by omega⟩
theorem flat_one (xs : List Int) : (xs.map fun x => (x, [Value.int .i64 x])).flatMap Prod.snd = nums .i64 xs := by
  induction xs with
  | nil => rfl
  | cons x xs ih =>
    rw [List.map_cons, List.flatMap_cons, ih]
    rfl
theorem fst_one (xs : List Int) : (xs.map fun x => (x, [Value.int .i64 x])).map Prod.fst = xs := by
  induction xs with
  | nil => rfl
  | cons x xs ih =>
    rw [List.map_cons, List.map_cons, ih]
theorem C_ints {W : World} {q : Nat} {t : TypeId} (xs : List Int) (h : W.heap[q]? = some (.cells (nums .i64 xs).toArray t (0, 0))) (hn : xs.length ≤ 9223372036854775807) : Kd.C (Kd.int .i64) W (some ⟨q, 0, none⟩) xs.length xs := by
  have := C_lit (Kd.int .i64) (W := W) (q := q) (t := t) (xs.map fun x => (x, [.int .i64 x])) (by rw [flat_one]; exact h) (by simpa using hn) (fun r hr => by
      obtain ⟨x, _, rfl⟩ := List.mem_map.1 hr
      exact ⟨rfl, rfl⟩)
  rw [fst_one, List.length_map] at this
  exact this
/-- Blocks that are made one behind the other. -/
def allocs (w : World) : List Obj → World
  | [] => w
  | o :: r => allocs (w.alloc o) r
theorem allocs_below (B : Nat) : ∀ (os : List Obj) (w W : World), Below B w W → B ≤ W.heap.size → Below B w (allocs W os)
  | [], w, W, h, _ => h
  | o :: r, w, W, h, hB => allocs_below B r w (W.alloc o) (h.alloc hB o) (by rw [World.size_alloc]; omega)
theorem allocs_new (w : World) (os : List Obj) : Below w.heap.size w (allocs w os) := allocs_below _ os w w (Below.refl _ w) (Nat.le_refl _)
theorem allocs_keep : ∀ (os : List Obj) (w : World) (g : Nat) (o : Obj), w.heap[g]? = some o → (allocs w os).heap[g]? = some o
  | [], w, g, o, h => h
  | o' :: r, w, g, o, h => allocs_keep r (w.alloc o') g o (((below_alloc (Below.refl w.heap.size w) o').block g (blk_lt h)).trans h)
theorem allocs_get : ∀ (os : List Obj) (w : World) (i : Nat) (cs : Array Value) (t : TypeId), os[i]? = some (.cells cs t (0, 0)) → (allocs w os).heap[w.heap.size + i]? = some (.cells cs t (0, 0))
  | [], w, i, cs, t, h => by simp at h
  | o' :: r, w, 0, cs, t, h => by
    simp at h
    subst h
    exact allocs_keep r _ _ _ (heap_alloc_new w _)
  | o' :: r, w, i + 1, cs, t, h => by
    have := allocs_get r (w.alloc o') i cs t (by simpa using h)
    rw [World.size_alloc] at this
    rw [show w.heap.size + (i + 1) = w.heap.size + 1 + i by omega]
    exact this
def gnV (x : GN) (k l : Value) : GN × List Value := (x, [.int .i64 x.f0, .int .i64 x.f1, .string x.f2, k, l])
def sl1 (q n : Nat) : Value := .slice (some ⟨q, 0, none⟩) n n
def smallR (s : Nat) : List (GN × List Value) := [gnV ⟨4, 0, ⟨#[]⟩, [], []⟩ (.slice none 0 0) (.slice none 0 0), gnV ⟨2, 0, ⟨#[]⟩, [], []⟩ (.slice none 0 0) (.slice none 0 0), gnV ⟨8, 0, ⟨#[]⟩, [], [0, 1]⟩ (.slice none 0 0) (sl1 (s + 0) 2), gnV ⟨7, 0, ⟨#[]⟩, [kA], [0]⟩ (sl1 (s + 1) 1) (sl1 (s + 2) 1), gnV ⟨7, 0, ⟨#[]⟩, [kA], [2]⟩ (sl1 (s + 3) 1) (sl1 (s + 4) 1), gnV ⟨1, 0, ⟨#[]⟩, [], []⟩ (.slice none 0 0) (.slice none 0 0), gnV ⟨9, 0, ⟨#[]⟩, [], [3]⟩ (.slice none 0 0) (sl1 (s + 5) 1)]
def smallO (s : Nat) : List Obj := [.cells #[.int .i64 0, .int .i64 1] 3, .cells #[.string kA] 9, .cells #[.int .i64 0] 3, .cells #[.string kA] 9, .cells #[.int .i64 2] 3, .cells #[.int .i64 3] 3, .cells ((smallR s).flatMap Prod.snd).toArray 45]
theorem C_strA {W : World} {q : Nat} (h : W.heap[q]? = some (.cells #[.string kA] 9 (0, 0))) : Kd.C Kd.string W (some ⟨q, 0, none⟩) 1 [kA] :=
  C_lit Kd.string [(kA, [.string kA])] h (by decide) (fun r hr => by simp at hr; subst hr; exact ⟨rfl, rfl⟩)
theorem small_C (w : World) : Kd.C P.k45 (allocs w (smallO w.heap.size)) (some ⟨w.heap.size + 6, 0, none⟩) 7 smallG := by
  refine C_lit P.k45 (smallR w.heap.size) (allocs_get _ w 6 _ _ rfl) (Nat.le_of_ble_eq_true rfl) (fun r hr => ?_)
  unfold smallR at hr
  simp only [List.mem_cons, List.not_mem_nil, or_false] at hr
  rcases hr with rfl | rfl | rfl | rfl | rfl | rfl | rfl
  · exact ⟨P.k45_mk _ _ (Nat.le_refl 0) (C_none _ _) (Nat.le_refl 0) (C_none _ _), rfl⟩
  · exact ⟨P.k45_mk _ _ (Nat.le_refl 0) (C_none _ _) (Nat.le_refl 0) (C_none _ _), rfl⟩
  · exact ⟨P.k45_mk _ _ (Nat.le_refl 0) (C_none _ _) (Nat.le_refl 2) (C_ints [0, 1] (allocs_get _ w 0 _ _ rfl) (by decide)), rfl⟩
  · exact ⟨P.k45_mk _ _ (Nat.le_refl 1) (C_strA (allocs_get _ w 1 _ _ rfl)) (Nat.le_refl 1) (C_ints [0] (allocs_get _ w 2 _ _ rfl) (by decide)), rfl⟩
  · exact ⟨P.k45_mk _ _ (Nat.le_refl 1) (C_strA (allocs_get _ w 3 _ _ rfl)) (Nat.le_refl 1) (C_ints [2] (allocs_get _ w 4 _ _ rfl) (by decide)), rfl⟩
  · exact ⟨P.k45_mk _ _ (Nat.le_refl 0) (C_none _ _) (Nat.le_refl 0) (C_none _ _), rfl⟩
  · exact ⟨P.k45_mk _ _ (Nat.le_refl 0) (C_none _ _) (Nat.le_refl 1) (C_ints [3] (allocs_get _ w 5 _ _ rfl) (by decide)), rfl⟩
set_option maxHeartbeats 8000000 in
set_option maxRecDepth 100000 in
theorem small_yes (w : World) : Calls Tryd.prog 27 #[] w fun e w' => ∃ A, e = .returned (.slice A 7 7) ∧ Kd.C P.k45 w' A 7 smallG ∧ Below w.heap.size w w' := by
  go_enter Tryd.func27, Tryd.ntmps27
  go_wp2_with (fail)
  go_ret
  exact ⟨some ⟨w.heap.size + 6, 0, none⟩, rfl, small_C w, allocs_new w (smallO w.heap.size)⟩
end Go.Proofs.YthkoockcfnbpiaaDoor.W16

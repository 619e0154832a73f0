/- Facts are found: the list of facts in memory, ahead of the walk. -/
import Derived.Test.YthkoockcfnbpiaaDoorProg
import Derived.Test.YthkoockcfnbpiaaDoorWWords
import Derived.Test.YthkoockcfnbpiaaDoorWLast
import Derived.Test.YthkoockcfnbpiaaDoorW10
import Derived.Test.YthkoockcfnbpiaaDoorM2
import Derived.Test.YthkoockcfnbpiaaDoorC1
namespace Go.Proofs.YthkoockcfnbpiaaDoor.W11
open Go.RowKit Go.Proofs.YthkoockcfnbpiaaDoorW.PrintWords Go.Proofs.YthkoockcfnbpiaaDoorW.PrintLast Go.Proofs.YthkoockcfnbpiaaDoorW.PrintMore Go.Proofs.YthkoockcfnbpiaaDoor L1 L4 G1 G2 S1 S2 S3 S4 S5 S8 F1 S10 S11 F2 F3 W1 W2 W3 W4 W5 W6 W7 W8 W9 W10
set_option linter.unusedVariables false
set_option linter.unusedSimpArgs false
/-- Facts of which some are not all there yet: of these what they go on to is left open. -/
def kO : Kd FC where
  sz := 3
  E := P.k37.E
  K := fun w x cs => (x.f2 ≠ [] ∧ P.k37.K w x cs) ∨ (x.f2 = [] ∧ ∃ A n c, cs = [.int .i64 x.f0, .int .i64 x.f1, .slice A n c])
  M := fun w base ok x cs => (x.f2 ≠ [] ∧ P.k37.M w base ok x cs) ∨ (x.f2 = [] ∧ ∃ A n c, cs = [.int .i64 x.f0, .int .i64 x.f1, .slice A n c])
  K_len := by
    rintro w x cs (⟨_, h⟩ | ⟨_, A, n, c, rfl⟩)
    · exact P.k37.K_len h
    · rfl
  K_one := by
    rintro w x cs (⟨_, h⟩ | ⟨_, A, n, c, rfl⟩) u hu
    · exact P.k37.K_one h u hu
    · simp at hu
      rcases hu with rfl | rfl | rfl <;> rfl
  K_below := by
    rintro w w1 x cs hb (⟨h0, h⟩ | h)
    · exact .inl ⟨h0, P.k37.K_below hb h⟩
    · exact .inr h
  K_of_M := by
    rintro w base ok x cs (⟨h0, h⟩ | h)
    · exact .inl ⟨h0, P.k37.K_of_M h⟩
    · exact .inr h
  M_mono := by
    rintro w base ok ok' x cs hok (⟨h0, h⟩ | h)
    · exact .inl ⟨h0, P.k37.M_mono hok h⟩
    · exact .inr h
  M_bound := by
    rintro w base ok x cs (⟨h0, h⟩ | h)
    · exact .inl ⟨h0, P.k37.M_bound h⟩
    · exact .inr h
  M_move := by
    rintro w w1 base ok x cs hm (⟨h0, h⟩ | h)
    · exact .inl ⟨h0, P.k37.M_move hm h⟩
    · exact .inr h
  M_lower := by
    rintro w base base' ok x cs hb (⟨h0, h⟩ | h)
    · exact .inl ⟨h0, P.k37.M_lower hb h⟩
    · exact .inr h
/-- When all are all there. -/
theorem R_close {w : World} {e base : Nat} {ok : Nat → Prop} {v : Value} {l : List FC} (h : Kd.R kO e w base ok v l) (hl : ∀ f ∈ l, f.f2 ≠ []) : Kd.R P.k37 e w base ok v l := by
  obtain ⟨h0, inner, hown, hlen, hr⟩ := h
  refine ⟨h0, inner, hown, hlen, fun j p hj => ?_⟩
  rcases hr j p hj with ⟨_, h⟩ | ⟨h, _⟩
  · exact h
  · exact absurd h (hl p (by obtain ⟨hj2, rfl⟩ := List.getElem?_eq_some_iff.1 hj; exact List.getElem_mem hj2))
/-- Which number a pair has. -/
def fm (l : List FC) : M1.F2 := fun a b => idxP ((a : Int), (b : Int)) l
theorem idxP_pairs (q : Int × Int) (l : List FC) : idxP q l = (l.map fun f => (f.f0, f.f1)).findIdx? (fun x => decide (x = q)) := by
  unfold idxP
  rw [List.findIdx?_map]
  congr 1
  funext f
  rw [Bool.eq_iff_iff, isP_iff]
  simp
theorem fm_pairs {l l' : List FC} (h : (l.map fun f => (f.f0, f.f1)) = l'.map fun f => (f.f0, f.f1)) : fm l = fm l' := by
  funext a b
  unfold fm
  rw [idxP_pairs, idxP_pairs, h]
theorem fm_open {l : List FC} {a b : Nat} (h : idxP ((a : Int), (b : Int)) l = none) : fm (l ++ [openF ((a : Int), (b : Int))]) = (fm l).put a b l.length := by
  funext x y
  unfold fm M1.F2.put
  unfold idxP at h ⊢
  rw [List.findIdx?_append]
  by_cases hxy : x = a ∧ y = b
  · obtain ⟨rfl, rfl⟩ := hxy
    rw [if_pos ⟨rfl, rfl⟩, h]
    simp [isP, openF]
  · rw [if_neg hxy]
    have : ([openF ((a : Int), (b : Int))] : List FC).findIdx? (isP ((x : Int), (y : Int))) = none := by
      rw [List.findIdx?_eq_none_iff]
      intro f hf
      simp at hf
      subst hf
      unfold isP openF
      simp
      intro e1 e2
      exact hxy ⟨by omega, by omega⟩
    rw [this]
    simp
/-- The finder in memory. -/
structure FdS (w0 W : World) (xb m : Nat) (A0 : Option Addr) (c0 : Nat) (g : List GN) (v1 : Value) (l : List FC) (f : M1.F2) (ok : Nat → Prop) : Prop where
  old : Below w0.heap.size w0 W
  hx : w0.heap.size ≤ xb
  hm : w0.heap.size ≤ m
  ne : xb ≠ m
  blk : W.heap[xb]? = some (.cells #[.slice A0 g.length c0, v1, .map (some m)] 68 (0, 0))
  mp : M1.Mp W m g.length f
  row : Kd.R kO 37 W w0.heap.size ok v1 l
  gr : Kd.C P.k45 w0 A0 g.length g
  gc : g.length ≤ c0
theorem FdS.kept {w0 W W' : World} {xb m : Nat} {A0 : Option Addr} {c0 : Nat} {g : List GN} {v1 : Value} {l : List FC} {f : M1.F2} {ok : Nat → Prop} {row : Option Nat} (h : FdS w0 W xb m A0 c0 g v1 l f ok) (hg : W.grownBy W' row) (h1 : some xb ≠ row) (h2 : some m ≠ row) (h3 : ∀ k, ok k → some k ≠ row) (h4 : ∀ k, row = some k → w0.heap.size ≤ k) : FdS w0 W' xb m A0 c0 g v1 l f ok :=
  ⟨h.old.grown hg h.old.size h4, h.hx, h.hm, h.ne, blk_grown h.blk hg h1, h.mp.kept hg h2, Kd.R_grown h.row hg h3, h.gr, h.gc⟩
theorem FdS.below {w0 W W' : World} {xb m : Nat} {A0 : Option Addr} {c0 : Nat} {g : List GN} {v1 : Value} {l : List FC} {f : M1.F2} {ok : Nat → Prop} (h : FdS w0 W xb m A0 c0 g v1 l f ok) (hb : Below W.heap.size W W') : FdS w0 W' xb m A0 c0 g v1 l f ok :=
  h.kept (row := none) (S5.grown_of_below hb none) (by simp) (by simp) (fun _ _ => by simp) (fun _ h => by cases h)
theorem FdS.alloc {w0 W : World} {xb m : Nat} {A0 : Option Addr} {c0 : Nat} {g : List GN} {v1 : Value} {l : List FC} {f : M1.F2} {ok : Nat → Prop} (h : FdS w0 W xb m A0 c0 g v1 l f ok) (o : Obj) : FdS w0 (W.alloc o) xb m A0 c0 g v1 l f ok := h.below (below_alloc (Below.refl _ _) o)
theorem FdS.drew {w0 W : World} {xb m : Nat} {A0 : Option Addr} {c0 : Nat} {g : List GN} {v1 : Value} {l : List FC} {f : M1.F2} {ok : Nat → Prop} (h : FdS w0 W xb m A0 c0 g v1 l f ok) : FdS w0 W.drew xb m A0 c0 g v1 l f ok := h.below (below_drew (Below.refl _ _))
theorem FdS.mono {w0 W : World} {xb m : Nat} {A0 : Option Addr} {c0 : Nat} {g : List GN} {v1 : Value} {l : List FC} {f : M1.F2} {ok ok' : Nat → Prop} (h : FdS w0 W xb m A0 c0 g v1 l f ok) (hk : ∀ k, ok k → k < W.heap.size → ok' k) : FdS w0 W xb m A0 c0 g v1 l f ok' :=
  ⟨h.old, h.hx, h.hm, h.ne, h.blk, h.mp, Kd.R_mono (Kd.R_bound h.row) (fun k hk' => hk k hk'.1 hk'.2.2.1), h.gr, h.gc⟩
/-- What else a search leaves as it was. -/
structure Kp (W W' : World) (xb m : Nat) (v1 v1' : Value) : Prop where
  size : W.heap.size ≤ W'.heap.size
  block : ∀ k, k < W.heap.size → k ≠ xb → k ≠ m → some k ≠ v1.ownBlock → W'.heap[k]? = W.heap[k]?
  row : v1'.ownBlock = v1.ownBlock ∨ ∃ b, v1'.ownBlock = some b ∧ W.heap.size ≤ b
theorem Kp.trans {W W1 W2 : World} {xb m : Nat} {v1 v2 v3 : Value} (h : Kp W W1 xb m v1 v2) (h' : Kp W1 W2 xb m v2 v3) : Kp W W2 xb m v1 v3 := by
  refine ⟨Nat.le_trans h.size h'.size, fun k hk h1 h2 h3 => ?_, ?_⟩
  · rw [h'.block k (by have := h.size; omega) h1 h2 ?_, h.block k hk h1 h2 h3]
    rcases h.row with e | ⟨b, e, hb⟩
    · rw [e]; exact h3
    · rw [e]; intro e'; cases e'; omega
  · rcases h'.row with e | ⟨b, e, hb⟩
    · rw [e]; exact h.row
    · exact .inr ⟨b, e, by have := h.size; omega⟩
theorem Kp.below {W W' : World} {xb m : Nat} {v1 : Value} (h : Below W.heap.size W W') : Kp W W' xb m v1 v1 := ⟨h.size, fun k hk _ _ _ => h.block k hk, .inl rfl⟩
theorem Kp.grown {W W' : World} {xb m : Nat} {v1 : Value} {row : Option Nat} (h : W.grownBy W' row) (hr : ∀ k, row = some k → k = xb ∨ k = m ∨ W.heap.size ≤ k) : Kp W W' xb m v1 v1 :=
  ⟨h.size, fun k hk h1 h2 _ => h.block k hk (fun e => by rcases hr k e.symm with h' | h' | h' <;> omega), .inl rfl⟩
theorem store_same (w : World) (p : Addr) (v : Value) : (w.setCell p v).os = w.os ∧ (w.setCell p v).tape = w.tape ∧ (w.setCell p v).output = w.output ∧ (w.setCell p v).heap.size = w.heap.size := by
  have hb := Below.setCell (B := 0) (Below.refl 0 w) (Nat.zero_le p.block) v
  exact ⟨hb.os, hb.tape, hb.output, Nat.le_antisymm (by simp) hb.size⟩
theorem Kp.after {W X Y : World} {xb m : Nat} {v1 v2 : Value} {row : Option Nat} (h : Kp W X xb m v1 v2) (hg : X.grownBy Y row) (hr : ∀ k, row = some k → W.heap.size ≤ k) : Kp W Y xb m v1 v2 :=
  ⟨Nat.le_trans h.size hg.size, fun k hk h1 h2 h3 => (hg.block k (Nat.lt_of_lt_of_le hk h.size) (fun e => by have := hr k e.symm; omega)).trans (h.block k hk h1 h2 h3), h.row⟩
theorem ps_len {g : List GN} (hc : checkP g = 0) {p : Int × Int} (hp : Pr g p) : (byP g (mk0 (pickN g) g p)).1.length ≤ 1000000000 := by
  obtain ⟨s1, s2, s3⟩ := step_ok hc hp
  obtain ⟨h1, h2, h3⟩ := s3 (List.replicate (byP g (mk0 (pickN g) g p)).1.length 0)
  have h := h3 1 (by simp) (by rw [List.all_eq_true]; intro x hx; rw [(List.mem_replicate.1 hx).2]; rfl)
  obtain ⟨a', ea, ha, hB, hfok, hon, hwl⟩ := frm_ok hc h
  dsimp only at hwl
  rw [List.length_append, List.length_replicate] at hwl
  omega
theorem grown_set (w : World) (p : Addr) (v : Value) : w.grownBy (w.setCell p v) (some p.block) := by
  have h := store_same w p v
  exact ⟨h.1, h.2.1, h.2.2.1, by rw [h.2.2.2]; exact Nat.le_refl _, fun k _ hne => Below.heap_setCell w p v k (fun e => hne (by rw [e]))⟩
/-- Rows of unlike types lie apart. -/
theorem R_apart {α β : Type} {d : Kd α} {d2 : Kd β} {e e2 : Nat} {w : World} {base base2 : Nat} {ok ok2 : Nat → Prop} {v v2 : Value} {xs : List α} {ys : List β} (h : d.R e w base ok v xs) (h2 : d2.R e2 w base2 ok2 v2 ys) (ht : ∀ q, q ∈ e :: d.E → q ≠ e2) : d.R e w base (fun k => ok k ∧ some k ≠ v2.ownBlock) v xs := by
  obtain ⟨inner, _, ho⟩ := Kd.R_own h2
  rcases ho with ⟨rfl, _⟩ | ⟨g, cap, cur, rfl, _, hb, _⟩
  · exact Kd.R_mono h (fun k hk => ⟨hk, by simp [Value.ownBlock]⟩)
  · exact Kd.R_mono (Kd.R_types h hb ht) (fun k hk => ⟨hk.1, fun e => hk.2 (by simp [Value.ownBlock] at e; exact e)⟩)
theorem storeO3 {w : World} {g t o : Nat} {cur : Array Value} (h : w.heap[g]? = some (.cells cur t (0, 0))) (hf : o + 3 ≤ cur.size) (v0 v1 : Value) :
    ∃ c0 c1 c2, w.cell? ⟨g, o, none⟩ = some c0 ∧ w.frozen? ⟨g, o, none⟩ = false ∧ (w.setCell ⟨g, o, none⟩ v0).cell? ⟨g, o + 1, none⟩ = some c1 ∧ (w.setCell ⟨g, o, none⟩ v0).frozen? ⟨g, o + 1, none⟩ = false ∧
      ((w.setCell ⟨g, o, none⟩ v0).setCell ⟨g, o + 1, none⟩ v1).cell? ⟨g, o + 2, none⟩ = some c2 ∧ ((w.setCell ⟨g, o, none⟩ v0).setCell ⟨g, o + 1, none⟩ v1).frozen? ⟨g, o + 2, none⟩ = false := by
  have h1 := blk_set h o v0
  have h2 := blk_set h1 (o + 1) v1
  refine ⟨cur[o]'(by omega), (cur.setIfInBounds o v0)[o + 1]'(by simp; omega), ((cur.setIfInBounds o v0).setIfInBounds (o + 1) v1)[o + 2]'(by simp; omega), ?_, blk_frozen h _, ?_, blk_frozen h1 _, ?_, blk_frozen h2 _⟩
  · rw [blk_cell h, Array.getElem?_eq_getElem]
  · rw [blk_cell h1, Array.getElem?_eq_getElem]
  · rw [blk_cell h2, Array.getElem?_eq_getElem]
theorem fok_mk0 {g : List GN} (hc : checkP g = 0) {a b : Nat} (hp : Pr g ((a : Int), (b : Int))) : Fok g a b (mk0 (pickN g) g ((a : Int), (b : Int))).f2 := by
  obtain ⟨s1, s2, s3⟩ := step_ok hc hp
  obtain ⟨h1, h2, h3⟩ := s3 (List.replicate (byP g (mk0 (pickN g) g ((a : Int), (b : Int)))).1.length 0)
  have h := h3 1 (by simp) (by rw [List.all_eq_true]; intro x hx; rw [(List.mem_replicate.1 hx).2]; rfl)
  obtain ⟨a', ea, ha, hB, hfok, hon, hwl⟩ := frm_ok hc h
  have : a = a' := by dsimp only at ea; omega
  subst this
  dsimp only at hfok
  by_cases h8 : (nd g a).f0 = 8
  · exact .inl h8
  · have hf2 : (mk0 (pickN g) g ((a : Int), (b : Int))).f2 = [pickN g a b] := if_neg h8
    rw [hf2] at hfok ⊢
    rcases hfok with h | ⟨h, _, h'⟩ | ⟨k, m, _, h, h'⟩
    · exact absurd h h8
    · exact .inr (.inl ⟨h, by simp, h'⟩)
    · exact .inr (.inr ⟨k, m, by simp, h, h'⟩)
theorem union_two {g : List GN} (hc : checkP g = 0) {a : Nat} (ha : a < g.length) (h8 : (nd g a).f0 = 8) : 2 ≤ (nd g a).f4.length := by
  have hall : g.all (mayP g) = true := by
    unfold checkP at hc
    split at hc
    · cases hc
    · split at hc
      · assumption
      · cases hc
  have hm := List.all_eq_true.1 hall _ (nd_mem (g := g) (k := (a : Int)) (by omega) (by omega))
  unfold mayP at hm
  simp only [Bool.and_eq_true] at hm
  have hk := hm.2
  unfold byKind at hk
  rw [if_neg (by omega), if_neg (by omega), if_neg (by omega), if_pos h8] at hk
  simp only [Bool.and_eq_true, decide_eq_true_eq] at hk
  exact hk.1.2
end Go.Proofs.YthkoockcfnbpiaaDoor.W11

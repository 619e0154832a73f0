/- slices.SortStableFunc, whatever the row is: none at all, or nineteen at most. -/
/- The forms are all there: the closure compares by them; what is left of a round. -/
import Derived.Test.YtgppcpghpeenhaaDoorProg
import Derived.Test.YtgppcpghpeenhaaDoorWWords
import Derived.Test.YtgppcpghpeenhaaDoorWLast
import Derived.Test.YtgppcpghpeenhaaDoorCM
import Derived.Test.YtgppcpghpeenhaaDoorCL
namespace Go.Proofs.YtgppcpghpeenhaaDoor.CO
open Go.RowKit Go.Proofs.YtgppcpghpeenhaaDoorW.PrintWords Go.Proofs.YtgppcpghpeenhaaDoorW.PrintLast Go.Proofs.YtgppcpghpeenhaaDoorW.PrintMore Go.Proofs.YtgppcpghpeenhaaDoor L1 G1 G2 N1 N2 N3 N4 N5 CA CB CC CD CE CF CG CH
set_option linter.unusedVariables false
set_option linter.unusedSimpArgs false
set_option maxHeartbeats 4000000 in
set_option maxRecDepth 100000 in
theorem ins0_calls (pv : Value) (b : Int) (w : World) (h0 : 0 ≤ b) (h1 : b ≤ 1000) :
    Calls Tryd.prog 62 #[.slice none 0 0, .int .i64 0, .int .i64 0, .func (.func 30) #[] #[pv]] w fun e w' => e = .returned (.tuple #[]) ∧ w' = w := by
  go_enter Tryd.func62, Tryd.ntmps62
  go_wp2_with (fail)
  go_loopw [8, 9] (fun v8 v9 wr => v8 = .int .i64 1 ∧ wr = w) (fun _ _ _ => 0)
  case atStart => exact ⟨rfl, rfl⟩
  case round =>
    obtain ⟨rfl, rfl⟩ := hrel
    go_wp2_with (fail)
    first | go_end0 | ((try simp only [Exit.inBlock, Exit.then]); refine bodyPost_ret (results_none rfl _ _ _) rfl ?_)
    exact ⟨rfl, rfl⟩
set_option maxHeartbeats 4000000 in
set_option maxRecDepth 100000 in
theorem stable0_calls (pv : Value) (w : World) :
    Calls Tryd.prog 48 #[.slice none 0 0, .int .i64 0, .func (.func 30) #[] #[pv]] w fun e w' => e = .returned (.tuple #[]) ∧ w' = w := by
  go_enter Tryd.func48, Tryd.ntmps48
  go_wp2_with (fail)
  go_loopw [7, 8] (fun v7 v8 wr => v7 = .int .i64 0 ∧ v8 = .int .i64 20 ∧ wr = w) (fun _ _ _ => 0)
  case atStart => exact ⟨rfl, rfl, rfl⟩
  case round =>
    obtain ⟨rfl, rfl, rfl⟩ := hrel
    go_wp2_with (fail)
    refine (ins0_calls pv 0 _ (by omega) (by omega)).mono ?_
    rintro e w2 ⟨rfl, rfl⟩
    go_wp2_with (fail)
    go_loopw [6, 7, 8, 9] (fun v6 v7 v8 v9 wr => v6 = .int .i64 20 ∧ wr = w2) (fun _ _ _ _ _ => 0)
    case atStart => exact ⟨rfl, rfl⟩
    case round =>
      obtain ⟨rfl, rfl⟩ := hrel
      go_wp2_with (fail)
      first | go_end0 | ((try simp only [Exit.inBlock, Exit.then]); refine bodyPost_ret (results_none rfl _ _ _) rfl ?_)
      exact ⟨rfl, rfl⟩
set_option maxHeartbeats 4000000 in
set_option maxRecDepth 100000 in
theorem sort0_calls (pv : Value) (w : World) :
    Calls Tryd.prog 29 #[.slice none 0 0, .func (.func 30) #[] #[pv]] w fun e w' => e = .returned (.tuple #[]) ∧ w' = w := by
  go_enter Tryd.func29, Tryd.ntmps29
  go_wp2_with (fail)
  refine (stable0_calls pv _).mono ?_
  rintro e w2 ⟨rfl, rfl⟩
  go_wp2_with (fail)
  first | go_end0 | ((try simp only [Exit.inBlock, Exit.then]); refine bodyPost_ret (results_none rfl _ _ _) rfl ?_)
  exact ⟨rfl, rfl⟩
/-- What sorting answers. -/
def SortP (c : Int → Int → Int) (ok : Nat → Prop) (v : Value) (l : List Int) (w0 w : World) (e : Ending) (w' : World) : Prop :=
  e = .returned (.tuple #[]) ∧ ∃ ys, ys.Perm l ∧ UpTo c ys ys.length ∧ Kd.R (Kd.int .i64) 3 w' w0.heap.size ok v ys ∧ Below w0.heap.size w0 w' ∧ Kept w w' (fun k => v.ownBlock = some k)
/-- What a closure that compares answers. -/
def CmpV (c : Int → Int → Int) (pv v : Value) (l : List Int) (w0 w : World) : Prop :=
  ∀ W, Kept w W (fun k => v.ownBlock = some k) → Below w0.heap.size w0 W → ∀ a ∈ l, ∀ b ∈ l, Calls Tryd.prog 30 #[.int .i64 a, .int .i64 b, pv] W fun e W' => e = .returned (.int .i64 (c a b)) ∧ Below W.heap.size W W'
theorem sorts_calls {c : Int → Int → Int} (hc : PO c) {ok : Nat → Prop} {A : Option Addr} {n cap : Nat} {l : List Int} {pv : Value} {w0 w : World} (hB : Below w0.heap.size w0 w) (ho : Kd.R (Kd.int .i64) 3 w w0.heap.size ok (.slice A n cap) l) (hC : CmpV c pv (.slice A n cap) l w0 w) (h19 : l.length ≤ 19) :
    Calls Tryd.prog 29 #[.slice A n cap, .func (.func 30) #[] #[pv]] w (SortP c ok (.slice A n cap) l w0 w) := by
  obtain rfl : n = l.length := (Kd.R_reads' ho).1
  cases A with
  | none =>
    obtain ⟨inner, hw⟩ := Kd.R_own ho
    rcases hw.2 with ⟨hv, hn⟩ | ⟨g, cap', cur, hv, _⟩
    · obtain rfl := List.length_eq_zero_iff.1 hn
      injection hv with _ _ hcap
      subst hcap
      refine (sort0_calls pv w).mono ?_
      rintro e w' ⟨rfl, rfl⟩
      exact ⟨rfl, [], List.Perm.refl _, fun p q _ hq => absurd hq (by simp), ho, hB, Kept.refl _ _⟩
    · cases hv
  | some a =>
    obtain ⟨g, rfl⟩ := Kd.R_head ho
    have hkk : ∀ k, (Value.slice (some ⟨g, 0, none⟩) l.length cap).ownBlock = some k ↔ k = g := fun k => by
      simp only [Value.ownBlock, Option.some.injEq]
      exact eq_comm
    refine (sortst_calls hc (Nat.le_trans h19 (by omega)) hB ho (fun W hk hb => hC W (hk.mono (fun k h => (hkk k).2 h)) hb) h19).mono ?_
    rintro e w' ⟨rfl, ys, hp, hu, hr, hb, hk⟩
    exact ⟨rfl, ys, hp, by rw [hp.length_eq]; exact hu, hr, hb, hk.mono (fun k h => (hkk k).2 h)⟩
end Go.Proofs.YtgppcpghpeenhaaDoor.CO
namespace Go.Proofs.YtgppcpghpeenhaaDoor.CP
open Go.RowKit Go.Proofs.YtgppcpghpeenhaaDoorW.PrintWords Go.Proofs.YtgppcpghpeenhaaDoorW.PrintLast Go.Proofs.YtgppcpghpeenhaaDoorW.PrintMore Go.Proofs.YtgppcpghpeenhaaDoor L1 L4 G1 G2 S3 S4 S5 S9 S11 N1 N2 N3 N4 N5 N6 N7 CE CF CH CI CM CO
set_option linter.unusedVariables false
set_option linter.unusedSimpArgs false
theorem keys_small {g : List GN} (hc : checkP g = 0) {a : Int} (ha : Pl g a) : (nd g a).f3.length ≤ 1000000000 := by
  have ho := (check_ok hc).2 _ (nd_mem ha.lo ha.hi)
  by_cases h7 : (nd g a).f0 = 7
  · have := (ho.recd h7).2
    omega
  · rw [ho.keys h7]
    simp
theorem part_ok {g : List GN} (hc : checkP g = 0) {r : Int → Int} {a : Int} (ha : Pl g a) {f : Fm} (h : FmPart g r a (nd g a).f4.length f) : FmOk f :=
  ⟨by rw [h.node]; exact keys_small hc ha, by rw [h.len]; exact members_small hc _ (nd_mem ha.lo ha.hi), h.small⟩
theorem Fill.full {w0 X W : World} {gF cf n base : Nat} {g : List GN} {r : Int → Int} {pl : List Int} (h : Fill w0 X W gF cf n base g r pl pl.length) (hp : pl.Perm (plainTo g g.length)) :
    ∃ fs : List Fm, fs.length = n ∧ (kF w0).N 69 W base (fun k => k = gF ∨ X.heap.size ≤ k) (.slice (some ⟨gF, 0, none⟩) n cf) fs ∧ ∀ a, Pl g a → FmPart g r a (nd g a).f4.length (fs.getD a.toNat zFm) := by
  obtain ⟨fs, hl, hN, hf⟩ := h.row
  refine ⟨fs, hl, hN, fun a ha => ?_⟩
  obtain ⟨j, hj, e⟩ := List.getElem_of_mem (hp.mem_iff.2 ((plain_iff g a).1 ha))
  have := hf j hj
  rw [List.getD_eq_getElem?_getD, List.getElem?_eq_getElem hj, Option.getD_some, e] at this
  exact this
theorem cmpV_of {w X U : World} {base gF cf fb : Nat} {g : List GN} {r : Int → Int} {fs : List Fm} {pl : List Int} {v : Value} (hc : checkP g = 0) (hfl : fs.length = g.length) (hN : (kF w).N 69 U base (fun k => k = gF ∨ X.heap.size ≤ k) (.slice (some ⟨gF, 0, none⟩) g.length cf) fs)
    (hfp : ∀ a, Pl g a → FmPart g r a (nd g a).f4.length (fs.getD a.toNat zFm)) (hz : U.cell? ⟨fb, 0, none⟩ = some (.slice (some ⟨gF, 0, none⟩) g.length cf)) (hpl : ∀ a ∈ pl, Pl g a) (hv : ∀ k, v.ownBlock = some k → k ≠ gF ∧ k ≠ fb ∧ k < X.heap.size) :
    CmpV (fun a b => cmpF (fs.getD a.toNat zFm) (fs.getD b.toNat zFm)) (.pointer (some ⟨fb, 0, none⟩)) v pl w U := by
  intro W hk hb a ha b hb'
  have hpa := hpl a ha
  have hpb := hpl b hb'
  have h1 := hfp a hpa
  have h2 := hfp b hpb
  obtain ⟨an, rfl⟩ := Int.eq_ofNat_of_zero_le hpa.lo
  obtain ⟨bn, rfl⟩ := Int.eq_ofNat_of_zero_le hpb.lo
  have hai := hpa.hi
  have hbi := hpb.hi
  have hC := (Kd.N_reads' (Kd.N_kept hN hk (fun k ho hs => by
    obtain ⟨h3, h4, h5⟩ := hv k hs
    rcases ho with h | h
    · exact h3 h
    · omega))).2.2
  refine rank1_calls fb (some ⟨gF, 0, none⟩) cf fs an bn w W ?_ hC hb (by omega) (by omega) (part_ok hc hpa h1) (part_ok hc hpb h2)
  rw [hfl]
  exact cell_kept hz hk (fun hs => (hv fb hs).2.1 rfl)
theorem lv_last (c : Int → Int → Int) (pl : List Int) (i : Nat) (hi : 0 < i) : lv c pl i = lv c pl (i - 1) + if c (pl.getD (i - 1) 0) (pl.getD i 0) = 0 then 0 else 1 := by
  obtain ⟨k, rfl⟩ : ∃ k, i = k + 1 := ⟨i - 1, by omega⟩
  rw [Nat.add_sub_cancel]
  rfl
theorem int_slot {W : World} {base gN n cap : Nat} {ok : Nat → Prop} {xs : List Int} (h : Kd.R (Kd.int .i64) 3 W base ok (.slice (some ⟨gN, 0, none⟩) n cap) xs) {i : Nat} (hi : i < n) : W.cell? ⟨gN, i, none⟩ = some (.int .i64 (xs.getD i 0)) ∧ W.frozen? ⟨gN, i, none⟩ = false := by
  obtain ⟨c, hcl, hM, hcc, hfr⟩ := Kd.R_elem h 0 (i : Int) (Int.natCast_nonneg _) (Int.ofNat_lt.2 hi)
  have hM' : c = [.int .i64 (xs.getD ((i : Int)).toNat 0)] := hM
  subst hM'
  have h1 := hcc 0 _ rfl
  have h2 := hfr 0
  rw [Int.toNat_natCast] at h1 h2
  have e : i * (Kd.int .i64).sz + 0 = i := by
    show i * 1 + 0 = i
    omega
  rw [e] at h1 h2
  exact ⟨h1, h2⟩
/-- A store into a row of numbers. -/
theorem int_put {W W2 : World} {gN n cap : Nat} {ok : Nat → Prop} {xs : List Int} (h : Kd.R (Kd.int .i64) 3 W W2.heap.size ok (.slice (some ⟨gN, 0, none⟩) n cap) xs) (hb : Below W2.heap.size W2 W) (i : Nat) (q : Int) : Kd.R (Kd.int .i64) 3 (W.setCell ⟨gN, i, none⟩ (.int .i64 q)) W2.heap.size ok (.slice (some ⟨gN, 0, none⟩) n cap) (xs.set i q) ∧ Below W2.heap.size W2 (W.setCell ⟨gN, i, none⟩ (.int .i64 q)) := by
  have h1 := Kd.R_putn h (i : Int) q
  rw [Int.toNat_natCast] at h1
  exact ⟨h1, hb.setCell (p := ⟨gN, i, none⟩) (Kd.R_base h gN rfl) _⟩
theorem wr0 {q n : Nat} (h : q < n) (hn : n ≤ 1000000000) : wrap64 (q : Int) = (q : Int) := by unfold wrap64; omega
/-- What the next ranks are, as far as they have been told. -/
structure ToldP (c : Int → Int → Int) (ys ns : List Int) (n i : Nat) : Prop where
  len : ns.length = n
  at_ : ∀ j, j < i → rd ns (ys.getD j 0) = (lv c ys j : Int)
theorem ToldP.start (c : Int → Int → Int) (ys : List Int) (n : Nat) (l : List Int) (h : l.length = n) : ToldP c ys l n 0 := ⟨h, fun j hj => absurd hj (by omega)⟩
theorem ToldP.step {c : Int → Int → Int} {g : List GN} {ys ns : List Int} {i : Nat} (h : ToldP c ys ns g.length i) (hp : ys.Perm (plainTo g g.length)) (hi : i < ys.length) {bn : Nat} (hb : ys.getD i 0 = (bn : Int)) {q : Int} (hq : q = (lv c ys i : Int)) : ToldP c ys (ns.set bn q) g.length (i + 1) := by
  have hbn : (bn : Int) < g.length := by
    rw [← hb]
    exact ((plain_iff g _).2 (hp.mem_iff.1 (getD_mem hi 0))).hi
  refine ⟨by rw [List.length_set]; exact h.len, fun j hj => ?_⟩
  unfold rd
  rcases Nat.lt_or_ge j i with hji | hji
  · have := h.at_ j hji
    unfold rd at this
    rw [List.getD_eq_getElem?_getD, List.getElem?_set_ne (fun e => apart_of hp hji hi hb e.symm), ← List.getD_eq_getElem?_getD]
    exact this
  · obtain rfl : j = i := by omega
    rw [hb, Int.toNat_natCast, List.getD_eq_getElem?_getD, List.getElem?_set_self (by rw [h.len]; omega)]
    exact hq
/-- What a round has shown when it ends. -/
theorem round_end {g : List GN} (hc : checkP g = 0) {rs ns ys : List Int} {fs : List Fm} {c : Int → Int → Int} {many lq : Nat} (hcd : c = fun a b => cmpF (fs.getD a.toNat zFm) (fs.getD b.toNat zFm)) (hR : Rnk g (rd rs) many) (hf : ∀ a, Pl g a → FmPart g (rd rs) a (nd g a).f4.length (fs.getD a.toNat zFm)) (hys : ys.Perm (plainTo g g.length)) (hu : UpTo c ys ys.length) (ht : ToldP c ys ns g.length ys.length) (hl : lq = lv c ys (ys.length - 1)) :
    ((lq + 1 = many ∨ ys.length = 0) → Fnl g (rd ns)) ∧ (0 < ys.length → Rnk g (rd ns) (lq + 1) ∧ many ≤ lq + 1 ∧ lq + 1 ≤ g.length) := by
  have hle := lv_le c ys (ys.length - 1)
  rw [← hl] at hle
  have hlen : ys.length ≤ g.length := by
    rw [hys.length_eq]
    exact plainTo_len g g.length
  rcases Nat.eq_zero_or_pos ys.length with h0 | h0
  · refine ⟨fun _ => Fnl.none (fun a ha => ?_) _, fun h => absurd h (by omega)⟩
    have := hys.mem_iff.2 ((plain_iff g a).1 ha)
    rw [List.length_eq_zero_iff.1 h0] at this
    cases this
  · obtain ⟨h1, h2⟩ := round_of hc (rs := rs) (ns := ns) (F := fun a => fs.getD a.toNat zFm) (fun a ha => (hf a ha).done) hys (by rw [hcd] at hu; exact hu) h0 (fun i hi => by
      have := ht.at_ i hi
      rw [hcd] at this
      exact this)
    rw [← hcd, ← hl] at h2
    refine ⟨fun h => ?_, fun _ => ?_⟩
    · rcases h with h | h
      · subst h
        exact hR.done hc (Nat.succ_pos _) h1 h2
      · omega
    · obtain ⟨h3, h4⟩ := hR.next hc h1 h2
      exact ⟨h3, h4, by omega⟩
theorem meas2 {n m l : Nat} (h : m ≤ l) (hne : l ≠ m) (hl : l ≤ n) : n + 1 - (intOf (.int .i64 (l : Int))).toNat < n + 1 - (intOf (.int .i64 (m : Int))).toNat := by
  simp only [intOf]
  omega
end Go.Proofs.YtgppcpghpeenhaaDoor.CP

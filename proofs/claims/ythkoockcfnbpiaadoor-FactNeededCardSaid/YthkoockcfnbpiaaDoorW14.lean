/- Facts that cast. -/
import Derived.Test.YthkoockcfnbpiaaDoorProg
import Derived.Test.YthkoockcfnbpiaaDoorWWords
import Derived.Test.YthkoockcfnbpiaaDoorWLast
import Derived.Test.YthkoockcfnbpiaaDoorW10
import Derived.Test.YthkoockcfnbpiaaDoorM2
namespace Go.Proofs.YthkoockcfnbpiaaDoor.W14
open Go.RowKit Go.Proofs.YthkoockcfnbpiaaDoorW.PrintWords Go.Proofs.YthkoockcfnbpiaaDoorW.PrintLast Go.Proofs.YthkoockcfnbpiaaDoorW.PrintMore Go.Proofs.YthkoockcfnbpiaaDoor L1 L4 G1 G2 S1 S2 S3 S4 S5 S8 F1 S10 S11 F2 F3 W1 W2 W3 W4 W5 W6 W7 W8 W9 W10
set_option linter.unusedVariables false
set_option linter.unusedSimpArgs false
set_option maxHeartbeats 4000000 in
set_option maxRecDepth 100000 in
theorem dyn_index (gb : Nat) (A : Option Addr) (c : Nat) (l : List Int) (w : World) (R : Nat → World → Prop) (T : World → Prop) (hC : ∀ i W, R i W → Kd.C (Kd.int .i64) W A l.length l) (hc : l.length ≤ c)
    (hcl : ∀ i W, i < l.length → R i W → Calls Tryd.prog 38 #[.int .i64 (rd l (i : Int)), .pointer (some ⟨gb, 0, none⟩)] W fun e W' => (e = .returned (.bool true) ∧ T W') ∨ (e = .returned (.bool false) ∧ R (i + 1) W')) (hR : R 0 w) :
    Calls Tryd.prog 51 #[.slice A l.length c, .func (.func 38) #[] #[.pointer (some ⟨gb, 0, none⟩)]] w fun e w' => (∃ n : Int, e = .returned (.int .i64 n) ∧ 0 ≤ n ∧ T w') ∨ (e = .returned (.int .i64 (-1)) ∧ R l.length w') := by
  have HC := Aside0.mk hC
  have Hc := Aside0.mk hc
  have HL := Aside0.mk (hC 0 w hR).2.1
  have HCl := Aside0.mk hcl
  have HR := Aside0.mk hR
  clear hC hc hcl hR
  go_enter Tryd.func51, Tryd.ntmps51
  go_wp2_with (fail)
  go_loopw [8] (fun v8 wr => ∃ i : Nat, i ≤ l.length ∧ v8 = .int .i64 i ∧ Aside0 (R i wr)) (fun v8 _ => l.length + 1 - (intOf v8).toNat)
  case atStart => exact ⟨0, by omega, rfl, HR⟩
  case round =>
    obtain ⟨i, hi, rfl, HRi⟩ := hrel
    by_cases hlt : i < l.length
    · obtain ⟨ad, ea, hx⟩ := Kd.at_int (HC.out i wr HRi.out) (i : Int) (by omega) (by omega)
      cases ea
      simp only [Int.toNat_natCast] at hx
      have hL := HL.out
      have hw : wrap64 ((i : Int) + 1) = ((i + 1 : Nat) : Int) := by unfold wrap64; omega
      go_wp2_with (fail)
      refine (HCl.out i wr hlt HRi.out).mono ?_
      rintro e w' (⟨rfl, ht⟩ | ⟨rfl, hr⟩)
      · have HT := Aside0.mk ht
        clear ht
        go_wp2_with (fail)
        go_ret
        exact .inl ⟨i, rfl, by omega, HT.out⟩
      · have HR2 := Aside0.mk hr
        clear hr
        go_wp2_with (fail)
        go_roundw
        case rel => exact ⟨i + 1, by omega, by first | (rw [hw]; done) | (rw [Int.natCast_add]; rfl), HR2⟩
        case measure => first | (rw [hw]; simp only [intOf]; omega) | (simp only [intOf]; omega)
    · obtain rfl : i = l.length := by omega
      go_wp2_with (fail)
      go_ret
      exact .inr ⟨rfl, HRi.out⟩
set_option maxRecDepth 100000 in
theorem dyn_contains (gb : Nat) (A : Option Addr) (c : Nat) (l : List Int) (w : World) (R : Nat → World → Prop) (T : World → Prop) (hC : ∀ i W, R i W → Kd.C (Kd.int .i64) W A l.length l) (hc : l.length ≤ c)
    (hcl : ∀ i W, i < l.length → R i W → Calls Tryd.prog 38 #[.int .i64 (rd l (i : Int)), .pointer (some ⟨gb, 0, none⟩)] W fun e W' => (e = .returned (.bool true) ∧ T W') ∨ (e = .returned (.bool false) ∧ R (i + 1) W')) (hR : R 0 w) :
    Calls Tryd.prog 39 #[.slice A l.length c, .func (.func 38) #[] #[.pointer (some ⟨gb, 0, none⟩)]] w fun e w' => (e = .returned (.bool true) ∧ T w') ∨ (e = .returned (.bool false) ∧ R l.length w') := by
  have HI := Aside0.mk (dyn_index gb A c l w R T hC hc hcl hR)
  clear hC hc hcl hR
  go_enter Tryd.func39, Tryd.ntmps39
  go_wp2_with (fail)
  refine HI.out.mono ?_
  rintro e w' (⟨n, rfl, hn, ht⟩ | ⟨rfl, hr⟩)
  · have hd : decide (0 ≤ n) = true := decide_eq_true hn
    have HT := Aside0.mk ht
    have hne := eq_true hn
    clear ht
    go_wp2_with (fail)
    go_ret
    exact .inl ⟨rfl, HT.out⟩
  · have HR := Aside0.mk hr
    clear hr
    go_wp2_with (fail)
    go_ret
    exact .inr ⟨rfl, HR.out⟩
set_option maxRecDepth 100000 in
theorem dyn_yes (gb : Nat) (A0 : Option Addr) (c0 : Nat) (g : List GN) (a : Nat) (w : World) (h0 : w.cell? ⟨gb, 0, none⟩ = some (.slice A0 g.length c0)) (hg : Kd.C P.k45 w A0 g.length g) (ha : a < g.length) :
    Calls Tryd.prog 38 #[.int .i64 (a : Int), .pointer (some ⟨gb, 0, none⟩)] w fun e w' => e = .returned (.bool (dynP g a)) ∧ Below w.heap.size w w' := by
  obtain ⟨ad, Ak, ck, Al, cl, eA, hN⟩ := node_at hg ha
  subst eA
  obtain ⟨x, hx⟩ : ∃ x, x = nd g a := ⟨_, rfl⟩
  rw [← hx] at hN
  have HP := Aside0.mk (show dynP g a = decide (x.f0 = 1) by unfold dynP; rw [hx])
  have k0 := hN.c0
  have e1 : ((a : Int) < (g.length : Int)) = True := eq_true (by omega)
  clear hx hN hg ha
  obtain ⟨d, hd⟩ : ∃ d, d = decide (x.f0 = 1) := ⟨_, rfl⟩
  have e5 : (x.f0 == 1) = d := by rw [hd]; rfl
  rw [← hd] at HP
  clear hd
  go_enter Tryd.func38, Tryd.ntmps38
  go_wp2_with (fail)
  go_ret
  rw [HP.out]
  exact ⟨rfl, Below.refl _ _⟩
theorem dyns_yes (gb : Nat) (A0 : Option Addr) (c0 : Nat) (g : List GN) (A : Option Addr) (c : Nat) (ks : List Int) (w : World) (h0 : w.cell? ⟨gb, 0, none⟩ = some (.slice A0 g.length c0)) (hg : Kd.C P.k45 w A0 g.length g) (hk : Kd.C (Kd.int .i64) w A ks.length ks) (hc : ks.length ≤ c) (hin : ∀ y ∈ ks, 0 ≤ y ∧ y < (g.length : Int)) :
    Calls Tryd.prog 39 #[.slice A ks.length c, .func (.func 38) #[] #[.pointer (some ⟨gb, 0, none⟩)]] w fun e w' => e = .returned (.bool (ks.any (dynP g))) ∧ Below w.heap.size w w' := by
  refine (dyn_contains gb A c ks w (fun i W => Below w.heap.size w W ∧ (ks.take i).any (dynP g) = false) (fun W => Below w.heap.size w W ∧ ks.any (dynP g) = true) (fun i W h => Kd.C_below hk h.1) hc (fun i W hi hR => ?_) ⟨Below.refl _ _, rfl⟩).mono ?_
  · have hmem : ks.getD i 0 ∈ ks := by rw [List.getD_eq_getElem?_getD, List.getElem?_eq_getElem hi]; exact List.getElem_mem hi
    have hr := hin _ hmem
    have hg' : rd ks (i : Int) = ks.getD i 0 := by show ks.getD (i : Int).toNat _ = _; rw [Int.toNat_natCast]
    rw [hg']
    obtain ⟨y, hy⟩ := Int.eq_ofNat_of_zero_le hr.1
    have HT := take_one hi
    rw [hy] at hr hmem HT ⊢
    refine (dyn_yes gb A0 c0 g y W (pw_cell_below hR.1 h0) (Kd.C_below hg hR.1) (by omega)).mono ?_
    rintro e W' ⟨rfl, hb⟩
    cases hp : dynP g y with
    | false =>
      refine .inr ⟨rfl, hR.1.trans (hb.mono hR.1.size), ?_⟩
      rw [HT, List.any_append, hR.2]
      simp [hp]
    | true =>
      refine .inl ⟨rfl, hR.1.trans (hb.mono hR.1.size), ?_⟩
      rw [List.any_eq_true]
      exact ⟨_, hmem, hp⟩
  · rintro e W (⟨rfl, hb, h⟩ | ⟨rfl, hb, h⟩)
    · exact ⟨by rw [h], hb⟩
    · rw [List.take_length] at h
      exact ⟨by rw [h], hb⟩
/-- How many keys a map has. -/
def msz (w : World) (m : Nat) : Nat := match w.heap[m]? with
  | some (.map es _) => es.size
  | _ => 0
theorem msz_of {w : World} {m N : Nat} {f : Nat → Bool} (h : M2.Ms w m N f) : msz w m = M2.cnt N f := by
  obtain ⟨D, ⟨es, cl, hb, F, _, e⟩, _, hs⟩ := h.ex
  unfold msz
  rw [hb]
  dsimp only
  rw [← hs, e, Maps.size_eq, length_sorted]
  simp
/-- Where the search stands. -/
structure Cs (g : List GN) (l : List FC) (k : Nat) (td : List Nat) (seen : Nat → Bool) (i0 : Option Nat) : Prop where
  start : seen k = true
  todo : ∀ i ∈ td, i < l.length ∧ seen i = true
  all : ∀ i, seen i = true → i < l.length ∧ Rch g l k i
  done : ∀ i, seen i = true → i ∉ td → some i ≠ i0 → castB g (l.getD i zF) = false ∧ ∀ j ∈ onP g (l.getD i zF), ∃ n : Nat, j = (n : Int) ∧ seen n = true
theorem get_of {l : List FC} {i : Nat} (h : i < l.length) : l[(i : Int).toNat]? = some (l.getD i zF) := by
  rw [Int.toNat_natCast, List.getD_eq_getElem?_getD, List.getElem?_eq_getElem h]
  rfl
theorem Cs.no {g : List GN} {l : List FC} {k : Nat} {seen : Nat → Bool} (h : Cs g l k [] seen none) : castsP g l k = false := by
  cases hc : castsP g l k with
  | false => rfl
  | true =>
    obtain ⟨_, i, hr, f, hf, hcb⟩ := castsP_iff.1 hc
    have key : ∃ n : Nat, i = (n : Int) ∧ seen n = true := by
      clear hf hcb
      induction hr with
      | refl => exact ⟨k, rfl, h.start⟩
      | step i j _ he ih =>
        obtain ⟨n, rfl, hn⟩ := ih
        obtain ⟨f, hf, hj⟩ := he
        have hnl := (h.all n hn).1
        rw [get_of hnl] at hf
        cases hf
        exact (h.done n hn (by simp) (by simp)).2 j hj
    obtain ⟨n, rfl, hn⟩ := key
    have hnl := (h.all n hn).1
    rw [get_of hnl] at hf
    cases hf
    rw [(h.done n hn (by simp) (by simp)).1] at hcb
    cases hcb
theorem Cs.yes {g : List GN} {l : List FC} {k i : Nat} {td : List Nat} {seen : Nat → Bool} {i0 : Option Nat} (h : Cs g l k td seen i0) (hh : hasFP g l k = true) (hs : seen i = true) (hc : castB g (l.getD i zF) = true) : castsP g l k = true := by
  obtain ⟨h1, h2⟩ := h.all i hs
  exact castsP_iff.2 ⟨hh, i, h2, _, get_of h1, hc⟩
theorem Cs.pop {g : List GN} {l : List FC} {k i : Nat} {td : List Nat} {seen : Nat → Bool} (h : Cs g l k (i :: td) seen none) : Cs g l k td seen (some i) :=
  ⟨h.start, fun j hj => h.todo j (List.mem_cons_of_mem _ hj), h.all, fun j hs hn hne => h.done j hs (by simp; exact ⟨fun e => hne (by rw [e]), hn⟩) (by simp)⟩
theorem Cs.push {g : List GN} {l : List FC} {k i n : Nat} {td : List Nat} {seen : Nat → Bool} (h : Cs g l k td seen (some i)) (hs : seen i = true) (hn : n < l.length) (ho : (n : Int) ∈ onP g (l.getD i zF)) : Cs g l k (td ++ [n]) (M2.put seen n) (some i) := by
  have hp : ∀ j, seen j = true → M2.put seen n j = true := fun j hj => by unfold M2.put; rw [hj]; simp
  have hr : Rch g l k n := .step _ _ (h.all i hs).2 ⟨_, get_of (h.all i hs).1, ho⟩
  refine ⟨hp _ h.start, fun j hj => ?_, fun j hj => ?_, fun j hj hnt hne => ?_⟩
  · rcases List.mem_append.1 hj with hj | hj
    · exact ⟨(h.todo j hj).1, hp _ (h.todo j hj).2⟩
    · simp at hj
      subst hj
      exact ⟨hn, by simp [M2.put]⟩
  · unfold M2.put at hj
    rw [Bool.or_eq_true, decide_eq_true_eq] at hj
    rcases hj with rfl | hj
    · exact ⟨hn, hr⟩
    · exact h.all j hj
  · have hjn : j ≠ n := fun e => hnt (by rw [e]; simp)
    have hj' : seen j = true := by unfold M2.put at hj; rw [Bool.or_eq_true, decide_eq_true_eq] at hj; exact hj.resolve_left hjn
    obtain ⟨h1, h2⟩ := h.done j hj' (fun e => hnt (List.mem_append_left _ e)) hne
    exact ⟨h1, fun y hy => by obtain ⟨m, e, hm⟩ := h2 y hy; exact ⟨m, e, hp _ hm⟩⟩
theorem Cs.close {g : List GN} {l : List FC} {k i : Nat} {td : List Nat} {seen : Nat → Bool} (h : Cs g l k td seen (some i)) (hc : castB g (l.getD i zF) = false) (ho : ∀ j ∈ onP g (l.getD i zF), ∃ n : Nat, j = (n : Int) ∧ seen n = true) : Cs g l k td seen none :=
  ⟨h.start, h.todo, h.all, fun j hs hn _ => by
    by_cases e : j = i
    · subst e
      exact ⟨hc, ho⟩
    · exact h.done j hs hn (fun e' => e (by injection e'))⟩
end Go.Proofs.YthkoockcfnbpiaaDoor.W14

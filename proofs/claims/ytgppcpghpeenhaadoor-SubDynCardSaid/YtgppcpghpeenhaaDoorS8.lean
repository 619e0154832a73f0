/- solve: what does not hold is taken away, as long as there is something. -/
import Derived.Test.YtgppcpghpeenhaaDoorProg
import Derived.Test.YtgppcpghpeenhaaDoorWWords
import Derived.Test.YtgppcpghpeenhaaDoorWLast
import Derived.Test.YtgppcpghpeenhaaDoorS7
import Derived.WalkMore
namespace Go.Proofs.YtgppcpghpeenhaaDoor.S8
open Go.RowKit Go.Proofs.YtgppcpghpeenhaaDoorW.PrintWords Go.Proofs.YtgppcpghpeenhaaDoorW.PrintLast Go.Proofs.YtgppcpghpeenhaaDoorW.PrintMore Go.Proofs.YtgppcpghpeenhaaDoor L1 L3 L4 G1 G2 S0 S1 S2 S3 S4 S5 S6 S7
set_option linter.unusedVariables false
set_option linter.unusedSimpArgs false
/-- A pair of numbers in memory. -/
def kP : Kd (Int × Int) := Kd.pair (Kd.int .i64) (Kd.int .i64)
theorem kP_open {w : World} {x : Int × Int} {cs : List Value} (h : kP.K w x cs) : cs = [.int .i64 x.1, .int .i64 x.2] := by
  obtain ⟨_, _, rfl, rfl, rfl⟩ := h
  rfl
theorem kP_mkM (w : World) (base : Nat) (ok : Nat → Prop) (x : Int × Int) : kP.M w base ok x [.int .i64 x.1, .int .i64 x.2] := ⟨[.int .i64 x.1], [.int .i64 x.2], rfl, rfl, rfl⟩
theorem at_P {w : World} {A : Option Addr} {n : Nat} {xs : List (Int × Int)} (h : Kd.C kP w A n xs) (i : Int) (h0 : 0 ≤ i) (h1 : i < n) : ∃ ad, A = some ad ∧ w.cell? (ad.add (i.toNat * 2)) = some (.int .i64 (xs.getD i.toNat (0, 0)).1) ∧
    w.cell? ⟨(ad.add (i.toNat * 2)).block, (ad.add (i.toNat * 2)).off + 1, none⟩ = some (.int .i64 (xs.getD i.toNat (0, 0)).2) := by
  obtain ⟨ad, c, e, _, hK, hc0⟩ := Kd.C_get h (0, 0) i h0 h1
  have hc : ∀ j u, c[j]? = some u → w.cell? (ad.add (i.toNat * 2 + j)) = some u := hc0
  have := kP_open hK
  subst this
  exact ⟨ad, e, hc 0 _ rfl, by rw [← add_field _ _ 1 (by omega)]; exact hc 1 _ rfl⟩
theorem infoP : (Tryd.prog.info? 49).map (fun i => (i.zero, i.size, i.bytes)) = some (some (.agg #[.int .i64 0, .int .i64 0]), 2, 16) := by kernel_rfl
def ints (L : List (Nat × Nat)) : List (Int × Int) := L.map fun p => ((p.1 : Int), (p.2 : Int))
theorem ints_at {L : List (Nat × Nat)} {i : Nat} (hi : i < L.length) : (ints L).getD i (0, 0) = ((L[i].1 : Int), (L[i].2 : Int)) := by
  unfold ints
  rw [List.getD_eq_getElem?_getD, List.getElem?_map, List.getElem?_eq_getElem hi]
  rfl
theorem ints_len (L : List (Nat × Nat)) : (ints L).length = L.length := by simp [ints]
/-- Pairs, taken for granted. -/
def firstF (f : F2) (l : List (Nat × Nat)) : F2 := l.foldl (fun f p => (grantedF f p.1 p.2).2) f
theorem firstF_snoc (f : F2) (l : List (Nat × Nat)) (p : Nat × Nat) : firstF f (l ++ [p]) = (grantedF (firstF f l) p.1 p.2).2 := by simp [firstF, List.foldl_append]
theorem firstF_ext : ∀ (l : List (Nat × Nat)) (f : F2), Ext f (firstF f l)
  | [], f => Ext.refl f
  | p :: r, f => ((Ev.granted p.1 p.2).ext f).trans (firstF_ext r _)
theorem granted_known (f : F2) (a b : Nat) : (grantedF f a b).2 a b ≠ none := by
  unfold grantedF
  cases hf : f a b with
  | none =>
    show (f.put a b true) a b ≠ none
    rw [put_same]; simp
  | some v =>
    show f a b ≠ none
    rw [hf]; simp
theorem firstF_known : ∀ (l : List (Nat × Nat)) (f : F2), ∀ p ∈ l, firstF f l p.1 p.2 ≠ none
  | [], f, p, hp => by simp at hp
  | q :: r, f, p, hp => by
    rcases List.mem_cons.1 hp with rfl | hp
    · intro e
      have h1 := granted_known f p.1 p.2
      cases hg : (grantedF f p.1 p.2).2 p.1 p.2 with
      | none => exact h1 hg
      | some v =>
        have := (firstF_ext r (grantedF f p.1 p.2).2).some hg
        have e2 : firstF (grantedF f p.1 p.2).2 r p.1 p.2 = none := e
        rw [e2] at this; cases this
    · exact firstF_known r _ p hp
section
variable {ops : Array Oper} {rest : List Oper} {o : Oper} {a : Act} {Q : Exit → Act → World → Prop}
theorem next_yes (w : World) (hg : o.guard = none) (it : Operand) (hop : o.op = Op.next it false) (m r n N : Nat) (f : F2) (D : DataW Unit) (hd : MpD N f D) (hN : N ≤ 2000) (left : Lit → Bool) (cnt : Nat) (hit : a.eval it = .pointer (some ⟨r, 0, none⟩))
    (h : w.ranges Tryd.prog 49 RI m r n D left cnt) (hDone : (∀ kl, left kl = false) → wpList Tryd.prog ops Q rest (a.put o.dst (.tuple #[.bool false])) w)
    (hMore : ∀ (x y : Nat) (c : Int) (w' : World) (cnt' : Nat), x < N → y < N → f x y ≠ none → w'.ranges Tryd.prog 49 RI m r n D (fun z => left z && !z.sameKey (kk x y)) cnt' → cnt' < cnt → w.grownBy w' (some r) → w'.heap.size = w.heap.size →
      (Instr.entry (.pointer (some ⟨r, 0, none⟩))).run Tryd.prog w' = .ok (.tuple #[.agg #[.int .i64 x, .int .i64 y], .int .i64 c]) w' → wpList Tryd.prog ops Q rest (a.put o.dst (.tuple #[.bool true, .agg #[.int .i64 x, .int .i64 y], .int .i64 c])) w') :
    wpList Tryd.prog ops Q (o :: rest) a w := by
  refine wpList_next_ranges (α := Int × Int) (β := Int) w hg it hop 49 lawP RI (fun x => .agg #[.int .i64 x.1, .int .i64 x.2]) (fun c => .int .i64 c) (fun key kl hk => by
    obtain ⟨a, b, _, _, e, _⟩ := key_inv hk
    exact ⟨(a, b), e⟩) (fun v y hv => by
    obtain ⟨c, e, _⟩ := plainElem_int_inv Tryd.underlying3 hv
    exact ⟨c, e⟩) m r n D left cnt hit h (fun _ hl => hDone hl) ?_
  rintro ⟨x, y⟩ c kl yv w' cnt' hkey hlk hv hat hrg hlt hgr hsz hen
  have hhas := Maps.has_true_of_atKey hat
  obtain ⟨x', y', hx, hy, rfl⟩ := hd.1 kl hhas
  have e := lawP.inj hkey (key_mk (w64_nat (by omega : x' < 2001)) (w64_nat (by omega : y' < 2001)))
  simp at e
  obtain ⟨rfl, rfl⟩ := e
  refine hMore x' y' c w' cnt' hx hy (fun e => ?_) hrg hlt hgr hsz hen
  have := (hd.2.1 x' y' hx hy).1
  rw [hhas, e] at this
  cases this
end
theorem below_of_grown {w w' : World} (h : w.grownBy w' none) : Below w.heap.size w w' := ⟨h.os, h.tape, h.output, h.size, fun k hk => h.block k hk (by simp)⟩
def so14.T14 : Bool × List (List Nat × List Nat) := (true, [([], []), ([0], [0]), ([1], [1]), ([2], [2]), ([], []), ([3, 4], [3, 4]), ([5], [5]), ([6], [6]), ([7], [7]), ([7], [7]), ([8, 9, 7, 7], [7, 8, 9]), ([10, 7], [7, 10]), ([7, 11], [7, 11])])
def so14.B14 : List Nat := [0, 1, 3, 7, 0, 31, 63, 127, 255, 255, 1023, 2047, 4095]
theorem so14.tab14 : rtab .any (opsOf Tryd.f14 14) = so14.T14 := by kernel_rfl
theorem so14.bits14 : waitsOk so14.T14.2 so14.B14 = true := by kernel_rfl
def so15.T15 : Bool × List (List Nat × List Nat) := (true, [([], []), ([0], [0]), ([1], [1]), ([2], [2]), ([], []), ([3, 4, 0, 1, 2, 3, 4], [3, 4])])
def so15.B15 : List Nat := [0, 1, 3, 7, 0, 31]
theorem so15.tab15 : rtab .any (opsOf Tryd.f14 15) = so15.T15 := by kernel_rfl
theorem so15.bits15 : waitsOk so15.T15.2 so15.B15 = true := by kernel_rfl
set_option maxHeartbeats 16000000 in
set_option maxRecDepth 100000 in
theorem solve_yes (w0 w : World) (sb m : Nat) (A0 : Option Addr) (c0 : Nat) (g : List GN) (st : Bool) (f : F2) (hS : Sv w0 w sb m A0 c0 g st f) (hI : Inv st g f) (A1 : Option Addr) (c1 : Nat) (first : List (Nat × Nat)) (hf : ∀ p ∈ first, p.1 < g.length ∧ p.2 < g.length)
    (hc : ∀ W', w.grownBy W' (some m) → Kd.C kP W' A1 first.length (ints first)) (hc1 : first.length ≤ c1) :
    Calls Tryd.prog 14 #[.pointer (some ⟨sb, 0, none⟩), .slice A1 first.length c1] w
      fun e w' => e = .returned (.tuple #[]) ∧ ∃ f', Mp w' m g.length f' ∧ w.grownBy w' (some m) ∧ S7.Ends st g f' ∧ ∀ p ∈ first, f' p.1 p.2 ≠ none := by
  have HS := Aside0.mk hS
  have HI := Aside0.mk hI
  have HC := Aside0.mk hc
  have HF := Aside0.mk hf
  have hl1 := (hc w (World.grownBy.refl _ _)).2.1
  have HC1 := Aside0.mk hc1
  clear hS hI hc hf hc1
  go_enter Tryd.func14, Tryd.ntmps14
  go_step3
  go_wp2_with (fail)
  go_loopw [13] (fun v13 wr => ∃ i : Nat, i ≤ first.length ∧ v13 = .int .i64 i ∧ Aside0 (Mp wr m g.length (firstF f (first.take i))) ∧ Aside0 (w.grownBy wr (some m))) (fun v13 _ => first.length + 1 - (intOf v13).toNat)
  case atStart => exact ⟨0, by omega, rfl, ⟨HS.out.mp⟩, ⟨World.grownBy.refl _ _⟩⟩
  case round =>
    obtain ⟨i, hi, rfl, HMi, HGi⟩ := hrel
    have HSi := Aside0.mk (HS.out.grown HGi.out HMi.out)
    by_cases hlt : i < first.length
    · obtain ⟨ad, ea, x1, x2⟩ := at_P (HC.out wr HGi.out) (i : Int) (by omega) (by omega)
      cases ea
      rw [Int.toNat_natCast, ints_at hlt] at x1 x2
      have hp := HF.out _ (List.getElem_mem hlt)
      have hs : firstF f (first.take (i + 1)) = (grantedF (firstF f (first.take i)) first[i].1 first[i].2).2 := by
        rw [List.take_add_one, List.getElem?_eq_getElem hlt]
        exact firstF_snoc _ _ _
      obtain ⟨⟨a, b⟩, hab⟩ : ∃ p, p = first[i] := ⟨_, rfl⟩
      rw [← hab] at x1 x2 hp hs
      have HP := Aside0.mk hp
      have HSn := Aside0.mk hs
      clear hp hs hab
      dsimp only at x1 x2
      go_wp2_with (fail)
      refine (granted_yes sb m g.length a b _ _ (HSi.out.alloc _).z2 (HSi.out.alloc _).mp HP.out.1 HP.out.2).mono ?_
      rintro e w' ⟨rfl, hm, hg⟩
      have HM := Aside0.mk hm
      have HG := Aside0.mk ((World.grownBy_alloc wr _ (some m)).trans hg)
      clear hm hg
      have hw : wrap64 ((i : Int) + 1) = ((i + 1 : Nat) : Int) := by unfold wrap64; omega
      go_wp2_with (fail)
      go_roundw
      case rel => exact ⟨i + 1, by omega, by first | (rw [hw]; done) | (rw [Int.natCast_add]; rfl), ⟨by rw [HSn.out]; exact HM.out⟩, ⟨HGi.out.trans HG.out⟩⟩
      case measure => first | (rw [hw]; simp only [intOf]; omega) | (simp only [intOf]; omega)
    · obtain rfl : i = first.length := by omega
      rw [List.take_length] at HMi HSi
      have HI0 := Aside0.mk (HI.out.ext (firstF_ext first f))
      have HK0 := Aside0.mk (firstF_known first f)
      generalize firstF f first = f1 at HMi HSi HI0 HK0
      go_wp2_with (fail)
      go_step3
      go_wp2_with (fail)
      go_loopw [6] (fun v6 wr => ∃ f1 : F2, Aside0 (Mp wr m g.length f1) ∧ Aside0 (w.grownBy wr (some m)) ∧ Aside0 (S7.Inv st g f1) ∧ Aside0 (∀ p ∈ first, f1 p.1 p.2 ≠ none)) (fun v6 wr => mu g.length (fOf wr m g.length))
      case atStart => exact ⟨f1, HMi, HGi, HI0, HK0⟩
      case round =>
        rename World => V
        clear HMi HGi HI0 HK0 HSi hi hlt
        obtain ⟨f1, HMi, HGi, HI0, HK0⟩ := hrel
        have HSi := Aside0.mk (HS.out.grown HGi.out HMi.out)
        have hcl := card_le g.length f1
        have hNN : g.length * g.length ≤ 2000 * 2000 := Nat.mul_le_mul HMi.out.small HMi.out.small
        have hlen := HMi.out.len 3
        obtain ⟨i0, hi0, hz0, hz1, hz2⟩ := info_parts infoP
        obtain ⟨W1, hmk, hown, hg1⟩ := run_make_own (P := Tryd.prog) V V.heap.size 47 49 i0 _ 2 Tryd.underlying47 hi0 hz0 hz1 .i64 .i64 (card g.length f1) (by rw [hz2]; omega) (by unfold maxLen; omega) (Nat.le_refl _)
        have HM1 := Aside0.mk (HMi.out.kept hg1 (by simp))
        have HG1 := Aside0.mk hg1
        have z2 := HSi.out.z2
        have z2' := hg1.cell z2 (by simp)
        obtain ⟨D, hD, hd⟩ := HM1.out.ex
        have HOw := Aside0.mk hD
        have HMD := Aside0.mk hd
        have hsz : V.heap.size < W1.heap.size := by
          obtain ⟨_, h2⟩ := hown
          rcases h2 with h2 | ⟨g', cap, cur, hv, hg', hh, _⟩
          · simp at h2
          · cases hv
            exact (Array.getElem?_eq_some_iff.1 hh).1
        have HR1 : Aside0 (Kd.R kP 49 W1 V.heap.size (fun k => k ≠ W1.heap.size) (.slice (some ⟨V.heap.size, 0, none⟩) 0 (card g.length f1)) (ints [])) := ⟨⟨fun k hk => by simp [Value.ownBlock] at hk; omega, [], hown, Reps.none _ _⟩⟩
        clear hcl hNN i0 hi0 hz0 hz1 hz2 hown hg1 hD hd
        go_wp2_with (first | (at_range; refine wpList_range_own _ rfl _ 51 rfl 49 3 lawP Tryd.underlying51 RI m (Maps.size D) D rfl HOw.out ?_; intro W2 hrg2 hg2 hs2))
        go_frame
        obtain ⟨r, hr⟩ : ∃ r, r = W1.heap.size := ⟨_, rfl⟩
        rw [← hr] at hrg2 hsz ⊢
        have HR1' : Aside0 (Kd.R kP 49 W1 V.heap.size (fun k => k ≠ r) (.slice (some ⟨V.heap.size, 0, none⟩) 0 (card g.length f1)) (ints [])) := ⟨by rw [hr]; exact HR1.out⟩
        have HRg := Aside0.mk hrg2
        have HR2' : Aside0 (Kd.R kP 49 W2 V.heap.size (fun k => k ≠ r) (.slice (some ⟨V.heap.size, 0, none⟩) 0 (card g.length f1)) (ints [])) := ⟨Kd.R_grown HR1'.out hg2 (fun _ _ => by simp)⟩
        have HG2' := Aside0.mk (HG1.out.trans hg2)
        have HSz := Aside0.mk hsz
        clear HR1 HR1' hrg2 hr hs2 hmk z2 z2' hsz hg2
        go_loopw [7] (fun v7 wx => ∃ (L : List (Nat × Nat)) (left : Lit → Bool) (cnt : Nat), Aside0 (wx.ranges Tryd.prog 49 RI m r (Maps.size D) D left cnt) ∧ Aside0 (Kd.R kP 49 wx V.heap.size (fun k => k ≠ r) v7 (ints L)) ∧ Aside0 (V.grownBy wx none) ∧ Aside0 (∀ a b, f1 a b ≠ none → left (kk a b) = true ∨ (a, b) ∈ L) ∧ Aside0 (∀ p ∈ L, p.1 < g.length ∧ p.2 < g.length ∧ f1 p.1 p.2 ≠ none) ∧ Aside0 (L.length + cnt ≤ card g.length f1)) (fun v7 wx => wx.rangeLeft m r)
        case atStart => exact ⟨[], Maps.has D, Maps.size D, HRg, HR2', HG2', ⟨fun a b h => .inl (by
          by_cases hab : a < g.length ∧ b < g.length
          · rw [(HMD.out.2.1 a b hab.1 hab.2).1]
            cases h1 : f1 a b with
            | none => exact absurd h1 h
            | some v => rfl
          · exact absurd (HMD.out.2.2.1 a b hab) h)⟩, ⟨fun p hp => by simp at hp⟩, ⟨by have := HMD.out.2.2.2; simp; omega⟩⟩
        case round =>
          clear HRg HR2' HG2'
          obtain ⟨L, left, cnt, HRg, HR2, HGx, HAl, HIn, HCn⟩ := hrel
          obtain ⟨A7, c7, rfl, hc7, hC7⟩ := Kd.R_reads HR2.out
          clear hc7 hC7
          go_wp2_with (first | (at_next; refine next_yes _ rfl _ rfl m r (Maps.size D) g.length f1 D HMD.out HMi.out.small left cnt rfl HRg.out ?_ ?_))
          · intro hl
            rename World => X
            have HMx := Aside0.mk (HMi.out.kept HGx.out (by simp))
            have HSx := Aside0.mk (HSi.out.grown (HGx.out.but (some m)) HMx.out)
            have HGX := Aside0.mk (HGi.out.trans (HGx.out.but (some m)))
            have HALL := Aside0.mk (show ∀ a b, f1 a b ≠ none → (a, b) ∈ L from fun a b h => by
              rcases HAl.out a b h with h1 | h1
              · rw [hl] at h1; cases h1
              · exact h1)
            have HC7 : Aside0 (∀ W', X.grownBy W' (some m) → Kd.C kP W' A7 L.length (ints L)) := ⟨fun W' hg => by
              have h1 := (Kd.R_reads' (Kd.R_grown (Kd.R_bound HR2.out) hg (fun k hk e => by have h1 := hk.2.1; have h2 := HMi.out.lt; cases e; omega))).2.2
              rw [ints_len] at h1
              exact h1⟩
            have hLl := (HC7.out X (World.grownBy.refl _ _)).2.1
            have HInL := HIn
            clear hl HRg HR2 HAl HIn HCn HGx hlen HM1 HG1 HOw HMD HSz
            rw [ints_len]
            go_wp2_with (fail)
            go_loopw [6, 43] (fun v6 v43 wy => ∃ (j : Nat) (many : Int) (fj : F2), j ≤ L.length ∧ v43 = .int .i64 j ∧ v6 = .int .i64 many ∧ Aside0 (Mp wy m g.length fj) ∧ Aside0 (X.grownBy wy (some m)) ∧ Aside0 (Rd st g g.length f1 L j many fj)) (fun v6 v43 _ => L.length + 1 - (intOf v43).toNat)
            case atStart => exact ⟨0, (card g.length f1 : Int), f1, by omega, rfl, rfl, HMx, ⟨World.grownBy.refl _ _⟩, ⟨Rd.start g.length L HI0.out⟩⟩
            case round =>
              rename World => Y
              obtain ⟨j, many, fj, hj, rfl, rfl, HMj, HGj, HRd⟩ := hrel
              have HSj := Aside0.mk (HSx.out.grown HGj.out HMj.out)
              have HGJ := Aside0.mk (HGX.out.trans HGj.out)
              by_cases hlt : j < L.length
              · obtain ⟨ad, ea, x1, x2⟩ := at_P (HC7.out Y HGj.out) (j : Int) (by omega) (by omega)
                rw [Int.toNat_natCast, ints_at hlt] at x1 x2
                cases ea
                have hp := HInL.out _ (List.getElem_mem hlt)
                have hq : L[j]? = some L[j] := List.getElem?_eq_getElem hlt
                obtain ⟨⟨a, b⟩, hab⟩ : ∃ p, p = L[j] := ⟨_, rfl⟩
                rw [← hab] at x1 x2 hp hq
                have HP := Aside0.mk hp
                have HQ := Aside0.mk hq
                clear hp hq hab
                dsimp only at x1 x2
                have hkn : fj a b ≠ none := HRd.out.known a b HP.out.2.2
                have HSY := Aside0.mk (HSj.out.alloc (.cells #[.int .i64 a, .int .i64 b] 49))
                have hblk := heap_alloc_new Y (.cells #[.int .i64 a, .int .i64 b] 49)
                have y0 : (Y.alloc (.cells #[.int .i64 a, .int .i64 b] 49)).cell? ⟨Y.heap.size, 0, none⟩ = some (.int .i64 a) := (blk_cell hblk 0).trans rfl
                have y1 : (Y.alloc (.cells #[.int .i64 a, .int .i64 b] 49)).cell? ⟨Y.heap.size, 1, none⟩ = some (.int .i64 b) := (blk_cell hblk 1).trans rfl
                have z2 := HSY.out.z2
                have HGY := Aside0.mk (World.grownBy_alloc Y (.cells #[.int .i64 a, .int .i64 b] 49) (some m))
                have HLk := Aside0.mk (HSY.out.mp.drew.look HP.out.1 HP.out.2.1)
                have HQm := Aside0.mk (HSj.out.box_ne (Nat.le_refl Y.heap.size))
                clear hblk
                go_wp2_with (fail)
                generalize Y.alloc (.cells #[.int .i64 a, .int .i64 b] 49) = Z at HSY y0 y1 z2 HGY HLk ⊢
                have hw : wrap64 ((j : Int) + 1) = ((j + 1 : Nat) : Int) := by unfold wrap64; omega
                cases hfj : fj a b with
                | none => exact absurd hfj hkn
                | some v =>
                  rw [hfj] at HLk
                  cases v with
                  | false =>
                    have HNot := Aside0.mk (show fj a b ≠ some true by rw [hfj]; simp)
                    have hv : decide (0 < vl (some false)) = false := rfl
                    clear hfj hkn
                    refine start_ (n := 13) (S := fun w' => w'.cell? ⟨sb, 2, none⟩ = some (.map (some m)) ∧ w'.cell? ⟨Y.heap.size, 0, none⟩ = some (.int .i64 a) ∧ w'.cell? ⟨Y.heap.size, 1, none⟩ = some (.int .i64 b) ∧ (Instr.lookup 51 (.map (some m)) (.agg #[.int .i64 a, .int .i64 b]) false).run Tryd.prog w' = .ok (.int .i64 (vl (some false))) w') (ds := []) #[φ,φ,φ,φ,φ,φ,φ,φ,φ,φ,φ,φ,φ] (by kernel_rfl) rfl rfl ⟨z2, y0, y1, HLk.out⟩ (fun hHeld => ?_)
                    refine with_tabW so14.tab14 so14.bits14 (fun HT_ HW_ => ?_)
                    refine pure_ (i := 0) (N := some 47) (v := ?_) (a' := ?_) #[τ,φ,φ,φ,φ,φ,φ,φ,φ,φ,φ,φ,φ] rfl rfl (any_of HT_.out (by kernel_rfl)) (fun _ _ _ h => h) (Or.inl ⟨by rfl, ?_⟩) ?_ ?_
                    rotate_left; (intro w'; go_simp; with_reducible rfl); rotate_left; (simp only [Act.put, zz1, zz2, zz3, i64_w, i32_w]; rfl)
                    refine pure_ (i := 1) (N := some 48) (v := ?_) (a' := ?_) #[τ,τ,φ,φ,φ,φ,φ,φ,φ,φ,φ,φ,φ] rfl rfl (any_of HT_.out (by kernel_rfl)) (fun _ _ _ h => h) (Or.inl ⟨by rfl, ?_⟩) ?_ ?_
                    rotate_left; (intro w'; go_simp; with_reducible rfl); rotate_left; (simp only [Act.put, zz1, zz2, zz3, i64_w, i32_w]; rfl)
                    refine pure_ (i := 2) (N := some 49) (v := ?_) (a' := ?_) #[τ,τ,τ,φ,φ,φ,φ,φ,φ,φ,φ,φ,φ] rfl rfl (any_of HT_.out (by kernel_rfl)) (fun _ _ _ h => h) (Or.inl ⟨by rfl, ?_⟩) ?_ ?_
                    rotate_left; (intro w'; go_simp; with_reducible rfl); rotate_left; (simp only [Act.put, zz1, zz2, zz3, i64_w, i32_w]; rfl)
                    refine take_ (i := 3) (N := some 50) (v := ?_) (a' := ?_) #[τ,τ,τ,τ,φ,φ,φ,φ,φ,φ,φ,φ,φ] rfl rfl (take_ofW HT_.out HW_.out (by kernel_rfl)) (fun _ _ _ h => h) (Or.inl ⟨by rfl, ?_⟩) hHeld ?_ ?_
                    rotate_left; (rintro w' ⟨s0, s1, s2, s3⟩; go_simp; with_reducible rfl); rotate_left; (simp only [Act.put, zz1, zz2, zz3, i64_w, i32_w]; rfl)
                    refine take_ (i := 4) (N := some 51) (v := ?_) (a' := ?_) #[τ,τ,τ,τ,τ,φ,φ,φ,φ,φ,φ,φ,φ] rfl rfl (take_ofW HT_.out HW_.out (by kernel_rfl)) (fun _ _ _ h => h) (Or.inl ⟨by rfl, ?_⟩) hHeld ?_ ?_
                    rotate_left; (rintro w' ⟨s0, s1, s2, s3⟩; go_simp; with_reducible rfl); rotate_left; (simp only [Act.put, zz1, zz2, zz3, i64_w, i32_w]; rfl)
                    refine take_ (i := 5) (N := some 52) (v := ?_) (a' := ?_) #[τ,τ,τ,τ,τ,τ,φ,φ,φ,φ,φ,φ,φ] rfl rfl (take_ofW HT_.out HW_.out (by kernel_rfl)) (fun _ _ _ h => h) (Or.inl ⟨by rfl, ?_⟩) hHeld ?_ ?_
                    rotate_left; (rintro w' ⟨s0, s1, s2, s3⟩; go_simp; with_reducible rfl); rotate_left; (simp only [Act.put, zz1, zz2, zz3, i64_w, i32_w]; rfl)
                    refine pure_ (i := 6) (N := some 53) (v := ?_) (a' := ?_) #[τ,τ,τ,τ,τ,τ,τ,φ,φ,φ,φ,φ,φ] rfl rfl (any_of HT_.out (by kernel_rfl)) (fun _ _ _ h => h) (Or.inl ⟨by rfl, ?_⟩) ?_ ?_
                    rotate_left; (intro w'; go_simp; with_reducible rfl); rotate_left; (simp only [Act.put, zz1, zz2, zz3, i64_w, i32_w]; rfl)
                    refine pure_ (i := 7) (N := some 54) (v := ?_) (a' := ?_) #[τ,τ,τ,τ,τ,τ,τ,τ,φ,φ,φ,φ,φ] rfl rfl (any_of HT_.out (by kernel_rfl)) (fun _ _ _ h => h) (Or.inl ⟨by rfl, ?_⟩) ?_ ?_
                    rotate_left; (intro w'; go_simp; with_reducible rfl); rotate_left; (simp only [Act.put, zz1, zz2, zz3, i64_w, i32_w]; rfl)
                    refine pure_ (i := 8) (N := some 55) (v := undef) (a' := ?_) #[τ,τ,τ,τ,τ,τ,τ,τ,τ,φ,φ,φ,φ] rfl rfl (any_of HT_.out (by kernel_rfl)) (fun _ _ _ h => h) (Or.inr ⟨by rfl, rfl⟩) ?_ ?_
                    rotate_left; (simp only [Act.put, zz1, zz2, zz3, i64_w, i32_w]; rfl)
                    refine pure_ (i := 9) (N := some 56) (v := undef) (a' := ?_) #[τ,τ,τ,τ,τ,τ,τ,τ,τ,τ,φ,φ,φ] rfl rfl (any_of HT_.out (by kernel_rfl)) (fun _ _ _ h => h) (Or.inr ⟨by rfl, rfl⟩) ?_ ?_
                    rotate_left; (simp only [Act.put, zz1, zz2, zz3, i64_w, i32_w]; rfl)
                    refine pure_ (i := 10) (N := some 57) (v := undef) (a' := ?_) #[τ,τ,τ,τ,τ,τ,τ,τ,τ,τ,τ,φ,φ] rfl rfl (any_of HT_.out (by kernel_rfl)) (fun _ _ _ h => h) (Or.inr ⟨by rfl, rfl⟩) ?_ ?_
                    rotate_left; (simp only [Act.put, zz1, zz2, zz3, i64_w, i32_w]; rfl)
                    refine pure_ (i := 11) (N := some 58) (v := undef) (a' := ?_) #[τ,τ,τ,τ,τ,τ,τ,τ,τ,τ,τ,τ,φ] rfl rfl (any_of HT_.out (by kernel_rfl)) (fun _ _ _ h => h) (Or.inr ⟨by rfl, rfl⟩) ?_ ?_
                    rotate_left; (simp only [Act.put, zz1, zz2, zz3, i64_w, i32_w]; rfl)
                    refine pure_ (i := 12) (N := some 59) (v := ?_) (a' := ?_) #[τ,τ,τ,τ,τ,τ,τ,τ,τ,τ,τ,τ,τ] rfl rfl (any_of HT_.out (by kernel_rfl)) (fun _ _ _ h => h) (Or.inl ⟨by rfl, ?_⟩) ?_ ?_
                    rotate_left; (intro w'; go_simp; with_reducible rfl); rotate_left; (simp only [Act.put, zz1, zz2, zz3, i64_w, i32_w]; rfl)
                    refine done_ (done_of HT_.out (by kernel_rfl)) ?_
                    go_wp2_with (fail)
                    go_roundw
                    case rel => exact ⟨j + 1, many, fj, by omega, by first | (rw [hw]; done) | (rw [Int.natCast_add]; rfl), rfl, ⟨HSY.out.mp.drew⟩, ⟨grown_drew (HGj.out.trans HGY.out)⟩, ⟨HRd.out.skip HQ.out HNot.out⟩⟩
                    case measure => first | (rw [hw]; simp only [intOf]; omega) | (simp only [intOf]; omega)
                  | true =>
                    have HYes := Aside0.mk hfj
                    have hv : decide (0 < vl (some true)) = true := rfl
                    clear hfj hkn
                    refine start_ (n := 13) (S := fun w' => w'.cell? ⟨sb, 2, none⟩ = some (.map (some m)) ∧ w'.cell? ⟨Y.heap.size, 0, none⟩ = some (.int .i64 a) ∧ w'.cell? ⟨Y.heap.size, 1, none⟩ = some (.int .i64 b) ∧ (Instr.lookup 51 (.map (some m)) (.agg #[.int .i64 a, .int .i64 b]) false).run Tryd.prog w' = .ok (.int .i64 (vl (some true))) w') (ds := [10]) #[φ,φ,φ,φ,φ,φ,φ,φ,φ,φ,φ,φ,φ] (by kernel_rfl) rfl rfl ⟨z2, y0, y1, HLk.out⟩ (fun hHeld => ?_)
                    refine with_tabW so14.tab14 so14.bits14 (fun HT_ HW_ => ?_)
                    refine pure_ (i := 0) (N := some 47) (v := ?_) (a' := ?_) #[τ,φ,φ,φ,φ,φ,φ,φ,φ,φ,φ,φ,φ] rfl rfl (any_of HT_.out (by kernel_rfl)) (fun _ _ _ h => h) (Or.inl ⟨by rfl, ?_⟩) ?_ ?_
                    rotate_left; (intro w'; go_simp; with_reducible rfl); rotate_left; (simp only [Act.put, zz1, zz2, zz3, i64_w, i32_w]; rfl)
                    refine pure_ (i := 1) (N := some 48) (v := ?_) (a' := ?_) #[τ,τ,φ,φ,φ,φ,φ,φ,φ,φ,φ,φ,φ] rfl rfl (any_of HT_.out (by kernel_rfl)) (fun _ _ _ h => h) (Or.inl ⟨by rfl, ?_⟩) ?_ ?_
                    rotate_left; (intro w'; go_simp; with_reducible rfl); rotate_left; (simp only [Act.put, zz1, zz2, zz3, i64_w, i32_w]; rfl)
                    refine pure_ (i := 2) (N := some 49) (v := ?_) (a' := ?_) #[τ,τ,τ,φ,φ,φ,φ,φ,φ,φ,φ,φ,φ] rfl rfl (any_of HT_.out (by kernel_rfl)) (fun _ _ _ h => h) (Or.inl ⟨by rfl, ?_⟩) ?_ ?_
                    rotate_left; (intro w'; go_simp; with_reducible rfl); rotate_left; (simp only [Act.put, zz1, zz2, zz3, i64_w, i32_w]; rfl)
                    refine take_ (i := 3) (N := some 50) (v := ?_) (a' := ?_) #[τ,τ,τ,τ,φ,φ,φ,φ,φ,φ,φ,φ,φ] rfl rfl (take_ofW HT_.out HW_.out (by kernel_rfl)) (fun _ _ _ h => h) (Or.inl ⟨by rfl, ?_⟩) hHeld ?_ ?_
                    rotate_left; (rintro w' ⟨s0, s1, s2, s3⟩; go_simp; with_reducible rfl); rotate_left; (simp only [Act.put, zz1, zz2, zz3, i64_w, i32_w]; rfl)
                    refine take_ (i := 4) (N := some 51) (v := ?_) (a' := ?_) #[τ,τ,τ,τ,τ,φ,φ,φ,φ,φ,φ,φ,φ] rfl rfl (take_ofW HT_.out HW_.out (by kernel_rfl)) (fun _ _ _ h => h) (Or.inl ⟨by rfl, ?_⟩) hHeld ?_ ?_
                    rotate_left; (rintro w' ⟨s0, s1, s2, s3⟩; go_simp; with_reducible rfl); rotate_left; (simp only [Act.put, zz1, zz2, zz3, i64_w, i32_w]; rfl)
                    refine take_ (i := 5) (N := some 52) (v := ?_) (a' := ?_) #[τ,τ,τ,τ,τ,τ,φ,φ,φ,φ,φ,φ,φ] rfl rfl (take_ofW HT_.out HW_.out (by kernel_rfl)) (fun _ _ _ h => h) (Or.inl ⟨by rfl, ?_⟩) hHeld ?_ ?_
                    rotate_left; (rintro w' ⟨s0, s1, s2, s3⟩; go_simp; with_reducible rfl); rotate_left; (simp only [Act.put, zz1, zz2, zz3, i64_w, i32_w]; rfl)
                    refine pure_ (i := 6) (N := some 53) (v := ?_) (a' := ?_) #[τ,τ,τ,τ,τ,τ,τ,φ,φ,φ,φ,φ,φ] rfl rfl (any_of HT_.out (by kernel_rfl)) (fun _ _ _ h => h) (Or.inl ⟨by rfl, ?_⟩) ?_ ?_
                    rotate_left; (intro w'; go_simp; with_reducible rfl); rotate_left; (simp only [Act.put, zz1, zz2, zz3, i64_w, i32_w]; rfl)
                    refine pure_ (i := 7) (N := some 54) (v := ?_) (a' := ?_) #[τ,τ,τ,τ,τ,τ,τ,τ,φ,φ,φ,φ,φ] rfl rfl (any_of HT_.out (by kernel_rfl)) (fun _ _ _ h => h) (Or.inl ⟨by rfl, ?_⟩) ?_ ?_
                    rotate_left; (intro w'; go_simp; with_reducible rfl); rotate_left; (simp only [Act.put, zz1, zz2, zz3, i64_w, i32_w]; rfl)
                    refine pure_ (i := 8) (N := some 55) (v := ?_) (a' := ?_) #[τ,τ,τ,τ,τ,τ,τ,τ,τ,φ,φ,φ,φ] rfl rfl (any_of HT_.out (by kernel_rfl)) (fun _ _ _ h => h) (Or.inl ⟨by rfl, ?_⟩) ?_ ?_
                    rotate_left; (intro w'; go_simp; with_reducible rfl); rotate_left; (simp only [Act.put, zz1, zz2, zz3, i64_w, i32_w]; rfl)
                    refine take_ (i := 9) (N := some 56) (v := ?_) (a' := ?_) #[τ,τ,τ,τ,τ,τ,τ,τ,τ,τ,φ,φ,φ] rfl rfl (take_ofW HT_.out HW_.out (by kernel_rfl)) (fun _ _ _ h => h) (Or.inl ⟨by rfl, ?_⟩) hHeld ?_ ?_
                    rotate_left; (rintro w' ⟨s0, s1, s2, s3⟩; go_simp; with_reducible rfl); rotate_left; (simp only [Act.put, zz1, zz2, zz3, i64_w, i32_w]; rfl)
                    refine last_ (i := 10) (N := some 57) #[τ,τ,τ,τ,τ,τ,τ,τ,τ,τ,τ,φ,φ] rfl rfl (one_of HT_.out (by kernel_rfl)) (by decide) (fun K hK => ?_)
                    refine goes_ Tryd.func28 (by kernel_rfl) rfl #[.pointer (some ⟨sb, 0, none⟩), .agg #[.int .i64 a, .int .i64 b]] (by rfl) rfl rfl (by simp only [List.map_toArray, List.map_cons, List.map_nil]; rfl) ?_
                    with_reducible refine (holds_yes w0 _ sb m A0 c0 g st fj HSY.out.drew a b HP.out.1 HP.out.2.1).mono ?_
                    rintro e W9 ⟨rfl, hm, hg⟩
                    refine ⟨_, rfl, ?_⟩
                    have HM9 := Aside0.mk hm
                    have HG9 := Aside0.mk hg
                    clear hm hg
                    refine hK.out _ _ ?_
                    clear hK K
                    refine norm_ (a' := ?_) ?_ ?_
                    rotate_left
                    · show Act.put _ (some 57) _ = _
                      simp only [Act.put, zz1, zz2, zz3, i64_w, i32_w]
                      rfl
                    refine pure_ (i := 11) (N := some 58) (v := ?_) (a' := ?_) #[τ,τ,τ,τ,τ,τ,τ,τ,τ,τ,τ,τ,φ] rfl rfl (any_of HT_.out (by kernel_rfl)) (fun _ _ _ h => h) (Or.inl ⟨by rfl, ?_⟩) ?_ ?_
                    rotate_left; (intro w'; go_simp; with_reducible rfl); rotate_left; (simp only [Act.put, zz1, zz2, zz3, i64_w, i32_w]; rfl)
                    refine pure_ (i := 12) (N := some 59) (v := ?_) (a' := ?_) #[τ,τ,τ,τ,τ,τ,τ,τ,τ,τ,τ,τ,τ] rfl rfl (any_of HT_.out (by kernel_rfl)) (fun _ _ _ h => h) (Or.inl ⟨by rfl, ?_⟩) ?_ ?_
                    rotate_left; (intro w'; go_simp; with_reducible rfl); rotate_left; (simp only [Act.put, zz1, zz2, zz3, i64_w, i32_w]; rfl)
                    refine done_ (done_of HT_.out (by kernel_rfl)) ?_
                    cases hh : (holdsF st g fj a b).1 with
                    | true =>
                      have HHo := Aside0.mk hh
                      clear hh
                      go_wp2_with (fail)
                      go_roundw
                      case rel => exact ⟨j + 1, many, (holdsF st g fj a b).2, by omega, by first | (rw [hw]; done) | (rw [Int.natCast_add]; rfl), rfl, HM9, ⟨(HGj.out.trans (grown_drew HGY.out)).trans HG9.out⟩, ⟨HRd.out.good HQ.out HHo.out⟩⟩
                      case measure => first | (rw [hw]; simp only [intOf]; omega) | (simp only [intOf]; omega)
                    | false =>
                      have HHo := Aside0.mk hh
                      clear hh
                      go_wp2_with (fail)
                      have z2' := HG9.out.cell z2 (fun e => HSj.out.ne (by cases e; rfl))
                      have y0' := HG9.out.cell y0 HQm.out
                      have y1' := HG9.out.cell y1 HQm.out
                      obtain ⟨W8, hrun, hm8, hg8⟩ := HM9.out.drew.put HP.out.1 HP.out.2.1 false
                      have HM8 := Aside0.mk hm8
                      have HG8 := Aside0.mk hg8
                      have hrun' : (Instr.mapUpdate 51 (.map (some m)) (.agg #[.int .i64 a, .int .i64 b]) (.int .i64 0)).run Tryd.prog W9.drew = .ok () W8 := hrun
                      clear hrun hm8 hg8
                      refine start_ (n := 6) (S := fun w' => w'.cell? ⟨sb, 2, none⟩ = some (.map (some m)) ∧ w'.cell? ⟨Y.heap.size, 0, none⟩ = some (.int .i64 a) ∧ w'.cell? ⟨Y.heap.size, 1, none⟩ = some (.int .i64 b)) (ds := [5]) #[φ,φ,φ,φ,φ,φ] (by kernel_rfl) rfl rfl ⟨z2', y0', y1'⟩ (fun hHeld => ?_)
                      refine with_tabW so15.tab15 so15.bits15 (fun HT_ HW_ => ?_)
                      refine pure_ (i := 0) (N := some 60) (v := ?_) (a' := ?_) #[τ,φ,φ,φ,φ,φ] rfl rfl (any_of HT_.out (by kernel_rfl)) (fun _ _ _ h => h) (Or.inl ⟨by rfl, ?_⟩) ?_ ?_
                      rotate_left; (intro w'; go_simp; with_reducible rfl); rotate_left; (simp only [Act.put, zz1, zz2, zz3, i64_w, i32_w]; rfl)
                      refine pure_ (i := 1) (N := some 61) (v := ?_) (a' := ?_) #[τ,τ,φ,φ,φ,φ] rfl rfl (any_of HT_.out (by kernel_rfl)) (fun _ _ _ h => h) (Or.inl ⟨by rfl, ?_⟩) ?_ ?_
                      rotate_left; (intro w'; go_simp; with_reducible rfl); rotate_left; (simp only [Act.put, zz1, zz2, zz3, i64_w, i32_w]; rfl)
                      refine pure_ (i := 2) (N := some 62) (v := ?_) (a' := ?_) #[τ,τ,τ,φ,φ,φ] rfl rfl (any_of HT_.out (by kernel_rfl)) (fun _ _ _ h => h) (Or.inl ⟨by rfl, ?_⟩) ?_ ?_
                      rotate_left; (intro w'; go_simp; with_reducible rfl); rotate_left; (simp only [Act.put, zz1, zz2, zz3, i64_w, i32_w]; rfl)
                      refine take_ (i := 3) (N := some 63) (v := ?_) (a' := ?_) #[τ,τ,τ,τ,φ,φ] rfl rfl (take_ofW HT_.out HW_.out (by kernel_rfl)) (fun _ _ _ h => h) (Or.inl ⟨by rfl, ?_⟩) hHeld ?_ ?_
                      rotate_left; (rintro w' ⟨s0, s1, s2⟩; go_simp; with_reducible rfl); rotate_left; (simp only [Act.put, zz1, zz2, zz3, i64_w, i32_w]; rfl)
                      refine take_ (i := 4) (N := some 64) (v := ?_) (a' := ?_) #[τ,τ,τ,τ,τ,φ] rfl rfl (take_ofW HT_.out HW_.out (by kernel_rfl)) (fun _ _ _ h => h) (Or.inl ⟨by rfl, ?_⟩) hHeld ?_ ?_
                      rotate_left; (rintro w' ⟨s0, s1, s2⟩; go_simp; with_reducible rfl); rotate_left; (simp only [Act.put, zz1, zz2, zz3, i64_w, i32_w]; rfl)
                      refine last_ (i := 5) (N := none) #[τ,τ,τ,τ,τ,τ] rfl rfl (one_of HT_.out (by kernel_rfl)) (by decide) (fun K hK => ?_)
                      refine skip_ (w1 := ?_) (by rfl) rfl ?_ ?_
                      rotate_left
                      · go_simp
                        rfl
                      refine hK.out _ _ ?_
                      clear hK K
                      refine done_ (done_of HT_.out (by kernel_rfl)) ?_
                      go_wp2_with (fail)
                      go_roundw
                      case rel => exact ⟨j + 1, -1, (holdsF st g fj a b).2.put a b false, by omega, by first | (rw [hw]; done) | (rw [Int.natCast_add]; rfl), rfl, HM8, ⟨((HGj.out.trans (grown_drew HGY.out)).trans (grown_drew HG9.out)).trans HG8.out⟩, ⟨HRd.out.bad (p := (a, b)) HP.out.1 HP.out.2.1 HYes.out HHo.out⟩⟩
                      case measure => first | (rw [hw]; simp only [intOf]; omega) | (simp only [intOf]; omega)
              · obtain rfl : j = L.length := by omega
                have z2 := HSj.out.z2
                have hlen := HMj.out.len 3
                by_cases hm : many = (card g.length fj : Int)
                · have hmb : (many == (card g.length fj : Int)) = true := by simp [hm]
                  have HEn := Aside0.mk (HRd.out.ends HALL.out (by obtain ⟨D, _, hd⟩ := HMj.out.ex; exact hd.2.2.1) hm)
                  have HKn := Aside0.mk (show ∀ p ∈ first, fj p.1 p.2 ≠ none from fun p hp => HRd.out.known _ _ (HK0.out p hp))
                  clear hm
                  go_wp2_with (fail)
                  rw [Exit.noGoto_normal]
                  first | go_end0 | ((try simp only [Exit.inBlock, Exit.then]); refine bodyPost_ret (results_none rfl _ _ _) rfl ?_)
                  exact ⟨rfl, fj, HMj.out, HGJ.out, HEn.out, HKn.out⟩
                · have hmb : (many == (card g.length fj : Int)) = false := by simp [hm]
                  have HNe := Aside0.mk hm
                  clear hm
                  go_wp2_with (fail)
                  go_roundw
                  case rel => exact ⟨fj, HMj, HGJ, ⟨HRd.out.inv⟩, ⟨fun p hp => HRd.out.known _ _ (HK0.out p hp)⟩⟩
                  case measure => rw [HMj.out.fOf, HMi.out.fOf]; exact HRd.out.less HNe.out
          · intro x y c w' cnt' hx hy hfk hrg hlt hgr hsz hen
            have HRg2 := Aside0.mk hrg
            have HRx := Aside0.mk (Kd.R_grown HR2.out hgr (fun k hk e => hk (by cases e; rfl)))
            have HGw := Aside0.mk (HGx.out.andThen hgr (fun j hj => by cases hj; exact .inl (Nat.le_of_lt HSz.out)))
            have HBl := Aside0.mk (below_of_grown (HGw.out.trans (World.grownBy_alloc w' (.cells #[.int .i64 x, .int .i64 y] 49) none)))
            have HAF : Aside0 (∀ k, (w'.alloc (.cells #[.int .i64 x, .int .i64 y] 49)).heap.size ≤ k → k ≠ r) := ⟨fun k hk e => by have h1 := HRg2.out.lt; rw [World.size_alloc] at hk; omega⟩
            have HAL : Aside0 (((ints L).length + 1) * 16 ≤ 140737488355328) := ⟨by rw [ints_len]; have h1 := HCn.out; have h2 := card_le g.length f1; have h3 : g.length * g.length ≤ 2000 * 2000 := Nat.mul_le_mul HMi.out.small HMi.out.small; omega⟩
            have HNew := Aside0.mk (show x < g.length ∧ y < g.length ∧ f1 x y ≠ none from ⟨hx, hy, hfk⟩)
            have HLt := Aside0.mk hlt
            clear hx hy hfk hrg hlt hgr hsz
            go_wp2_with (first | ((with_reducible refine gate_builtin (b := .append) (xs := #[.tmp 37, .tmp 39]) rfl ?_); at_builtin; refine Kd.R_append kP (w0 := V) V.heap.size rfl (.tmp 37) (.tmp 39) 47 49 (.agg #[.int .i64 0, .int .i64 0]) 16 rfl Tryd.underlying47 infoP rfl (by decide) (by omega) (.slice A7 (ints L).length c7) (ints L) ((x : Int), (y : Int)) [.int .i64 x, .int .i64 y] (fun k => k ≠ r) (fun _ => False) rfl (by show Value.slice (some ⟨w'.heap.size + 1, 0, none⟩) 1 1 = _; rw [World.size_alloc]) (kP_mkM _ _ _ _) (fun _ hk => hk.elim) HAF.out (Kd.R_alloc HRx.out _) HBl.out HBl.out.size HAL.out ?_; intro v9 W9 ho hb hg9 hat9))
            have HO := Aside0.mk (show Kd.R kP 49 W9 V.heap.size (fun k => k ≠ r) v9 (ints (L ++ [(x, y)])) by unfold ints at ho ⊢; rw [List.map_append]; exact ho)
            have hob : ∀ k, (Value.slice A7 (ints L).length c7).ownBlock = some k → V.heap.size ≤ k := fun k hk => ((Kd.R_bound HRx.out).1 k hk).2.1
            have HG9 := Aside0.mk ((HGw.out.trans (World.grownBy_alloc w' (.cells #[.int .i64 x, .int .i64 y] 49) none)).andThen hg9 (fun k hk => .inl (hob k hk)))
            have HRg9 := Aside0.mk ((HRg2.out.alloc (.cells #[.int .i64 x, .int .i64 y] 49)).kept hg9 (fun e => by have := hob m e.symm; have := HMi.out.lt; omega) (fun e => HRx.out.1 r e.symm rfl))
            clear ho hb hg9 hat9 hob
            go_wp2_with (fail)
            go_roundw
            case rel => exact ⟨L ++ [(x, y)], fun z => left z && !z.sameKey (kk x y), cnt', HRg9, HO, HG9, ⟨fun a b hab => by
              have hr : a < g.length ∧ b < g.length := Classical.byContradiction (fun h => hab (HMD.out.2.2.1 a b h))
              rcases HAl.out a b hab with h | h
              · by_cases e : a = x ∧ b = y
                · obtain ⟨rfl, rfl⟩ := e
                  exact .inr (by simp)
                · refine .inl ?_
                  have hN := HMi.out.small
                  show (left (kk a b) && !(kk a b).sameKey (kk x y)) = true
                  rw [h, Maps.sameKey_ne (fun e2 => e (by
                    have := kk_inj (w64_nat (by omega : a < 2001)) (w64_nat (by omega : b < 2001)) (w64_nat (by have := HNew.out.1; omega : x < 2001)) (w64_nat (by have := HNew.out.2.1; omega : y < 2001)) e2
                    omega))]
                  rfl
              · exact .inr (List.mem_append_left _ h)⟩, ⟨fun p hp => by
              rcases List.mem_append.1 hp with h | h
              · exact HIn.out p h
              · simp at h
                subst h
                exact HNew.out⟩, ⟨by have h1 := HCn.out; have h2 := HLt.out; simp; omega⟩⟩
            case measure => rw [HRg9.out.left_eq, HRg.out.left_eq]; exact HLt.out
end Go.Proofs.YtgppcpghpeenhaaDoor.S8

/- works: the chapter's examples. -/
import Derived.Test.YtgppcpghpeenhaaDoorProg
import Derived.Test.YtgppcpghpeenhaaDoorWWords
import Derived.Test.YtgppcpghpeenhaaDoorWLast
import Derived.Test.YtgppcpghpeenhaaDoorR2
namespace Go.Proofs.YtgppcpghpeenhaaDoor.R3
open Go.RowKit Go.Proofs.YtgppcpghpeenhaaDoorW.PrintWords Go.Proofs.YtgppcpghpeenhaaDoorW.PrintLast Go.Proofs.YtgppcpghpeenhaaDoorW.PrintMore Go.Proofs.YtgppcpghpeenhaaDoor L1 L2 L3 L4 G1 G2 S0 S1 S2 S3 S4 S5 S6 S7 S8 S9 S10 S11 R1 R2
set_option linter.unusedVariables false
set_option linter.unusedSimpArgs false
def recB (r : Nat → Nat → Bool) (s t : GN) : List ByteArray → Nat → Bool
  | [], _ => true
  | key :: l, i => (match idxF key s.f3 0 with | none => false | some k => r (at_ s.f4 k) (at_ t.f4 i)) && recB r s t l (i + 1)
theorem recB_iff (r : Nat → Nat → Bool) (s t : GN) : ∀ (l : List ByteArray) (i : Nat), recB r s t l i = true ↔ RecFrom (fun a b => r a b = true) s t l i
  | [], i => by simp [recB, RecFrom]
  | key :: l, i => by
    unfold recB RecFrom
    rw [Bool.and_eq_true, recB_iff r s t l (i + 1)]
    cases idxF key s.f3 0 with
    | none => simp
    | some k => simp
def doesB (st : Bool) (r : Nat → Nat → Bool) (s t : GN) : Bool :=
  if s.f0 = 1 ∨ t.f0 = 1 then !st || s.f0 == t.f0
  else (s.f0 == t.f0) && (!(s.f0 == 5) || s.f2.toList == t.f2.toList) && (!(s.f0 == 7) || recB r s t t.f3 0) && (!(s.f0 == 9) || (s.f1 == t.f1 && r (at_ s.f4 0) (at_ t.f4 0)))
theorem doesB_iff (st : Bool) (r : Nat → Nat → Bool) (s t : GN) : doesB st r s t = true ↔ Does st (fun a b => r a b = true) s t := by
  unfold doesB Does
  split
  · cases st <;> simp
  · simp only [Bool.and_eq_true, Bool.or_eq_true, Bool.not_eq_true', beq_iff_eq, beq_eq_false_iff_ne, recB_iff]
    constructor
    · rintro ⟨⟨⟨h1, h2⟩, h3⟩, h4⟩
      exact ⟨h1, fun h => h2.resolve_left (fun h' => h' h), fun h => h3.resolve_left (fun h' => h' h), fun h => h4.resolve_left (fun h' => h' h)⟩
    · rintro ⟨h1, h2, h3, h4⟩
      refine ⟨⟨⟨h1, ?_⟩, ?_⟩, ?_⟩
      · by_cases h : s.f0 = 5
        · exact .inr (h2 h)
        · exact .inl h
      · by_cases h : s.f0 = 7
        · exact .inr (h3 h)
        · exact .inl h
      · by_cases h : s.f0 = 9
        · exact .inr (h4 h)
        · exact .inl h
def standsB (st : Bool) (g : List GN) (r : Nat → Nat → Bool) (a b : Nat) : Bool :=
  (membersP g a).all fun s => (membersP g b).any (fun y => doesB st r (nd g s) (nd g y)) || ((nd g s).f0 == 9 && r (at_ (nd g s).f4 0) b)
theorem standsB_iff (st : Bool) (g : List GN) (r : Nat → Nat → Bool) (a b : Nat) : standsB st g r a b = true ↔ Stands st g (fun a b => r a b = true) a b := by
  unfold standsB Stands
  rw [List.all_eq_true]
  refine forall_congr' fun s => forall_congr' fun hs => ?_
  rw [Bool.or_eq_true, List.any_eq_true, Bool.and_eq_true, beq_iff_eq]
  simp only [doesB_iff]
theorem sub_yes {st : Bool} {g : List GN} (L : List (Nat × Nat)) (h : L.all (fun p => standsB st g (fun a b => L.contains (a, b)) p.1 p.2) = true) {a b : Nat} (hm : L.contains (a, b) = true) : Sub st g a b :=
  Sub.of_post (R := fun a b => L.contains (a, b) = true) (fun x y hxy => by
    have := List.all_eq_true.1 h (x, y) (by simpa using hxy)
    exact (standsB_iff _ _ _ _ _).1 this) hm
def noB (st : Bool) (g : List GN) : List (Nat × Nat) → List (Nat × Nat) → Bool
  | [], _ => true
  | p :: r, acc => !standsB st g (fun a b => !acc.contains (a, b)) p.1 p.2 && noB st g r (p :: acc)
theorem sub_no' {st : Bool} {g : List GN} : ∀ (Z acc : List (Nat × Nat)), noB st g Z acc = true → (∀ p ∈ acc, ¬ Sub st g p.1 p.2) → ∀ p ∈ Z, ¬ Sub st g p.1 p.2
  | [], _, _, _, p, hp => by simp at hp
  | q :: r, acc, h, ha, p, hp => by
    unfold noB at h
    rw [Bool.and_eq_true, Bool.not_eq_true'] at h
    have hq : ¬ Sub st g q.1 q.2 := fun hs => by
      have h1 := (standsB_iff st g (fun a b => !acc.contains (a, b)) q.1 q.2).2 (hs.post.mono (fun a b hab => by
        cases hc : acc.contains (a, b) with
        | false => rfl
        | true => exact absurd hab (ha (a, b) (by simpa using hc))))
      rw [h.1] at h1
      cases h1
    rcases List.mem_cons.1 hp with rfl | hp
    · exact hq
    · exact sub_no' r (q :: acc) h.2 (fun p hp => by
        rcases List.mem_cons.1 hp with rfl | hp
        · exact hq
        · exact ha p hp) p hp
theorem sub_no {st : Bool} {g : List GN} (Z : List (Nat × Nat)) (h : noB st g Z [] = true) {a b : Nat} (hm : Z.contains (a, b) = true) : ¬ Sub st g a b :=
  sub_no' Z [] h (fun p hp => by simp at hp) (a, b) (by simpa using hm)
theorem mayB_true {st : Bool} {g : List GN} {a b : Int} (h1 : ofP g [a, b] = true) (h2 : Sub st g a.toNat b.toNat) : mayB st g a b = true := (mayB_iff st g a b).2 ⟨h1, h2⟩
theorem mayB_false {st : Bool} {g : List GN} {a b : Int} (h2 : ¬ Sub st g a.toNat b.toNat) : mayB st g a b = false := by
  cases h : mayB st g a b with
  | false => rfl
  | true => exact absurd ((mayB_iff st g a b).1 h).2 h2
set_option maxRecDepth 100000
theorem mf_4_3 : mayB false chap 4 3 = true := mayB_true (by kernel_rfl) (sub_yes [(4, 3), (0, 0)] (by kernel_rfl) (by rfl))
theorem mf_3_6 : mayB false chap 3 6 = true := mayB_true (by kernel_rfl) (sub_yes [(3, 6), (0, 5)] (by kernel_rfl) (by rfl))
theorem mf_0_5 : mayB false chap 0 5 = true := mayB_true (by kernel_rfl) (sub_yes [(0, 5)] (by kernel_rfl) (by rfl))
theorem mf_2_0 : mayB false chap 2 0 = true := mayB_true (by kernel_rfl) (sub_yes [(2, 0)] (by kernel_rfl) (by rfl))
theorem mf_0_2 : mayB false chap 0 2 = true := mayB_true (by kernel_rfl) (sub_yes [(0, 2)] (by kernel_rfl) (by rfl))
theorem mt_2_2 : mayB true chap 2 2 = true := mayB_true (by kernel_rfl) (sub_yes [(2, 2)] (by kernel_rfl) (by rfl))
theorem mf_7_3 : mayB false chap 7 3 = true := mayB_true (by kernel_rfl) (sub_yes [(7, 3), (3, 3), (0, 0)] (by kernel_rfl) (by rfl))
theorem mf_9_8 : mayB false chap 9 8 = true := mayB_true (by kernel_rfl) (sub_yes [(9, 8), (10, 8)] (by kernel_rfl) (by rfl))
theorem mf_3_4 : mayB false chap 3 4 = false := mayB_false (sub_no [(3, 4)] (by kernel_rfl) (by rfl))
theorem mf_6_3 : mayB false chap 6 3 = false := mayB_false (sub_no [(5, 0), (6, 3)] (by kernel_rfl) (by rfl))
theorem mt_2_0 : mayB true chap 2 0 = false := mayB_false (sub_no [(2, 0)] (by kernel_rfl) (by rfl))
theorem mt_0_2 : mayB true chap 0 2 = false := mayB_false (sub_no [(0, 2)] (by kernel_rfl) (by rfl))
theorem mf_3_7 : mayB false chap 3 7 = false := mayB_false (sub_no [(3, 7)] (by kernel_rfl) (by rfl))
theorem mf_8_9 : mayB false chap 8 9 = false := mayB_false (sub_no [(8, 10), (8, 9)] (by kernel_rfl) (by rfl))
theorem chap_ok : checkP chap = 0 := by kernel_rfl
theorem sub43 : Sub true chap 4 3 := sub_yes [(4, 3), (0, 0)] (by kernel_rfl) (by rfl)
theorem sub44 : Sub true chap 4 4 := sub_yes [(4, 4), (0, 0), (1, 1)] (by kernel_rfl) (by rfl)
theorem least_chap {n e : Int} (h : LeastP chap [4, 3] n e) : n = 4 ∧ e = 0 := by
  unfold LeastP at h
  rw [if_pos chap_ok, if_neg (by decide)] at h
  have hall : ∀ b ∈ ([4, 3] : List Int), Sub true chap (4 : Int).toNat b.toNat := by
    intro b hb
    simp at hb
    rcases hb with rfl | rfl
    · exact sub44
    · exact sub43
  rcases h with ⟨i, hi, hn, he, h1, h2⟩ | ⟨_, _, h3⟩
  · rcases i with _ | i
    · exact ⟨hn, he⟩
    · obtain ⟨b, hb, hs⟩ := h2 0 (by omega) 4 rfl
      exact absurd (hall b hb) hs
  · obtain ⟨b, hb, hs⟩ := h3 4 (by simp)
    exact absurd (hall b hb) hs
theorem ofc (a b : Int) (ha : 0 ≤ a ∧ a < 11) (hb : 0 ≤ b ∧ b < 11) : ofP chap [a, b] = true := by
  unfold ofP
  rw [decide_eq_true chap_ok]
  unfold outP
  have : chap.length = 11 := rfl
  simp [this]
  omega
theorem pick73 {k : Int} (h : PickP chap 7 3 k) : k = -1 := by
  unfold PickP at h
  rw [if_pos ⟨ofc _ _ (by omega) (by omega), by decide⟩] at h
  obtain ⟨h1, h2⟩ := h
  have hs : Sub false chap 7 3 := sub_yes [(7, 3), (3, 3), (0, 0)] (by kernel_rfl) (by rfl)
  rcases h1 with ⟨e, _⟩ | ⟨e, _⟩ | ⟨j, hj, e, hd, _⟩
  · exact absurd hs (h2.1 e)
  · exact e
  · exfalso
    rcases j with _ | j
    · have hd' : Does false (Sub false chap) (nd chap 7) (nd chap 3) := hd
      unfold Does at hd'
      rw [if_neg (by decide)] at hd'
      exact absurd hd'.1 (by decide)
    · have : (membersP chap (3 : Int).toNat).length = 1 := rfl
      omega
theorem pick15 {k : Int} (h : PickP chap 1 5 k) : k = 1 := by
  unfold PickP at h
  rw [if_pos ⟨ofc _ _ (by omega) (by omega), by decide⟩] at h
  obtain ⟨h1, h2⟩ := h
  have hs : Sub false chap 1 5 := sub_yes [(1, 5)] (by kernel_rfl) (by rfl)
  rcases h1 with ⟨e, _⟩ | ⟨_, _, e, _⟩ | ⟨j, hj, e, hd, hn⟩
  · exact absurd hs (h2.1 e)
  · exact absurd e (by decide)
  · rcases j with _ | j
    · exfalso
      have hd' : Does false (Sub false chap) (nd chap 1) (nd chap 0) := hd
      unfold Does at hd'
      rw [if_neg (by decide)] at hd'
      exact absurd hd'.1 (by decide)
    · have : (membersP chap (5 : Int).toNat).length = 2 := rfl
      omega
theorem pick55 {k : Int} (h : PickP chap 5 5 k) : k = -2 := by
  unfold PickP at h
  rw [if_neg (fun h => h.2 (by decide))] at h
  exact h
set_option maxHeartbeats 8000000 in
set_option maxRecDepth 100000 in
theorem works_yes (w : World) (hK : Keys w) : Calls Tryd.prog 7 #[] w fun e w' => e = .returned (.bool true) ∧ Below w.heap.size w w' := by
  have HK := Aside0.mk hK
  clear hK
  go_enter Tryd.func7, Tryd.ntmps7
  go_wp2_with (fail)
  refine (chapter_yes w).mono ?_
  rintro e W0 ⟨A, rfl, hg, hb⟩
  have HG0 := Aside0.mk (show Kd.C P.k33 W0 A chap.length chap from hg)
  have HB0 := Aside0.mk hb
  clear hg hb
  go_wp2_with (fail)
  refine (S10.may_yes A 11 chap 4 3 W0 (HK.out.below HB0.out) HG0.out (Nat.le_refl _)).mono ?_
  rw [mf_4_3]
  rintro e W1 ⟨rfl, hb⟩
  have HG1 := Aside0.mk (Kd.C_below HG0.out hb)
  have HB1 := Aside0.mk (HB0.out.trans (hb.mono HB0.out.size))
  clear hb
  go_wp2_with (fail)
  refine (S10.may_yes A 11 chap 3 4 W1 (HK.out.below HB1.out) HG1.out (Nat.le_refl _)).mono ?_
  rw [mf_3_4]
  rintro e W2 ⟨rfl, hb⟩
  have HG2 := Aside0.mk (Kd.C_below HG1.out hb)
  have HB2 := Aside0.mk (HB1.out.trans (hb.mono HB1.out.size))
  clear hb
  go_wp2_with (fail)
  refine (S10.may_yes A 11 chap 3 6 W2 (HK.out.below HB2.out) HG2.out (Nat.le_refl _)).mono ?_
  rw [mf_3_6]
  rintro e W3 ⟨rfl, hb⟩
  have HG3 := Aside0.mk (Kd.C_below HG2.out hb)
  have HB3 := Aside0.mk (HB2.out.trans (hb.mono HB2.out.size))
  clear hb
  go_wp2_with (fail)
  refine (S10.may_yes A 11 chap 6 3 W3 (HK.out.below HB3.out) HG3.out (Nat.le_refl _)).mono ?_
  rw [mf_6_3]
  rintro e W4 ⟨rfl, hb⟩
  have HG4 := Aside0.mk (Kd.C_below HG3.out hb)
  have HB4 := Aside0.mk (HB3.out.trans (hb.mono HB3.out.size))
  clear hb
  go_wp2_with (fail)
  refine (S10.may_yes A 11 chap 0 5 W4 (HK.out.below HB4.out) HG4.out (Nat.le_refl _)).mono ?_
  rw [mf_0_5]
  rintro e W5 ⟨rfl, hb⟩
  have HG5 := Aside0.mk (Kd.C_below HG4.out hb)
  have HB5 := Aside0.mk (HB4.out.trans (hb.mono HB4.out.size))
  clear hb
  go_wp2_with (fail)
  refine (S10.may_yes A 11 chap 2 0 W5 (HK.out.below HB5.out) HG5.out (Nat.le_refl _)).mono ?_
  rw [mf_2_0]
  rintro e W6 ⟨rfl, hb⟩
  have HG6 := Aside0.mk (Kd.C_below HG5.out hb)
  have HB6 := Aside0.mk (HB5.out.trans (hb.mono HB5.out.size))
  clear hb
  go_wp2_with (fail)
  refine (S10.may_yes A 11 chap 0 2 W6 (HK.out.below HB6.out) HG6.out (Nat.le_refl _)).mono ?_
  rw [mf_0_2]
  rintro e W7 ⟨rfl, hb⟩
  have HG7 := Aside0.mk (Kd.C_below HG6.out hb)
  have HB7 := Aside0.mk (HB6.out.trans (hb.mono HB6.out.size))
  clear hb
  go_wp2_with (fail)
  refine (strict_yes A 11 chap 2 0 W7 (HK.out.below HB7.out) HG7.out (Nat.le_refl _)).mono ?_
  rw [mt_2_0]
  rintro e W8 ⟨rfl, hb⟩
  have HG8 := Aside0.mk (Kd.C_below HG7.out hb)
  have HB8 := Aside0.mk (HB7.out.trans (hb.mono HB7.out.size))
  clear hb
  go_wp2_with (fail)
  refine (strict_yes A 11 chap 0 2 W8 (HK.out.below HB8.out) HG8.out (Nat.le_refl _)).mono ?_
  rw [mt_0_2]
  rintro e W9 ⟨rfl, hb⟩
  have HG9 := Aside0.mk (Kd.C_below HG8.out hb)
  have HB9 := Aside0.mk (HB8.out.trans (hb.mono HB8.out.size))
  clear hb
  go_wp2_with (fail)
  refine (strict_yes A 11 chap 2 2 W9 (HK.out.below HB9.out) HG9.out (Nat.le_refl _)).mono ?_
  rw [mt_2_2]
  rintro e W10 ⟨rfl, hb⟩
  have HG10 := Aside0.mk (Kd.C_below HG9.out hb)
  have HB10 := Aside0.mk (HB9.out.trans (hb.mono HB9.out.size))
  clear hb
  go_wp2_with (fail)
  refine (S10.may_yes A 11 chap 7 3 W10 (HK.out.below HB10.out) HG10.out (Nat.le_refl _)).mono ?_
  rw [mf_7_3]
  rintro e W11 ⟨rfl, hb⟩
  have HG11 := Aside0.mk (Kd.C_below HG10.out hb)
  have HB11 := Aside0.mk (HB10.out.trans (hb.mono HB10.out.size))
  clear hb
  go_wp2_with (fail)
  refine (S10.may_yes A 11 chap 3 7 W11 (HK.out.below HB11.out) HG11.out (Nat.le_refl _)).mono ?_
  rw [mf_3_7]
  rintro e W12 ⟨rfl, hb⟩
  have HG12 := Aside0.mk (Kd.C_below HG11.out hb)
  have HB12 := Aside0.mk (HB11.out.trans (hb.mono HB11.out.size))
  clear hb
  go_wp2_with (fail)
  refine (pick_ok A 11 chap 7 3 W12 (HK.out.below HB12.out) HG12.out (Nat.le_refl _)).mono ?_
  rintro e W13 ⟨k, rfl, hp, hb⟩
  obtain rfl := pick73 hp
  clear hp
  have HG13 := Aside0.mk (Kd.C_below HG12.out hb)
  have HB13 := Aside0.mk (HB12.out.trans (hb.mono HB12.out.size))
  clear hb
  go_wp2_with (fail)
  refine (pick_ok A 11 chap 1 5 W13 (HK.out.below HB13.out) HG13.out (Nat.le_refl _)).mono ?_
  rintro e W14 ⟨k, rfl, hp, hb⟩
  obtain rfl := pick15 hp
  clear hp
  have HG14 := Aside0.mk (Kd.C_below HG13.out hb)
  have HB14 := Aside0.mk (HB13.out.trans (hb.mono HB13.out.size))
  clear hb
  go_wp2_with (fail)
  refine (pick_ok A 11 chap 5 5 W14 (HK.out.below HB14.out) HG14.out (Nat.le_refl _)).mono ?_
  rintro e W15 ⟨k, rfl, hp, hb⟩
  obtain rfl := pick55 hp
  clear hp
  have HG15 := Aside0.mk (Kd.C_below HG14.out hb)
  have HB15 := Aside0.mk (HB14.out.trans (hb.mono HB14.out.size))
  clear hb
  go_wp2_with (fail)
  have hc15 := lit_ints W15 [4, 3] (by decide)
  have hb15 := below_alloc (Below.refl W15.heap.size W15) (.cells (nums .i64 [4, 3]).toArray 3)
  refine (least_yes A 11 chap (some ⟨W15.heap.size, 0, none⟩) 2 [4, 3] _ (HK.out.below (HB15.out.trans (hb15.mono HB15.out.size))) (Kd.C_below HG15.out hb15) (Nat.le_refl _) hc15 (Nat.le_refl _) (by decide)).mono ?_
  rintro e W16 ⟨n, r, rfl, hp, hb⟩
  obtain ⟨rfl, rfl⟩ := least_chap hp
  have HG16 := Aside0.mk (Kd.C_below (Kd.C_below HG15.out hb15) hb)
  have HB16 := Aside0.mk ((HB15.out.trans (hb15.mono HB15.out.size)).trans (hb.mono (HB15.out.trans (hb15.mono HB15.out.size)).size))
  clear hb hp hc15 hb15
  go_wp2_with (fail)
  refine (S10.may_yes A 11 chap 9 8 W16 (HK.out.below HB16.out) HG16.out (Nat.le_refl _)).mono ?_
  rw [mf_9_8]
  rintro e W17 ⟨rfl, hb⟩
  have HG17 := Aside0.mk (Kd.C_below HG16.out hb)
  have HB17 := Aside0.mk (HB16.out.trans (hb.mono HB16.out.size))
  clear hb
  go_wp2_with (fail)
  refine (S10.may_yes A 11 chap 8 9 W17 (HK.out.below HB17.out) HG17.out (Nat.le_refl _)).mono ?_
  rw [mf_8_9]
  rintro e W18 ⟨rfl, hb⟩
  have HG18 := Aside0.mk (Kd.C_below HG17.out hb)
  have HB18 := Aside0.mk (HB17.out.trans (hb.mono HB17.out.size))
  clear hb
  go_wp2_with (fail)
  go_ret
  exact ⟨rfl, HB18.out⟩
end Go.Proofs.YtgppcpghpeenhaaDoor.R3

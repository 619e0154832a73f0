/- graph.may: may a node be? -/
import Derived.Test.YtgppcpghpeenhaaDoorProg
import Derived.Test.YtgppcpghpeenhaaDoorWWords
import Derived.Test.YtgppcpghpeenhaaDoorWLast
import Derived.Test.YtgppcpghpeenhaaDoorL4
import Derived.Maps.OwnSet
namespace Go.Proofs.YtgppcpghpeenhaaDoor.G1
open Go.RowKit Go.Proofs.YtgppcpghpeenhaaDoorW.PrintWords Go.Proofs.YtgppcpghpeenhaaDoorW.PrintLast Go.Proofs.YtgppcpghpeenhaaDoorW.PrintMore Go.Proofs.YtgppcpghpeenhaaDoor L1 L2 L3 L4
set_option linter.unusedVariables false
set_option linter.unusedSimpArgs false
abbrev GN := P.S33
theorem outs_yes (gb n : Nat) (A0 : Option Addr) (c0 : Nat) (A : Option Addr) (c : Nat) (l : List Int) (w : World) (h : w.cell? ⟨gb, 0, none⟩ = some (.slice A0 n c0)) (hr : Kd.C (Kd.int .i64) w A l.length l) (hc : l.length ≤ c) :
    Calls Tryd.prog 25 #[.slice A l.length c, .func (.func 38) #[] #[.pointer (some ⟨gb, 0, none⟩)]] w fun e w' => e = .returned (.bool (l.any (outP n))) ∧ w = w' := by
  refine (may1_contains gb A c l w (fun i W => W = w ∧ (l.take i).any (outP n) = false) (fun W => W = w ∧ l.any (outP n) = true) (fun i W hW => by rw [hW.1]; exact hr) hc (fun i W hi hW => ?_) ⟨rfl, rfl⟩).mono ?_
  · obtain ⟨rfl, ha⟩ := hW
    have hx : rd l (i : Int) = l[i] := by
      show l.getD i 0 = _
      rw [List.getD_eq_getElem?_getD, List.getElem?_eq_getElem hi]; rfl
    rw [hx]
    have hs : (l.take (i + 1)).any (outP n) = outP n l[i] := by
      rw [List.take_add_one, List.any_append, ha, Bool.false_or, List.getElem?_eq_getElem hi]
      simp
    refine (out_yes l[i] gb n A0 c0 W h).mono ?_
    rintro e w' ⟨rfl, rfl⟩
    cases ho : outP n l[i] with
    | true => exact .inl ⟨rfl, rfl, List.any_eq_true.2 ⟨l[i], List.getElem_mem hi, ho⟩⟩
    | false => exact .inr ⟨rfl, rfl, by rw [hs, ho]⟩
  · rintro e w' (⟨rfl, rfl, h1⟩ | ⟨rfl, rfl, h1⟩)
    · exact ⟨by rw [h1], rfl⟩
    · rw [List.take_length] at h1
      exact ⟨by rw [h1], rfl⟩
set_option maxRecDepth 100000 in
theorem may3_yes (s : ByteArray) (w : World) (hk : Keys w) :
    Calls Tryd.prog 45 #[.string s] w fun e w' => e = .returned (.bool (!isNameP s)) ∧ Below w.heap.size w w' := by
  have HK := Aside0.mk hk
  clear hk
  go_enter Tryd.func45, Tryd.ntmps45
  go_wp2_with (fail)
  refine (isName_yes s w HK.out).mono ?_
  rintro e w' ⟨rfl, hb⟩
  have HB := Aside0.mk hb
  clear hb
  go_wp2_with (fail)
  go_ret
  exact ⟨rfl, HB.out⟩
theorem names_yes (A : Option Addr) (c : Nat) (l : List ByteArray) (w : World) (hk : Keys w) (hr : Kd.C Kd.string w A l.length l) (hc : l.length ≤ c) :
    Calls Tryd.prog 44 #[.slice A l.length c, .func (.func 45) #[] #[]] w fun e w' => e = .returned (.bool (l.any (fun s => !isNameP s))) ∧ Below w.heap.size w w' := by
  refine (may3_contains A c l w (fun i W => Below w.heap.size w W ∧ (l.take i).any (fun s => !isNameP s) = false) (fun W => Below w.heap.size w W ∧ l.any (fun s => !isNameP s) = true) (fun i W hW => Kd.C_below hr hW.1) hc (fun i W hi hW => ?_) ⟨Below.refl _ _, rfl⟩).mono ?_
  · obtain ⟨hb, ha⟩ := hW
    have hx : rdOf ByteArray.empty l (i : Int) = l[i] := by
      show l.getD i _ = _
      rw [List.getD_eq_getElem?_getD, List.getElem?_eq_getElem hi]; rfl
    rw [hx]
    have hs : (l.take (i + 1)).any (fun s => !isNameP s) = !isNameP l[i] := by
      rw [List.take_add_one, List.any_append, ha, Bool.false_or, List.getElem?_eq_getElem hi]
      simp
    refine (may3_yes l[i] W (hk.below hb)).mono ?_
    rintro e w' ⟨rfl, hb2⟩
    have hb3 := hb.trans (hb2.mono hb.size)
    cases ho : isNameP l[i] with
    | false => exact .inl ⟨rfl, hb3, List.any_eq_true.2 ⟨l[i], List.getElem_mem hi, by simp [ho]⟩⟩
    | true => exact .inr ⟨rfl, hb3, by rw [hs, ho]; rfl⟩
  · rintro e w' (⟨rfl, hb, h1⟩ | ⟨rfl, hb, h1⟩)
    · exact ⟨by rw [h1], hb⟩
    · rw [List.take_length] at h1
      exact ⟨by rw [h1], hb⟩
def kindU (g : List GN) (k : Int) : Int := (g.getD k.toNat P.z33).f0
/-- What a node is by its kind. -/
def byKind (g : List GN) (x : GN) : Bool :=
  if x.f0 = 1 ∨ x.f0 = 2 ∨ x.f0 = 3 ∨ x.f0 = 4 then decide (x.f4.length = 0)
  else if x.f0 = 5 then decide (x.f4.length = 0) && (isNameP x.f2 || isKeyP x.f2)
  else if x.f0 = 7 then decide (x.f4.length = x.f3.length) && decide (x.f3.length ≤ 16) && decide (RiseP x.f3) && !(x.f3.any (fun s => !isNameP s))
  else if x.f0 = 8 then x.f4.all (fun k => decide (kindU g k ≠ 8)) && decide (2 ≤ x.f4.length) && decide x.f4.Nodup
  else if x.f0 = 9 then decide (0 ≤ x.f1) && decide (x.f1 < 16) && decide (x.f4.length = 1)
  else false
def mayP (g : List GN) (x : GN) : Bool :=
  !(x.f4.any (outP g.length)) && (decide (x.f1 = 0) || decide (x.f0 = 9)) && (decide (x.f2.toList = []) || decide (x.f0 = 5)) && (decide (x.f3.length = 0) || decide (x.f0 = 7)) && byKind g x
theorem zero3 (w : World) : (zeroValue 3).run Tryd.prog w = .ok (.int .i64 0) w := by kernel_rfl
theorem key3 : Maps.Keyed Tryd.prog 3 := Maps.int_keyed Tryd.underlying3
theorem wf64 (y : Int) (h0 : 0 ≤ y) (h1 : y ≤ 9223372036854775807) : (Lit.int .i64 y).wf = true := by
  have : wrap64 y = y := by unfold wrap64; omega
  rw [← this]
  exact wrap64_wf y
theorem size_step (D d : DataW Unit) (l : List Int) (i : Nat) (y : Int) (hy : l[i]? = some y) (T : Maps.Tidy D) (hk : WideAt.IsKeyLit (.int .i64 y)) (hh : ∀ x : Int, Maps.has D (.int .i64 x) = decide (x ∈ l.take i)) (hs : (Maps.size D = i ↔ (l.take i).Nodup) ∧ Maps.size D ≤ i) :
    (∀ x : Int, Maps.has (D.put (.int .i64 y) d) (.int .i64 x) = decide (x ∈ l.take (i + 1))) ∧ ((Maps.size (D.put (.int .i64 y) d) = i + 1 ↔ (l.take (i + 1)).Nodup) ∧ Maps.size (D.put (.int .i64 y) d) ≤ i + 1) := by
  have e : l.take (i + 1) = l.take i ++ [y] := by rw [List.take_add_one, hy]; rfl
  refine ⟨fun x => ?_, ?_⟩
  · rw [e]
    by_cases hx : x = y
    · rw [hx, Maps.has_put_same T.isMap hk]
      simp
    · rw [Maps.has_put_other (fun h => hx (by injection h)), hh x]
      simp [hx]
  · rw [Maps.size_put T, hh y, e, List.nodup_append]
    by_cases hm : y ∈ l.take i
    · rw [if_pos (by simpa using hm)]
      refine ⟨⟨fun h => ?_, fun h => ?_⟩, by omega⟩
      · have := hs.2; omega
      · exact absurd rfl (h.2.2 y hm y (by simp))
    · rw [if_neg (by simpa using hm)]
      refine ⟨⟨fun h => ⟨hs.1.1 (by omega), by simp, fun a ha b hb hab => ?_⟩, fun h => ?_⟩, by have := hs.2; omega⟩
      · simp at hb
        rw [hab, hb] at ha
        exact hm ha
      · have := hs.1.2 h.1; omega
set_option maxHeartbeats 16000000 in
set_option maxRecDepth 100000 in
theorem may_yes (A0 : Option Addr) (c0 : Nat) (g : List GN) (x : GN) (Ak : Option Addr) (ck : Nat) (Al : Option Addr) (cl : Nat) (w : World) (hK : Keys w) (hg : Kd.C P.k33 w A0 g.length g) (hgc : g.length ≤ c0)
    (hks : Kd.C Kd.string w Ak x.f3.length x.f3) (hkc : x.f3.length ≤ ck) (hl : Kd.C (Kd.int .i64) w Al x.f4.length x.f4) (hlc : x.f4.length ≤ cl) :
    Calls Tryd.prog 24 #[.slice A0 g.length c0, .agg #[.int .i64 x.f0, .int .i64 x.f1, .string x.f2, .slice Ak x.f3.length ck, .slice Al x.f4.length cl]] w fun e w' => e = .returned (.bool (mayP g x)) ∧ Below w.heap.size w w' := by
  obtain ⟨k, m, s, ks, l⟩ := x
  have HK := Aside0.mk hK
  have HG := Aside0.mk hg
  have HGc := Aside0.mk hgc
  have HKs := Aside0.mk (show Kd.C Kd.string w Ak ks.length ks from hks)
  have HKc := Aside0.mk (show ks.length ≤ ck from hkc)
  have HL := Aside0.mk (show Kd.C (Kd.int .i64) w Al l.length l from hl)
  have HLc := Aside0.mk (show l.length ≤ cl from hlc)
  have hmm := @run_makeMap Tryd.prog
  have hmf : ∀ (fn : Fn) (first cap : Array Value) (w : World), (Instr.makeFunc fn first cap).run Tryd.prog w = .ok (.func fn first cap) w := fun _ _ _ _ => rfl
  have HG1 := Aside0.mk (blk_alloc (heap_alloc_new w (.cells #[.slice A0 g.length c0] 23)) (.cells #[.int .i64 k, .int .i64 m, .string s, .slice Ak ks.length ck, .slice Al l.length cl] 33))
  have HG2 := Aside0.mk (heap_alloc_new (w.alloc (.cells #[.slice A0 g.length c0] 23)) (.cells #[.int .i64 k, .int .i64 m, .string s, .slice Ak ks.length ck, .slice Al l.length cl] 33))
  have HW0 := Aside0.mk (below_alloc (below_alloc (Below.refl w.heap.size w) (.cells #[.slice A0 g.length c0] 23)) (.cells #[.int .i64 k, .int .i64 m, .string s, .slice Ak ks.length ck, .slice Al l.length cl] 33))
  clear hK hg hgc hks hkc hl hlc
  show Calls Tryd.prog 24 #[.slice A0 g.length c0, .agg #[.int .i64 k, .int .i64 m, .string s, .slice Ak ks.length ck, .slice Al l.length cl]] w _
  go_enter Tryd.func24, Tryd.ntmps24
  have q1 : ((w.alloc (.cells #[.slice A0 g.length c0] 23)).alloc (.cells #[.int .i64 k, .int .i64 m, .string s, .slice Ak ks.length ck, .slice Al l.length cl] 33)).cell? ⟨(w.alloc (.cells #[.slice A0 g.length c0] 23)).heap.size, 0, none⟩ = some (.int .i64 k) := (blk_cell HG2.out 0).trans rfl
  have q2 : ((w.alloc (.cells #[.slice A0 g.length c0] 23)).alloc (.cells #[.int .i64 k, .int .i64 m, .string s, .slice Ak ks.length ck, .slice Al l.length cl] 33)).cell? ⟨(w.alloc (.cells #[.slice A0 g.length c0] 23)).heap.size, 1, none⟩ = some (.int .i64 m) := (blk_cell HG2.out 1).trans rfl
  have q3 : ((w.alloc (.cells #[.slice A0 g.length c0] 23)).alloc (.cells #[.int .i64 k, .int .i64 m, .string s, .slice Ak ks.length ck, .slice Al l.length cl] 33)).cell? ⟨(w.alloc (.cells #[.slice A0 g.length c0] 23)).heap.size, 2, none⟩ = some (.string s) := (blk_cell HG2.out 2).trans rfl
  have q4 : ((w.alloc (.cells #[.slice A0 g.length c0] 23)).alloc (.cells #[.int .i64 k, .int .i64 m, .string s, .slice Ak ks.length ck, .slice Al l.length cl] 33)).cell? ⟨(w.alloc (.cells #[.slice A0 g.length c0] 23)).heap.size, 3, none⟩ = some (.slice Ak ks.length ck) := (blk_cell HG2.out 3).trans rfl
  have q5 : ((w.alloc (.cells #[.slice A0 g.length c0] 23)).alloc (.cells #[.int .i64 k, .int .i64 m, .string s, .slice Ak ks.length ck, .slice Al l.length cl] 33)).cell? ⟨(w.alloc (.cells #[.slice A0 g.length c0] 23)).heap.size, 4, none⟩ = some (.slice Al l.length cl) := (blk_cell HG2.out 4).trans rfl
  go_wp2_with (fail)
  generalize (w.alloc (.cells #[.slice A0 g.length c0] 23)).alloc (.cells #[.int .i64 k, .int .i64 m, .string s, .slice Ak ks.length ck, .slice Al l.length cl] 33) = W2 at HG1 HG2 HW0 q1 q2 q3 q4 q5 ⊢
  rw [World.size_alloc] at q1 q2 q3 q4 q5
  have p0 : W2.cell? ⟨w.heap.size, 0, none⟩ = some (.slice A0 g.length c0) := (blk_cell HG1.out 0).trans rfl
  have HP0 := Aside0.mk p0
  have HW := HW0
  have r5m : (W2.alloc (.map #[] 0)).cell? ⟨w.heap.size + 1, 4, none⟩ = some (.slice Al l.length cl) := pw_cell_below (below_alloc (Below.refl W2.heap.size W2) (.map #[] 0)) q5
  clear p0
  refine (outs_yes w.heap.size g.length A0 c0 Al cl l W2 HP0.out (Kd.C_below HL.out HW.out) HLc.out).mono ?_
  cases ho : l.any (outP g.length) with
  | true =>
    rintro e w' ⟨rfl, rfl⟩
    have HF := Aside0.mk (show mayP g ⟨k, m, s, ks, l⟩ = false by unfold mayP; simp only [ho]; rfl)
    go_wp2_with (fail)
    go_ret
    exact ⟨by rw [HF.out]; rfl, HW.out⟩
  | false =>
    rintro e w' ⟨rfl, rfl⟩
    have hs1 : s.toList.isEmpty = true ∨ s.toList.isEmpty = false := by cases s.toList.isEmpty <;> simp
    have hs2 : s.toList.isEmpty = true → s.toList = [] := fun h => List.isEmpty_iff.1 h
    have hs3 : s.toList.isEmpty = false → ¬ s.toList = [] := fun h e => by rw [e] at h; simp at h
    by_cases hE1 : m ≠ 0 ∧ k ≠ 9
    · obtain ⟨hm, hk9⟩ := hE1
      have HF := Aside0.mk (show mayP g ⟨k, m, s, ks, l⟩ = false by unfold mayP; simp [hm, hk9])
      clear hs1 hs2 hs3
      go_wp2_with (fail)
      go_ret
      exact ⟨by rw [HF.out]; rfl, HW.out⟩
    · skip
      by_cases hm : m = 0
      · subst hm
        rcases hs1 with hs | hs
        · skip
          by_cases hk1 : 0 < ks.length
          · by_cases hk : k = 7
            · skip
              have HFa := Aside0.mk (show ((0 : Int) = 0) ∧ (s.toList = []) ∧ (¬ ks.length = 0 ∧ k = 7) from ⟨rfl, hs2 hs, ⟨by omega, hk⟩⟩)
              clear hs2 hs3
              subst hk
              go_wp2_with (fail)
              have hk7 : (7 : Int) = 7 := rfl
              refine (sorted_yes Ak ck ks _ (Kd.C_below HKs.out HW.out) HKc.out).mono ?_
              rintro e wn ⟨rfl, hb⟩
              have HWn := Aside0.mk (HW.out.trans (hb.mono HW.out.size))
              have r4 := pw_cell_below hb q4
              have r5 := pw_cell_below hb q5
              clear hb
              by_cases hle : l.length = ks.length
              · have HLe := Aside0.mk hle
                have hle1 : ((l.length : Int) == (ks.length : Int)) = true := by simp [hle]
                by_cases h16 : ks.length ≤ 16
                · by_cases hri : RiseP ks
                  · have hrd : decide (RiseP ks) = true := decide_eq_true hri
                    have HRi := Aside0.mk hri
                    have H16 := Aside0.mk h16
                    clear hle hri
                    go_wp2_with (fail)
                    refine (names_yes Ak ck ks wn (HK.out.below HWn.out) (Kd.C_below HKs.out HWn.out) HKc.out).mono ?_
                    rintro e wn2 ⟨rfl, hb⟩
                    have HWo := Aside0.mk (HWn.out.trans (hb.mono HWn.out.size))
                    clear hb
                    have HF := Aside0.mk (show mayP g ⟨7, 0, s, ks, l⟩ = !(ks.any (fun s => !isNameP s)) by unfold mayP byKind; simp only [HFa.out, ho, hk7]; simp [HLe.out, H16.out, HRi.out, HFa.out])
                    go_wp2_with (fail)
                    go_ret
                    exact ⟨by rw [HF.out]; rfl, HWo.out⟩
                  · have hrd : decide (RiseP ks) = false := decide_eq_false hri
                    have HF := Aside0.mk (show mayP g ⟨7, 0, s, ks, l⟩ = false by unfold mayP byKind; dsimp only; rw [if_neg (by omega), if_neg (by omega), if_pos hk7, decide_eq_false hri]; simp)
                    clear hle hri
                    go_wp2_with (fail)
                    go_ret
                    exact ⟨by rw [HF.out]; rfl, HWn.out⟩
                · have HF := Aside0.mk (show mayP g ⟨7, 0, s, ks, l⟩ = false by unfold mayP byKind; dsimp only; rw [if_neg (by omega), if_neg (by omega), if_pos hk7, decide_eq_false h16]; simp)
                  clear hle
                  go_wp2_with (fail)
                  go_ret
                  exact ⟨by rw [HF.out]; rfl, HWn.out⟩
              · have HF := Aside0.mk (show mayP g ⟨7, 0, s, ks, l⟩ = false by unfold mayP byKind; dsimp only; rw [if_neg (by omega), if_neg (by omega), if_pos hk7, decide_eq_false hle]; simp)
                have hle1 : ((l.length : Int) == (ks.length : Int)) = false := by simp; omega
                clear hle
                go_wp2_with (fail)
                go_ret
                exact ⟨by rw [HF.out]; rfl, HWn.out⟩
            · have HF := Aside0.mk (show mayP g ⟨k, 0, s, ks, l⟩ = false by unfold mayP; simp [hk, show ¬ ks = [] by rintro rfl; simp at hk1])
              clear hs2 hs3
              go_wp2_with (fail)
              go_ret
              exact ⟨by rw [HF.out]; rfl, HW.out⟩
          · skip
            have HFa := Aside0.mk (show ((0 : Int) = 0) ∧ (s.toList = []) ∧ (ks.length = 0) from ⟨rfl, hs2 hs, by omega⟩)
            clear hs2 hs3
            go_wp2_with (fail)
            · have hk1 : k = 1 := eq_of_beq (show (k == 1) = true by assumption)
              go_ret
              refine ⟨?_, HW.out⟩
              show Ending.returned (Value.bool _) = Ending.returned (Value.bool _)
              congr 2
              unfold mayP byKind
              simp [ho, HFa.out, hk1]
              all_goals first | done | (by_cases h_ : l.length = 1 <;> simp [h_] <;> omega) | (cases l <;> simp <;> omega)
            · have hk2 : k = 2 := eq_of_beq (show (k == 2) = true by assumption)
              go_ret
              refine ⟨?_, HW.out⟩
              show Ending.returned (Value.bool _) = Ending.returned (Value.bool _)
              congr 2
              unfold mayP byKind
              simp [ho, HFa.out, hk2]
              all_goals first | done | (by_cases h_ : l.length = 1 <;> simp [h_] <;> omega) | (cases l <;> simp <;> omega)
            · have hk3 : k = 3 := eq_of_beq (show (k == 3) = true by assumption)
              go_ret
              refine ⟨?_, HW.out⟩
              show Ending.returned (Value.bool _) = Ending.returned (Value.bool _)
              congr 2
              unfold mayP byKind
              simp [ho, HFa.out, hk3]
              all_goals first | done | (by_cases h_ : l.length = 1 <;> simp [h_] <;> omega) | (cases l <;> simp <;> omega)
            · have hk4 : k = 4 := eq_of_beq (show (k == 4) = true by assumption)
              go_ret
              refine ⟨?_, HW.out⟩
              show Ending.returned (Value.bool _) = Ending.returned (Value.bool _)
              congr 2
              unfold mayP byKind
              simp [ho, HFa.out, hk4]
              all_goals first | done | (by_cases h_ : l.length = 1 <;> simp [h_] <;> omega) | (cases l <;> simp <;> omega)
            · have hk5 : k = 5 := eq_of_beq (show (k == 5) = true by assumption)
              have hll : l.length = 0 := List.length_eq_zero_iff.2 (by assumption)
              have HLl := Aside0.mk hll
              refine (isName_yes s _ (HK.out.below HW.out)).mono ?_
              cases hn : isNameP s with
              | true =>
                have HF := Aside0.mk (show mayP g ⟨k, 0, s, ks, l⟩ = true by unfold mayP byKind; simp [ho, HFa.out, hk5, HLl.out, hn])
                rintro e wn ⟨rfl, hb⟩
                have HWn := Aside0.mk (HW.out.trans (hb.mono HW.out.size))
                have r2 := pw_cell_below hb q3
                clear hb
                go_wp2_with (fail)
                go_ret
                exact ⟨by rw [HF.out]; rfl, HWn.out⟩
              | false =>
                rintro e wn ⟨rfl, hb⟩
                have HWn := Aside0.mk (HW.out.trans (hb.mono HW.out.size))
                have r2 := pw_cell_below hb q3
                clear hb
                have HNm := Aside0.mk hn
                clear hn
                go_wp2_with (fail)
                refine (isKey_yes s wn (HK.out.below HWn.out)).mono ?_
                rintro e wn2 ⟨rfl, rfl⟩
                have HF := Aside0.mk (show mayP g ⟨k, 0, s, ks, l⟩ = isKeyP s by unfold mayP byKind; simp [ho, HFa.out, hk5, HLl.out, HNm.out])
                go_wp2_with (fail)
                go_ret
                exact ⟨by rw [HF.out]; rfl, HWn.out⟩
            · have hk5 : k = 5 := eq_of_beq (show (k == 5) = true by assumption)
              have hll : ¬ l = [] := by assumption
              go_ret
              refine ⟨?_, HW.out⟩
              show Ending.returned (Value.bool _) = Ending.returned (Value.bool _)
              congr 2
              unfold mayP byKind
              simp [ho, HFa.out, hk5, hll]
              all_goals first | done | (by_cases h_ : l.length = 1 <;> simp [h_] <;> omega) | (cases l <;> simp <;> omega)
            · have hk7 : k = 7 := eq_of_beq (show (k == 7) = true by assumption)
              refine (sorted_yes Ak ck ks _ (Kd.C_below HKs.out HW.out) HKc.out).mono ?_
              rintro e wn ⟨rfl, hb⟩
              have HWn := Aside0.mk (HW.out.trans (hb.mono HW.out.size))
              have r4 := pw_cell_below hb q4
              have r5 := pw_cell_below hb q5
              clear hb
              by_cases hle : l.length = ks.length
              · have HLe := Aside0.mk hle
                have hle1 : ((l.length : Int) == (ks.length : Int)) = true := by simp [hle]
                by_cases h16 : ks.length ≤ 16
                · by_cases hri : RiseP ks
                  · have hrd : decide (RiseP ks) = true := decide_eq_true hri
                    have HRi := Aside0.mk hri
                    have H16 := Aside0.mk h16
                    clear hle hri
                    go_wp2_with (fail)
                    refine (names_yes Ak ck ks wn (HK.out.below HWn.out) (Kd.C_below HKs.out HWn.out) HKc.out).mono ?_
                    rintro e wn2 ⟨rfl, hb⟩
                    have HWo := Aside0.mk (HWn.out.trans (hb.mono HWn.out.size))
                    clear hb
                    have HF := Aside0.mk (show mayP g ⟨k, 0, s, ks, l⟩ = !(ks.any (fun s => !isNameP s)) by unfold mayP byKind; simp only [HFa.out, ho, hk7]; simp [HLe.out, H16.out, HRi.out, HFa.out])
                    go_wp2_with (fail)
                    go_ret
                    exact ⟨by rw [HF.out]; rfl, HWo.out⟩
                  · have hrd : decide (RiseP ks) = false := decide_eq_false hri
                    have HF := Aside0.mk (show mayP g ⟨k, 0, s, ks, l⟩ = false by unfold mayP byKind; dsimp only; rw [if_neg (by omega), if_neg (by omega), if_pos hk7, decide_eq_false hri]; simp)
                    clear hle hri
                    go_wp2_with (fail)
                    go_ret
                    exact ⟨by rw [HF.out]; rfl, HWn.out⟩
                · exfalso; omega
              · have HF := Aside0.mk (show mayP g ⟨k, 0, s, ks, l⟩ = false by unfold mayP byKind; dsimp only; rw [if_neg (by omega), if_neg (by omega), if_pos hk7, decide_eq_false hle]; simp)
                have hle1 : ((l.length : Int) == (ks.length : Int)) = false := by simp; omega
                clear hle
                go_wp2_with (fail)
                go_ret
                exact ⟨by rw [HF.out]; rfl, HWn.out⟩
            · have hk8 : k = 8 := eq_of_beq (show (k == 8) = true by assumption)
              rw [show (k == 1) = false by assumption, show (k == 2) = false by assumption, show (k == 3) = false by assumption, show (k == 4) = false by assumption, show (k == 5) = false by assumption, show (k == 7) = false by assumption, show (k == 8) = true by assumption]
              have HOo := Aside0.mk ho
              have HK8 := Aside0.mk hk8
              have HLn := Aside0.mk HL.out.2.1
              have HQ5 := Aside0.mk q5
              clear q1 q3 q4 q5 r5m ho hk8
              go_loopw [106] (fun v106 wr => ∃ (i : Nat) (D : DataW Unit), i ≤ l.length ∧ v106 = .int .i64 i ∧ Aside0 (wr.ownsMap Tryd.prog 3 (plainElem Tryd.prog 3) W2.heap.size i D) ∧ Aside0 (∀ x : Int, Maps.has D (.int .i64 x) = decide (x ∈ l.take i)) ∧ Aside0 ((Maps.size D = i ↔ (l.take i).Nodup) ∧ Maps.size D ≤ i) ∧ Aside0 (∀ x ∈ l.take i, kindU g x ≠ 8) ∧ Aside0 (Below W2.heap.size W2 wr)) (fun v106 _ => l.length + 1 - (intOf v106).toNat)
              case atStart => exact ⟨0, .map [], by omega, rfl, ⟨World.ownsMap_made _ _ _ _⟩, ⟨fun x => by simp [Maps.has_eq]⟩, ⟨by simp [Maps.size_eq], by simp [Maps.size_eq]⟩, ⟨fun x hx => by simp at hx⟩, ⟨below_alloc (Below.refl _ _) _⟩⟩
              case round =>
                obtain ⟨i, D, hi, rfl, HOw, HHas, HSz, HNo, HBr⟩ := hrel
                have HWr := Aside0.mk (HW.out.trans (HBr.out.mono HW.out.size))
                by_cases hlt : i < l.length
                · obtain ⟨ad, ea, hx⟩ := Kd.at_int (Kd.C_below HL.out HWr.out) (i : Int) (by omega) (by omega)
                  cases ea
                  have hy0 : l[i]? = some (rd l (i : Int)) := by
                    show _ = some (l.getD i 0)
                    rw [List.getD_eq_getElem?_getD, List.getElem?_eq_getElem hlt]; rfl
                  obtain ⟨y, hy⟩ : ∃ y, y = rd l (i : Int) := ⟨_, rfl⟩
                  rw [← hy] at hx hy0
                  rw [Int.toNat_natCast] at hx
                  have hyr : outP g.length y = false := by
                    rw [List.any_eq_false] at HOo
                    have := HOo.out y (List.mem_of_getElem? hy0)
                    simpa using this
                  have hyr2 : 0 ≤ y ∧ y < (g.length : Int) := by
                    unfold outP at hyr
                    simp at hyr
                    omega
                  have hgl := HG.out.2.1
                  have hkey : keyOf Tryd.prog 3 (.int .i64 y) = some (.int .i64 y) := Maps.keyOf_int_mk Tryd.underlying3 (wf64 y hyr2.1 (by omega))
                  obtain ⟨adg, _, _, _, _, eg, hg0, _⟩ := P.at_T33 (Kd.C_below HG.out HW.out) y hyr2.1 hyr2.2
                  cases eg
                  have hg1 : W2.cell? (adg.add (y.toNat * 5)) = some (.int .i64 (kindU g y)) := hg0
                  obtain ⟨yk, hyk⟩ : ∃ yk, yk = kindU g y := ⟨_, rfl⟩
                  rw [← hyk] at hg1
                  have HYk := Aside0.mk hyk
                  have HY0 := Aside0.mk hy0
                  have HGc1 := Aside0.mk hg1
                  have e1 := eq_true hyr2.1
                  have e2 := eq_true hyr2.2
                  have HKey := Aside0.mk hkey
                  have hlm : i < maxLen := by have := HLn.out; unfold maxLen; omega
                  have HLm := Aside0.mk hlm
                  clear hy hyr hyr2 hgl hg0 hg1 hyk hy0 hlm
                  by_cases h8 : yk = 8
                  · subst h8
                    have HF := Aside0.mk (show mayP g ⟨k, 0, s, ks, l⟩ = false by
                      unfold mayP byKind
                      rw [show l.all (fun k => decide (kindU g k ≠ 8)) = false from List.all_eq_false.2 ⟨y, List.mem_of_getElem? HY0.out, by rw [← HYk.out]; simp⟩]
                      simp [HK8.out])
                    go_wp2_with (first | (at_lookup; refine wpList_lookup_own_int _ rfl _ _ 79 rfl 3 3 .i64 key3 Tryd.underlying79 Tryd.underlying3 (zero3 _) W2.heap.size i D rfl HOw.out _ _ rfl HKey.out ?_; intro c hat hwc) | (at_mapUpdate; refine wpList_mapUpdate_own _ rfl _ _ _ 79 rfl 3 3 key3 Tryd.underlying79 _ W2.heap.size i D rfl HOw.out HLm.out _ _ _ rfl rfl HKey.out _ [] (plainElem_int Tryd.underlying3 (wrap64_wf _)) ?_; intro w1 hown1 hgrow1; have HB1 := Aside0.mk (HBr.out.grown hgrow1 HBr.out.size (fun j hj => by cases hj; exact Nat.le_refl _)); have z1 := pw_cell_below HB1.out HGc1.out; have z0 := pw_cell_below HB1.out HP0.out))
                    go_ret
                    exact ⟨by rw [HF.out]; rfl, HW.out.trans (HB1.out.mono HW.out.size)⟩
                  · have h8b : (yk == 8) = false := by simp [h8]
                    have HN8 := Aside0.mk h8
                    clear h8
                    go_wp2_with (first | (at_lookup; refine wpList_lookup_own_int _ rfl _ _ 79 rfl 3 3 .i64 key3 Tryd.underlying79 Tryd.underlying3 (zero3 _) W2.heap.size i D rfl HOw.out _ _ rfl HKey.out ?_; intro c hat hwc) | (at_mapUpdate; refine wpList_mapUpdate_own _ rfl _ _ _ 79 rfl 3 3 key3 Tryd.underlying79 _ W2.heap.size i D rfl HOw.out HLm.out _ _ _ rfl rfl HKey.out _ [] (plainElem_int Tryd.underlying3 (wrap64_wf _)) ?_; intro w1 hown1 hgrow1; have HB1 := Aside0.mk (HBr.out.grown hgrow1 HBr.out.size (fun j hj => by cases hj; exact Nat.le_refl _)); have z1 := pw_cell_below HB1.out HGc1.out; have z0 := pw_cell_below HB1.out HP0.out; have HO1 := Aside0.mk hown1; clear hown1))
                    have HSt := fun d => (size_step D d l i y HY0.out (HOw.out.tidy key3) (key3.key HKey.out) HHas.out HSz.out)
                    have hw : wrap64 ((i : Int) + 1) = ((i + 1 : Nat) : Int) := by have := HLn.out; unfold wrap64; omega
                    go_roundw
                    case rel => exact ⟨i + 1, _, by omega, by rw [hw], HO1, ⟨(HSt _).1⟩, ⟨(HSt _).2⟩, ⟨fun x hx => by
                      rw [List.take_add_one, HY0.out] at hx
                      rcases List.mem_append.1 hx with h | h
                      · exact HNo.out x h
                      · simp at h
                        rw [h, ← HYk.out]
                        exact HN8.out⟩, HB1⟩
                    case measure => rw [hw]; simp only [intOf]; omega
                · obtain rfl : i = l.length := by omega
                  have HAll : Aside0 (l.all (fun k => decide (kindU g k ≠ 8)) = true) := ⟨List.all_eq_true.2 (fun x hx => by have := HNo.out x (by rw [List.take_length]; exact hx); simp [this])⟩
                  have HNd : Aside0 (Maps.size D = l.length ↔ l.Nodup) := ⟨by have := HSz.out.1; rwa [List.take_length] at this⟩
                  have q5 := pw_cell_below HBr.out HQ5.out
                  by_cases h2 : 2 ≤ l.length
                  · have HF := Aside0.mk (show mayP g ⟨k, 0, s, ks, l⟩ = decide (Maps.size D = l.length) by
                      unfold mayP byKind
                      simp only [HOo.out, HAll.out, HK8.out, HFa.out]
                      simp [HNd.out, h2])
                    have hlen := World.ownsMap.len (t := 79) (e := 3) HOw.out Tryd.underlying79 3
                    go_wp2_with (fail)
                    go_ret
                    refine ⟨?_, HWr.out⟩
                    rw [HF.out]
                    show Ending.returned (Value.bool _) = Ending.returned (Value.bool _)
                    congr 2
                    by_cases hq : Maps.size D = l.length <;> simp [hq] <;> omega
                  · have HF := Aside0.mk (show mayP g ⟨k, 0, s, ks, l⟩ = false by unfold mayP byKind; dsimp only; rw [if_neg (by have := HK8.out; omega), if_neg (by have := HK8.out; omega), if_neg (by have := HK8.out; omega), if_pos HK8.out, decide_eq_false h2]; simp)
                    go_wp2_with (fail)
                    go_ret
                    exact ⟨by rw [HF.out]; rfl, HWr.out⟩
            · have hk9 : k = 9 := eq_of_beq (show (k == 9) = true by assumption)
              go_ret
              refine ⟨?_, HW.out⟩
              show Ending.returned (Value.bool _) = Ending.returned (Value.bool _)
              congr 2
              unfold mayP byKind
              simp [ho, HFa.out, hk9]
              all_goals first | done | (by_cases h_ : l.length = 1 <;> simp [h_] <;> omega) | (cases l <;> simp <;> omega)
            · have e1 : ¬ k = 1 := ne_of_beq_false (show (k == 1) = false by assumption)
              have e2 : ¬ k = 2 := ne_of_beq_false (show (k == 2) = false by assumption)
              have e3 : ¬ k = 3 := ne_of_beq_false (show (k == 3) = false by assumption)
              have e4 : ¬ k = 4 := ne_of_beq_false (show (k == 4) = false by assumption)
              have e5 : ¬ k = 5 := ne_of_beq_false (show (k == 5) = false by assumption)
              have e7 : ¬ k = 7 := ne_of_beq_false (show (k == 7) = false by assumption)
              have e8 : ¬ k = 8 := ne_of_beq_false (show (k == 8) = false by assumption)
              have e9 : ¬ k = 9 := ne_of_beq_false (show (k == 9) = false by assumption)
              go_ret
              exact ⟨by rw [show mayP g ⟨k, 0, s, ks, l⟩ = false by unfold mayP byKind; simp [e1, e2, e3, e4, e5, e7, e8, e9]]; rfl, HW.out⟩
        · by_cases hk : k = 5
          · skip
            by_cases hk1 : 0 < ks.length
            · have HF := Aside0.mk (show mayP g ⟨k, 0, s, ks, l⟩ = false by unfold mayP; simp [hk, show ¬ ks = [] by rintro rfl; simp at hk1])
              clear hs2 hs3
              go_wp2_with (fail)
              go_ret
              exact ⟨by rw [HF.out]; rfl, HW.out⟩
            · skip
              have HFa := Aside0.mk (show ((0 : Int) = 0) ∧ (¬ s.toList = [] ∧ k = 5) ∧ (ks.length = 0) from ⟨rfl, ⟨hs3 hs, hk⟩, by omega⟩)
              clear hs2 hs3
              subst hk
              go_wp2_with (fail)
              · have hk5 : (5 : Int) = 5 := rfl
                have hll : l.length = 0 := List.length_eq_zero_iff.2 (by assumption)
                have HLl := Aside0.mk hll
                refine (isName_yes s _ (HK.out.below HW.out)).mono ?_
                cases hn : isNameP s with
                | true =>
                  have HF := Aside0.mk (show mayP g ⟨5, 0, s, ks, l⟩ = true by unfold mayP byKind; simp [ho, HFa.out, hk5, HLl.out, hn])
                  rintro e wn ⟨rfl, hb⟩
                  have HWn := Aside0.mk (HW.out.trans (hb.mono HW.out.size))
                  have r2 := pw_cell_below hb q3
                  clear hb
                  go_wp2_with (fail)
                  go_ret
                  exact ⟨by rw [HF.out]; rfl, HWn.out⟩
                | false =>
                  rintro e wn ⟨rfl, hb⟩
                  have HWn := Aside0.mk (HW.out.trans (hb.mono HW.out.size))
                  have r2 := pw_cell_below hb q3
                  clear hb
                  have HNm := Aside0.mk hn
                  clear hn
                  go_wp2_with (fail)
                  refine (isKey_yes s wn (HK.out.below HWn.out)).mono ?_
                  rintro e wn2 ⟨rfl, rfl⟩
                  have HF := Aside0.mk (show mayP g ⟨5, 0, s, ks, l⟩ = isKeyP s by unfold mayP byKind; simp [ho, HFa.out, hk5, HLl.out, HNm.out])
                  go_wp2_with (fail)
                  go_ret
                  exact ⟨by rw [HF.out]; rfl, HWn.out⟩
              · have hll : ¬ l = [] := by assumption
                go_ret
                refine ⟨?_, HW.out⟩
                show Ending.returned (Value.bool _) = Ending.returned (Value.bool _)
                congr 2
                unfold mayP byKind
                simp [ho, HFa.out, hll]
                all_goals first | done | (by_cases h_ : l.length = 1 <;> simp [h_] <;> omega) | (cases l <;> simp <;> omega)
          · have HF := Aside0.mk (show mayP g ⟨k, 0, s, ks, l⟩ = false by unfold mayP; simp [hs3 hs, hk])
            clear hs2 hs3
            go_wp2_with (fail)
            go_ret
            exact ⟨by rw [HF.out]; rfl, HW.out⟩
      · have hk : k = 9 := by
          rcases Classical.em (k = 9) with h | h
          · exact h
          · exact absurd ⟨hm, h⟩ hE1
        skip
        rcases hs1 with hs | hs
        · skip
          by_cases hk1 : 0 < ks.length
          · have HF := Aside0.mk (show mayP g ⟨k, m, s, ks, l⟩ = false by unfold mayP; simp [hk, show ¬ ks = [] by rintro rfl; simp at hk1])
            clear hs2 hs3
            go_wp2_with (fail)
            go_ret
            exact ⟨by rw [HF.out]; rfl, HW.out⟩
          · skip
            have HFa := Aside0.mk (show (¬ m = 0 ∧ k = 9) ∧ (s.toList = []) ∧ (ks.length = 0) from ⟨⟨hm, hk⟩, hs2 hs, by omega⟩)
            clear hs2 hs3
            subst hk
            by_cases hm0 : 0 ≤ m
            · by_cases hm1 : m < 16
              · go_wp2_with (fail)
                · skip
                  go_ret
                  refine ⟨?_, HW.out⟩
                  show Ending.returned (Value.bool _) = Ending.returned (Value.bool _)
                  congr 2
                  unfold mayP byKind
                  simp [ho, HFa.out, hm0, hm1]
                  all_goals first | done | (by_cases h_ : l.length = 1 <;> simp [h_] <;> omega) | (cases l <;> simp <;> omega)
              · go_wp2_with (fail)
                · skip
                  go_ret
                  refine ⟨?_, HW.out⟩
                  show Ending.returned (Value.bool _) = Ending.returned (Value.bool _)
                  congr 2
                  unfold mayP byKind
                  simp [ho, HFa.out, hm0, hm1]
                  all_goals first | done | (by_cases h_ : l.length = 1 <;> simp [h_] <;> omega) | (cases l <;> simp <;> omega)
            · go_wp2_with (fail)
              · skip
                go_ret
                refine ⟨?_, HW.out⟩
                show Ending.returned (Value.bool _) = Ending.returned (Value.bool _)
                congr 2
                unfold mayP byKind
                simp [ho, HFa.out, hm0]
                all_goals first | done | (by_cases h_ : l.length = 1 <;> simp [h_] <;> omega) | (cases l <;> simp <;> omega)
        · have HF := Aside0.mk (show mayP g ⟨k, m, s, ks, l⟩ = false by unfold mayP; simp [hs3 hs, hk])
          clear hs2 hs3
          go_wp2_with (fail)
          go_ret
          exact ⟨by rw [HF.out]; rfl, HW.out⟩
end Go.Proofs.YtgppcpghpeenhaaDoor.G1

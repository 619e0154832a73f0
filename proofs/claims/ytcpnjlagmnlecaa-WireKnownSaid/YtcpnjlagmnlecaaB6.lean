/- WireWrites walked. -/
import Derived.Test.YtcpnjlagmnlecaaProg
import Derived.Below
import Derived.Deep.Draws
import Derived.Deep.AppendLies
import Derived.Maps.AppendAt
import Derived.OwnWalk
import Derived.Laws.BytesArg
import Derived.Laws.MakeOwn
import Derived.Laws.OwnMore
import Derived.Deep.OwnRows
import Derived.Tactics
import Derived.Lib.ConvBytes
import Derived.Laws.Slices
import Derived.WalkKit
import Derived.KernelRfl
import Derived.RowKit3
import Derived.Deep.LoopGhost
import Derived.Deep.QuietTactic
import Derived.BigQuiet
import Derived.WideLaws
import Derived.Deep.DeepCutAuto
import Derived.Deep.CutBlock
import Derived.Deep.RegionHeld3
import Derived.Laws.Rows
import Derived.Lib.AppendStr
import Derived.ArgAppend
import Derived.Laws.IdiomCopy
import Derived.OrdersHeld
import Derived.Laws.BitsLemmas
import Derived.RowKit
import Derived.WalkSpells
import Derived.Laws.CopyOwn
import Derived.Test.YtcpnjlagmnlecaaWWords
import Derived.Test.YtcpnjlagmnlecaaWLast
import Derived.Test.YtcpnjlagmnlecaaWMore
import Derived.Test.YtcpnjlagmnlecaaB2
import Derived.Test.YtcpnjlagmnlecaaB5
import Derived.Test.YtcpnjlagmnlecaaA6
import Derived.Test.YtcpnjlagmnlecaaWTab
import Derived.Test.YtcpnjlagmnlecaaPureWireSums
namespace Go.Proofs.Ytcpnjlagmnlecaa.B6
open Go.RowKit Go.Proofs.YtcpnjlagmnlecaaW.PrintWords Go.Proofs.YtcpnjlagmnlecaaW.PrintLast Go.Proofs.YtcpnjlagmnlecaaW.PrintMore Go.Proofs.Ytcpnjlagmnlecaa Go.Proofs.Ytcpnjlagmnlecaa.A2 Go.Proofs.Ytcpnjlagmnlecaa.A3 Go.Proofs.Ytcpnjlagmnlecaa.A8 Go.Proofs.Ytcpnjlagmnlecaa.A9 Go.Proofs.Ytcpnjlagmnlecaa.A10 Go.Proofs.Ytcpnjlagmnlecaa.B2 Go.Proofs.Ytcpnjlagmnlecaa.B5
set_option linter.unusedVariables false
set_option linter.unusedSimpArgs false
def wrl.T1 : Bool × List (List Nat × List Nat) := (true, [([], []), ([0], [0]), ([], []), ([2], [2]), ([3], [3]), ([4], [4]), ([1, 5], [1, 5]), ([], []), ([7], [7]), ([], []), ([9], [9]), ([10], [10]), ([11], [11]), ([8, 12], [8, 12]), ([], []), ([14], [14]), ([15], [15]), ([0, 1, 2, 3, 4, 5, 6, 7, 8, 9, 10, 14, 15], []), ([17, 6, 16, 0, 1, 2, 3, 4, 5, 6, 7, 8, 9, 10, 14, 15], [6, 17]), ([0, 1, 2, 3, 4, 5, 6, 7, 8, 9, 10, 11, 12, 13, 14, 15, 17, 18], []), ([19, 13, 18, 0, 1, 2, 3, 4, 5, 6, 7, 8, 9, 10, 11, 12, 13, 14, 15, 17, 18], [13, 19]), ([0, 1, 2, 3, 4, 5, 6, 7, 8, 9, 10, 11, 12, 13, 14, 15, 16, 17, 18, 19, 20], []), ([21, 16, 20, 0, 1, 2, 3, 4, 5, 6, 7, 8, 9, 10, 11, 12, 13, 14, 15, 16, 17, 18, 19, 20], [16, 21])])
def wrl.B1 : List Nat := [0, 1, 0, 4, 12, 28, 63, 0, 128, 0, 512, 1536, 3584, 8064, 0, 16384, 49152, 51199, 247807, 524287, 1048575, 2097151, 4194303]
theorem wrl.tab1 : rtab .any (opsOf Try.f5 1) = wrl.T1 := by kernel_rfl
theorem wrl.bits1 : waitsOk wrl.T1.2 wrl.B1 = true := by kernel_rfl
theorem C_blk {α : Type} {d : Kd α} {w w1 : World} {A : Option Addr} {l : List α} (hK : ∀ x cs, d.K w x cs → d.K w1 x cs) (h : Kd.C d w A l.length l) (hb : ∀ ad, A = some ad → w1.heap[ad.block]? = w.heap[ad.block]?) : Kd.C d w1 A l.length l := by
  obtain ⟨h1, h2, h3⟩ := h
  refine ⟨h1, h2, fun hn => ?_⟩
  obtain ⟨ad, rfl, hc⟩ := h3 hn
  refine ⟨ad, rfl, fun j p hj => ?_⟩
  obtain ⟨c, hl, hk, hcell⟩ := hc j p hj
  refine ⟨c, hl, hK _ _ hk, fun i u hu => ?_⟩
  rw [← hcell i u hu]
  have e : ∀ n, (ad.add n).block = ad.block := fun n => by unfold Addr.add; split <;> rfl
  unfold World.cell?
  rw [e, hb ad rfl]
theorem below3 {w W : World} {G : Nat} (h : Below w.heap.size w W) (hg : G = w.heap.size) (a b c : Value) : Below w.heap.size w (((W.setCell ⟨G, 1, none⟩ a).setCell ⟨G, 2, none⟩ b).setCell ⟨G, 3, none⟩ c) := by
  subst hg
  exact ((h.setCell (Nat.le_refl _) a).setCell (Nat.le_refl _) b).setCell (Nat.le_refl _) c
theorem short_l0 (x : List ByteArray) (hx : x.length ≤ 9223372036854775807) : ∀ (d i : Nat) (acc : List ByteArray), i + d = 20 → acc.length = i → ∃ r, H.armillarylaw01_short.l0 (d + 1) x acc i = some r ∧ r.length ≤ 20 := by
  intro d
  induction d with
  | zero =>
    intro i acc hi ha
    rw [H.armillarylaw01_short.l0]
    by_cases h : (i : Int) < (x.length : Int)
    · rw [if_pos h, if_neg (by omega)]; exact ⟨acc, rfl, by omega⟩
    · rw [if_neg h]; exact ⟨acc, rfl, by omega⟩
  | succ d ih =>
    intro i acc hi ha
    rw [H.armillarylaw01_short.l0]
    by_cases h : (i : Int) < (x.length : Int)
    · generalize rdOf ByteArray.empty x (i : Int) = y
      have m0 : 0 ≤ mn (y.size : Int) 60 := by unfold mn; split <;> omega
      have m1 : mn (y.size : Int) 60 ≤ (y.size : Int) := by unfold mn; split <;> omega
      rw [if_pos h, if_pos (by omega), if_pos (by omega), if_pos m0, if_pos m1, if_pos (by omega), show wrap64 ((i : Int) + 1) = ((i + 1 : Nat) : Int) by unfold wrap64; omega]
      exact ih (i + 1) _ (by omega) (by simp [ha])
    · rw [if_neg h]; exact ⟨acc, rfl, by omega⟩
theorem short_f (x : List ByteArray) (hx : x.length ≤ 9223372036854775807) : ∃ r, H.armillarylaw01_short.f 21 x = some r ∧ r.length ≤ 20 := short_l0 x hx 20 0 [] rfl rfl
set_option maxHeartbeats 8000000 in
set_option maxRecDepth 100000 in
theorem writes_walk (A0 : Option Addr) (c0 : Nat) (l0 : List Int) (n : Int) (s : ByteArray) (A1 : Option Addr) (c1 : Nat) (l1 : List Int) (A2 : Option Addr) (c2 : Nat) (l2 : List ByteArray) (w : World) (hr0 : Kd.C (Kd.int .u8) w A0 l0.length l0) (hc0 : l0.length ≤ c0) (hr1 : Kd.C (Kd.int .i64) w A1 l1.length l1) (hc1 : l1.length ≤ c1) (hr2 : Kd.C Kd.string w A2 l2.length l2) (hc2 : l2.length ≤ c2) :
    Calls Try.prog 5 #[.slice A0 l0.length c0, .agg #[.int .i64 n, .string s, .slice A1 l1.length c1, .slice A2 l2.length c2]] w fun e w' => e = .returned (.bool true) ∧ Below w.heap.size w w' := by
  obtain ⟨r2, hs2, hs2l⟩ := short_f l2 hr2.2.1
  have HSl := Aside0.mk hs2l
  obtain ⟨ks, HSh⟩ : ∃ ks, Aside0 (H.armillarylaw01_short.f ks l2 = some r2) := ⟨_, ⟨hs2⟩⟩
  obtain ⟨js, hjs⟩ : ∃ j_ : Int, (mn (s.size : Int) 200) = j_ := ⟨_, rfl⟩
  have b1 : 0 ≤ js := by rw [← hjs]; unfold mn; (repeat' split) <;> omega
  have b2 : js ≤ (s.size : Int) := by rw [← hjs]; unfold mn; (repeat' split) <;> omega
  have hjs_ : (if 200 < (s.size : Int) then 200 else (s.size : Int)) = js := hjs
  have d1 : decide (0 ≤ js) = true := decide_eq_true b1
  have d2 : decide (js ≤ (s.size : Int)) = true := decide_eq_true b2
  obtain ⟨jn, hjn⟩ : ∃ j_ : Int, (mn (l1.length : Int) 40) = j_ := ⟨_, rfl⟩
  have b3 : 0 ≤ jn := by rw [← hjn]; unfold mn; (repeat' split) <;> omega
  have b4 : jn ≤ (l1.length : Int) := by rw [← hjn]; unfold mn; (repeat' split) <;> omega
  have b5 : jn ≤ 40 := by rw [← hjn]; unfold mn; (repeat' split) <;> omega
  have hjn_ : (if 40 < (l1.length : Int) then 40 else (l1.length : Int)) = jn := hjn
  have d3 : decide (0 ≤ jn) = true := decide_eq_true b3
  have d4 : decide (jn ≤ (l1.length : Int)) = true := decide_eq_true b4
  obtain ⟨i0, hi0, _, hsz0, _⟩ := info_parts A6.info3
  obtain ⟨hcutn, hAn, hCn⟩ := print_take_of (P := Try.prog) (Value.int .i64) 0 31 3 .i64 Try.underlying31 hi0 hsz0 A1 c1 l1 jn b3 b4 hc1
  have HRn := Aside0.mk (Kd.C_of_reads (h1 := fun _ => rfl) (hAn w (Kd.reads_of_C hr1)))
  have HCn := Aside0.mk hCn
  have HLn := Aside0.mk (show (l1.take jn.toNat).length ≤ 40 by rw [List.length_take]; omega)
  clear hAn hCn hsz0
  have HR0 := Aside0.mk hr0
  have HC0 := Aside0.mk hc0
  have HRt := Aside0.mk hr2
  have HC2 := Aside0.mk hc2
  obtain ⟨ji4, hji4⟩ : ∃ j_ : Int, (mn (l0.length : Int) 100) = j_ := ⟨_, rfl⟩
  have e1 : 0 ≤ ji4 := by rw [← hji4]; unfold mn; (repeat' split) <;> omega
  have e2 : ji4 ≤ (l0.length : Int) := by rw [← hji4]; unfold mn; (repeat' split) <;> omega
  have e3 : ji4 ≤ 100 := by rw [← hji4]; unfold mn; (repeat' split) <;> omega
  have hji4_ : (if 100 < (l0.length : Int) then 100 else (l0.length : Int)) = ji4 := hji4
  have g1 : decide (0 ≤ ji4) = true := decide_eq_true e1
  have g2 : decide (ji4 ≤ (l0.length : Int)) = true := decide_eq_true e2
  obtain ⟨i5, hi5, _, hsz5, _⟩ := info_parts A8.info5
  obtain ⟨hcut0, hAc, hCc⟩ := print_take_of (P := Try.prog) (Value.int .u8) 0 22 5 .i64 Try.underlying22 hi5 hsz5 A0 c0 l0 ji4 e1 e2 HC0.out
  have HCt0 := Aside0.mk (Kd.C_of_reads (h1 := fun _ => rfl) (hAc w (Kd.reads_of_C HR0.out)))
  have HCc := Aside0.mk hCc
  have HZ5 := Aside0.mk hsz5
  have HI5 := Aside0.mk hi5
  have hLt : (l0.take ji4.toNat).length = ji4.toNat := by rw [List.length_take]; omega
  have hLt2 : (l0.take ji4.toNat).length ≤ 100 := by omega
  obtain ⟨t, ht⟩ : ∃ t, t = l0.take ji4.toNat := ⟨_, rfl⟩
  rw [← ht] at HCt0 HCc hLt hLt2
  have HLt := Aside0.mk hLt
  have HLt2 := Aside0.mk hLt2
  have A7 := Aside0.mk (show H.armillaryref00_CopyBytes.f t = some t by unfold H.armillaryref00_CopyBytes.f; rw [if_pos (by simp; omega), List.nil_append])
  obtain ⟨x, hx⟩ : ∃ x, x = t ++ [1, 2, 3] := ⟨_, rfl⟩
  have hxl : x.length = t.length + 3 := by rw [hx]; simp
  have A8_ := Aside0.mk (show H.armillaryref00_CopyBytes.f x = some x by unfold H.armillaryref00_CopyBytes.f; rw [if_pos (by simp; omega), List.nil_append])
  have HX := Aside0.mk hx
  obtain ⟨jl, hjl⟩ : ∃ j_ : Int, wrap64 ((x.length : Int) - 3) = j_ := ⟨_, rfl⟩
  have hjle : jl = t.length := by rw [← hjl]; unfold wrap64; omega
  have k1 : 0 ≤ jl := by omega
  have k2 : jl ≤ (x.length : Int) := by omega
  have l1d : decide (0 ≤ jl) = true := decide_eq_true k1
  have l2d : decide (jl ≤ (x.length : Int)) = true := decide_eq_true k2
  obtain ⟨o, ho⟩ : ∃ o, o = x.take jl.toNat := ⟨_, rfl⟩
  have hol : o.length ≤ 103 := by rw [ho, List.length_take]; omega
  have HOl := Aside0.mk hol
  have HOo := Aside0.mk ho
  have HOj := Aside0.mk (show o.length = jl.toNat by rw [ho, List.length_take]; omega)
  have HK1 := Aside0.mk k1
  have HK2 := Aside0.mk k2
  have e1e := eq_true e1
  have e2e := eq_true e2
  have k1e := eq_true k1
  have k2e := eq_true k2
  obtain ⟨ln, hln⟩ : ∃ ln, ln = l1.take jn.toNat := ⟨_, rfl⟩
  have HLj := Aside0.mk (show ln.length = jn.toNat by rw [hln, List.length_take]; omega)
  rw [← hln] at HRn HCn HLn
  obtain ⟨s', hs'⟩ : ∃ s', s' = s.extract 0 js.toNat := ⟨_, rfl⟩
  have HS := Aside0.mk hs'
  obtain ⟨⟨ra, ea⟩, hda⟩ : ∃ R, dig o n = R := ⟨_, rfl⟩
  have HDa := Aside0.mk hda
  have HSa := Aside0.mk (show Sane (ra, ea) by rw [← hda]; exact dig_sane o n)
  obtain ⟨⟨rb, eb⟩, hdb⟩ : ∃ R, wire_Text.f o s' = some R := ⟨_, if_pos (by omega)⟩
  have HDb := Aside0.mk hdb
  have HRb := Aside0.mk (show armillaryref01_Text.f o s' = some (rb, eb) from hdb)
  obtain ⟨⟨rc, ec⟩, hdc⟩ : ∃ R, wire_Nums.f o ln = some R := ⟨_, by unfold wire_Nums.f; rw [if_pos (by omega), if_pos (by have := HLn.out; omega)]⟩
  have HDc := Aside0.mk hdc
  have HSc := Aside0.mk (show Sane (rc, ec) from nums_sane hdc)
  obtain ⟨⟨rd_, ed⟩, hdd⟩ : ∃ R, wire_Texts.f o r2 = some R := ⟨_, by unfold wire_Texts.f; rw [if_pos (by omega), if_pos (by have := HSl.out; omega)]⟩
  have HDd := Aside0.mk hdd
  have HSd := Aside0.mk (show Sane (rd_, ed) from texts_sane hdd)
  have HRd := Aside0.mk (show armillaryref01_Texts.f o r2 = some (rd_, ed) from hdd)
  have hTS : Sane (rb, eb) := by
    unfold wire_Text.f at hdb
    rw [if_pos (by omega)] at hdb
    rw [← Option.some.inj hdb]
    exact let_sane _ _
  have HTS := Aside0.mk hTS
  clear hTS hAc hCc e1 e2 e3 hLt hLt2 ht hx hxl hjle k1 k2 hol ho hln hs' hda hdb hdc hdd
  have b1e := eq_true b1
  have b2e := eq_true b2
  have b3e := eq_true b3
  have b4e := eq_true b4
  clear b1 b2 b3 b4 b5 hr0 hc0 hr1 hc1 hr2 hc2 hs2 hs2l
  go_enter Try.func5, Try.ntmps5
  go_wp2
  have hG0 := heap_alloc_new w (.cells #[.int .i64 n, .string s, .slice A1 l1.length c1, .slice A2 l2.length c2] 34)
  have hB0 := below_alloc (Below.refl w.heap.size w) (.cells #[.int .i64 n, .string s, .slice A1 l1.length c1, .slice A2 l2.length c2] 34)
  generalize w.alloc (.cells #[.int .i64 n, .string s, .slice A1 l1.length c1, .slice A2 l2.length c2] 34) = Wa at hG0 hB0 ⊢
  obtain ⟨G, hGe⟩ : ∃ G, G = w.heap.size := ⟨_, rfl⟩
  rw [← hGe] at hG0 ⊢
  have HGe := Aside0.mk hGe
  clear hGe
  have hG : Wa.drew.heap[G]? = some (.cells #[.int .i64 n, .string s, .slice A1 l1.length c1, .slice A2 l2.length c2] 34 (0, 0)) := hG0
  have HB1 := Aside0.mk (below_drew1 hB0)
  have HR2 := Aside0.mk (Kd.C_below HRt.out HB1.out)
  have h1 : Wa.drew.cell? ⟨G, 1, none⟩ = some (.string s) := (blk_cell hG 1).trans rfl
  have h2 : Wa.drew.cell? ⟨G, 2, none⟩ = some (.slice A1 l1.length c1) := (blk_cell hG 2).trans rfl
  have h3 : Wa.drew.cell? ⟨G, 3, none⟩ = some (.slice A2 l2.length c2) := (blk_cell hG 3).trans rfl
  clear hG0 hB0 HRt
  refine start_ (n := 23) (S := fun w' => w'.cell? ⟨G, 1, none⟩ = some (.string s) ∧ w'.cell? ⟨G, 2, none⟩ = some (.slice A1 l1.length c1) ∧ w'.cell? ⟨G, 3, none⟩ = some (.slice A2 l2.length c2)) (ds := [18, 20, 22]) #[false, false, false, false, false, false, false, false, false, false, false, false, false, false, false, false, false, false, false, false, false, false, false] (by kernel_rfl) rfl rfl ⟨h1, h2, h3⟩ (fun hHeld => ?_)
  refine with_tabW wrl.tab1 wrl.bits1 (fun HT_ HW_ => ?_)
  refine pure_ (i := 0) (N := some 12) (v := ?_) (a' := ?_) #[true, false, false, false, false, false, false, false, false, false, false, false, false, false, false, false, false, false, false, false, false, false, false] rfl rfl (any_of HT_.out (by kernel_rfl)) (fun _ _ _ h => h) (Or.inl ⟨by rfl, ?_⟩) ?_ ?_
  rotate_left
  · intro w'
    go_simp
    with_reducible rfl
  rotate_left
  · simp only [Act.put, List.setIfInBounds_toArray, List.set_cons_zero, List.set_cons_succ, i64_w, i32_w]
    rfl
  refine pure_ (i := 2) (N := some 14) (v := ?_) (a' := ?_) #[true, false, true, false, false, false, false, false, false, false, false, false, false, false, false, false, false, false, false, false, false, false, false] rfl rfl (any_of HT_.out (by kernel_rfl)) (fun _ _ _ h => h) (Or.inl ⟨by rfl, ?_⟩) ?_ ?_
  rotate_left
  · intro w'
    go_simp
    with_reducible rfl
  rotate_left
  · simp only [Act.put, List.setIfInBounds_toArray, List.set_cons_zero, List.set_cons_succ, i64_w, i32_w]
    rfl
  refine pure_ (i := 7) (N := some 19) (v := ?_) (a' := ?_) #[true, false, true, false, false, false, false, true, false, false, false, false, false, false, false, false, false, false, false, false, false, false, false] rfl rfl (any_of HT_.out (by kernel_rfl)) (fun _ _ _ h => h) (Or.inl ⟨by rfl, ?_⟩) ?_ ?_
  rotate_left
  · intro w'
    go_simp
    with_reducible rfl
  rotate_left
  · simp only [Act.put, List.setIfInBounds_toArray, List.set_cons_zero, List.set_cons_succ, i64_w, i32_w]
    rfl
  refine pure_ (i := 9) (N := some 21) (v := ?_) (a' := ?_) #[true, false, true, false, false, false, false, true, false, true, false, false, false, false, false, false, false, false, false, false, false, false, false] rfl rfl (any_of HT_.out (by kernel_rfl)) (fun _ _ _ h => h) (Or.inl ⟨by rfl, ?_⟩) ?_ ?_
  rotate_left
  · intro w'
    go_simp
    with_reducible rfl
  rotate_left
  · simp only [Act.put, List.setIfInBounds_toArray, List.set_cons_zero, List.set_cons_succ, i64_w, i32_w]
    rfl
  refine pure_ (i := 14) (N := some 26) (v := ?_) (a' := ?_) #[true, false, true, false, false, false, false, true, false, true, false, false, false, false, true, false, false, false, false, false, false, false, false] rfl rfl (any_of HT_.out (by kernel_rfl)) (fun _ _ _ h => h) (Or.inl ⟨by rfl, ?_⟩) ?_ ?_
  rotate_left
  · intro w'
    go_simp
    with_reducible rfl
  rotate_left
  · simp only [Act.put, List.setIfInBounds_toArray, List.set_cons_zero, List.set_cons_succ, i64_w, i32_w]
    rfl
  refine take_ (i := 1) (N := some 13) (v := ?_) (a' := ?_) #[true, true, true, false, false, false, false, true, false, true, false, false, false, false, true, false, false, false, false, false, false, false, false] rfl rfl (take_ofW HT_.out HW_.out (by kernel_rfl)) (fun _ _ _ h => h) (Or.inl ⟨by rfl, ?_⟩) hHeld ?_ ?_
  rotate_left
  · rintro w' ⟨s0, s1, s2⟩
    go_simp
    with_reducible rfl
  rotate_left
  · simp only [Act.put, List.setIfInBounds_toArray, List.set_cons_zero, List.set_cons_succ, i64_w, i32_w]
    rfl
  refine take_ (i := 3) (N := some 15) (v := ?_) (a' := ?_) #[true, true, true, true, false, false, false, true, false, true, false, false, false, false, true, false, false, false, false, false, false, false, false] rfl rfl (take_ofW HT_.out HW_.out (by kernel_rfl)) (fun _ _ _ h => h) (Or.inl ⟨by rfl, ?_⟩) hHeld ?_ ?_
  rotate_left
  · rintro w' ⟨s0, s1, s2⟩
    go_simp
    with_reducible rfl
  rotate_left
  · simp only [Act.put, List.setIfInBounds_toArray, List.set_cons_zero, List.set_cons_succ, i64_w, i32_w]
    rfl
  refine pure_ (i := 4) (N := some 16) (v := ?_) (a' := ?_) #[true, true, true, true, true, false, false, true, false, true, false, false, false, false, true, false, false, false, false, false, false, false, false] rfl rfl (any_of HT_.out (by kernel_rfl)) (fun _ _ _ h => h) (Or.inl ⟨by rfl, ?_⟩) ?_ ?_
  rotate_left
  · intro w'
    go_simp
    with_reducible rfl
  rotate_left
  · simp only [Act.put, List.setIfInBounds_toArray, List.set_cons_zero, List.set_cons_succ, i64_w, i32_w]
    rfl
  refine pure_ (i := 5) (N := some 17) (v := ?_) (a' := ?_) #[true, true, true, true, true, true, false, true, false, true, false, false, false, false, true, false, false, false, false, false, false, false, false] rfl rfl (any_of HT_.out (by kernel_rfl)) (fun _ _ _ h => h) (Or.inl ⟨by rfl, ?_⟩) ?_ ?_
  rotate_left
  · intro w'
    go_simp
    with_reducible rfl
  rotate_left
  · simp only [Act.put, List.setIfInBounds_toArray, List.set_cons_zero, List.set_cons_succ, i64_w, i32_w]
    rfl
  refine pure_ (i := 6) (N := some 18) (v := ?_) (a' := ?_) #[true, true, true, true, true, true, true, true, false, true, false, false, false, false, true, false, false, false, false, false, false, false, false] rfl rfl (any_of HT_.out (by kernel_rfl)) (fun _ _ _ h => h) (Or.inl ⟨by rfl, ?_⟩) ?_ ?_
  rotate_left
  · intro w'
    go_simp
    with_reducible rfl
  rotate_left
  · simp only [Act.put, List.setIfInBounds_toArray, List.set_cons_zero, List.set_cons_succ, i64_w, i32_w]
    rfl
  refine take_ (i := 8) (N := some 20) (v := ?_) (a' := ?_) #[true, true, true, true, true, true, true, true, true, true, false, false, false, false, true, false, false, false, false, false, false, false, false] rfl rfl (take_ofW HT_.out HW_.out (by kernel_rfl)) (fun _ _ _ h => h) (Or.inl ⟨by rfl, ?_⟩) hHeld ?_ ?_
  rotate_left
  · rintro w' ⟨s0, s1, s2⟩
    go_simp
    with_reducible rfl
  rotate_left
  · simp only [Act.put, List.setIfInBounds_toArray, List.set_cons_zero, List.set_cons_succ, i64_w, i32_w]
    rfl
  refine take_ (i := 10) (N := some 22) (v := ?_) (a' := ?_) #[true, true, true, true, true, true, true, true, true, true, true, false, false, false, true, false, false, false, false, false, false, false, false] rfl rfl (take_ofW HT_.out HW_.out (by kernel_rfl)) (fun _ _ _ h => h) (Or.inl ⟨by rfl, ?_⟩) hHeld ?_ ?_
  rotate_left
  · rintro w' ⟨s0, s1, s2⟩
    go_simp
    with_reducible rfl
  rotate_left
  · simp only [Act.put, List.setIfInBounds_toArray, List.set_cons_zero, List.set_cons_succ, i64_w, i32_w]
    rfl
  refine pure_ (i := 11) (N := some 23) (v := ?_) (a' := ?_) #[true, true, true, true, true, true, true, true, true, true, true, true, false, false, true, false, false, false, false, false, false, false, false] rfl rfl (any_of HT_.out (by kernel_rfl)) (fun _ _ _ h => h) (Or.inl ⟨by rfl, ?_⟩) ?_ ?_
  rotate_left
  · intro w'
    go_simp
    with_reducible rfl
  rotate_left
  · simp only [Act.put, List.setIfInBounds_toArray, List.set_cons_zero, List.set_cons_succ, i64_w, i32_w]
    rfl
  refine pure_ (i := 12) (N := some 24) (v := ?_) (a' := ?_) #[true, true, true, true, true, true, true, true, true, true, true, true, true, false, true, false, false, false, false, false, false, false, false] rfl rfl (any_of HT_.out (by kernel_rfl)) (fun _ _ _ h => h) (Or.inl ⟨by rfl, ?_⟩) ?_ ?_
  rotate_left
  · intro w'
    go_simp
    with_reducible rfl
  rotate_left
  · simp only [Act.put, List.setIfInBounds_toArray, List.set_cons_zero, List.set_cons_succ, i64_w, i32_w]
    rfl
  refine pure_ (i := 13) (N := some 25) (v := ?_) (a' := ?_) #[true, true, true, true, true, true, true, true, true, true, true, true, true, true, true, false, false, false, false, false, false, false, false] rfl rfl (any_of HT_.out (by kernel_rfl)) (fun _ _ _ h => h) (Or.inl ⟨by rfl, ?_⟩) ?_ ?_
  rotate_left
  · intro w'
    go_simp
    with_reducible rfl
  rotate_left
  · simp only [Act.put, List.setIfInBounds_toArray, List.set_cons_zero, List.set_cons_succ, i64_w, i32_w]
    rfl
  refine take_ (i := 15) (N := some 27) (v := ?_) (a' := ?_) #[true, true, true, true, true, true, true, true, true, true, true, true, true, true, true, true, false, false, false, false, false, false, false] rfl rfl (take_ofW HT_.out HW_.out (by kernel_rfl)) (fun _ _ _ h => h) (Or.inl ⟨by rfl, ?_⟩) hHeld ?_ ?_
  rotate_left
  · rintro w' ⟨s0, s1, s2⟩
    go_simp
    with_reducible rfl
  rotate_left
  · simp only [Act.put, List.setIfInBounds_toArray, List.set_cons_zero, List.set_cons_succ, i64_w, i32_w]
    rfl
  refine pure_ (i := 17) (N := some 29) (v := ?_) (a' := ?_) #[true, true, true, true, true, true, true, true, true, true, true, true, true, true, true, true, false, true, false, false, false, false, false] rfl rfl (any_of HT_.out (by kernel_rfl)) (fun _ _ _ h => h) (Or.inl ⟨by rfl, ?_⟩) ?_ ?_
  rotate_left
  · intro w'
    go_simp
    with_reducible rfl
  rotate_left
  · simp only [Act.put, List.setIfInBounds_toArray, List.set_cons_zero, List.set_cons_succ, i64_w, i32_w]
    rfl
  refine one_ (i := 16) (N := some 28) #[true, true, true, true, true, true, true, true, true, true, true, true, true, true, true, true, true, true, false, false, false, false, false] rfl rfl (one_of HT_.out (by kernel_rfl)) (by decide) (fun K hK => ?_)
  refine goes_ Try.func16 (by kernel_rfl) rfl #[.slice A2 l2.length c2] (by rfl) rfl rfl (by simp only [List.map_toArray, List.map_cons, List.map_nil]; rfl) ?_
  with_reducible refine (H.armillarylaw01_short.calls ks A2 c2 l2 r2 _ HR2.out HC2.out HSh.out).mono ?_
  rintro e w2 ⟨v2, rfl, ho, hb⟩
  refine ⟨_, rfl, ?_⟩
  have HO2 := Aside0.mk ho
  have hG2 := (hb.block G (blk_lt hG)).trans hG
  have HB2 := Aside0.mk (HB1.out.trans (hb.mono HB1.out.size))
  have q1 : w2.cell? ⟨G, 1, none⟩ = _ := (blk_cell hG2 1).trans rfl
  have q2 : w2.cell? ⟨G, 2, none⟩ = _ := (blk_cell hG2 2).trans rfl
  have q3 : w2.cell? ⟨G, 3, none⟩ = _ := (blk_cell hG2 3).trans rfl
  have f1 := blk_frozen hG2 1
  obtain ⟨A3, c3, rfl⟩ := Kd.R_slice HO2.out
  clear ho hb
  refine hK.out _ _ ⟨q1, q2, q3⟩ (fun hHeld => ?_)
  clear hK K
  refine norm_ (a' := ?_) ?_ ?_
  rotate_left
  · show Act.put _ (some 28) _ = _
    simp only [Act.put, List.setIfInBounds_toArray, List.set_cons_zero, List.set_cons_succ, i64_w, i32_w]
    rfl
  refine last_ (i := 18) (N := none) #[true, true, true, true, true, true, true, true, true, true, true, true, true, true, true, true, true, true, true, false, false, false, false] rfl rfl (one_of HT_.out (by kernel_rfl)) (by decide) (fun K hK => ?_)
  refine skip_ (w1 := ?_) (by rfl) rfl ?_ ?_
  rotate_left
  · go_simp
    rfl
  refine hK.out _ _ ?_
  clear hK K
  refine pure_ (i := 19) (N := some 30) (v := ?_) (a' := ?_) #[true, true, true, true, true, true, true, true, true, true, true, true, true, true, true, true, true, true, true, true, false, false, false] rfl rfl (any_of HT_.out (by kernel_rfl)) (fun _ _ _ h => h) (Or.inl ⟨by rfl, ?_⟩) ?_ ?_
  rotate_left
  · intro w'
    go_simp
    with_reducible rfl
  rotate_left
  · simp only [Act.put, List.setIfInBounds_toArray, List.set_cons_zero, List.set_cons_succ, i64_w, i32_w]
    rfl
  refine last_ (i := 20) (N := none) #[true, true, true, true, true, true, true, true, true, true, true, true, true, true, true, true, true, true, true, true, true, false, false] rfl rfl (one_of HT_.out (by kernel_rfl)) (by decide) (fun K hK => ?_)
  have f2 := blk_frozen (blk_set hG2 1 (.string (s.extract 0 js.toNat))) 2
  refine skip_ (w1 := ?_) (by rfl) rfl ?_ ?_
  rotate_left
  · go_simp
    rfl
  refine hK.out _ _ ?_
  clear hK K
  refine pure_ (i := 21) (N := some 31) (v := ?_) (a' := ?_) #[true, true, true, true, true, true, true, true, true, true, true, true, true, true, true, true, true, true, true, true, true, true, false] rfl rfl (any_of HT_.out (by kernel_rfl)) (fun _ _ _ h => h) (Or.inl ⟨by rfl, ?_⟩) ?_ ?_
  rotate_left
  · intro w'
    go_simp
    with_reducible rfl
  rotate_left
  · simp only [Act.put, List.setIfInBounds_toArray, List.set_cons_zero, List.set_cons_succ, i64_w, i32_w]
    rfl
  refine last_ (i := 22) (N := none) #[true, true, true, true, true, true, true, true, true, true, true, true, true, true, true, true, true, true, true, true, true, true, true] rfl rfl (one_of HT_.out (by kernel_rfl)) (by decide) (fun K hK => ?_)
  have f3 := blk_frozen (blk_set (blk_set hG2 1 (.string (s.extract 0 js.toNat))) 2 (.slice A1 jn.toNat c1)) 3
  refine skip_ (w1 := ?_) (by rfl) rfl ?_ ?_
  rotate_left
  · go_simp
    rfl
  refine hK.out _ _ ?_
  clear hK K
  refine done_ (done_of HT_.out (by kernel_rfl)) ?_
  have hG3 := blk_set (blk_set (blk_set hG2 1 (.string (s.extract 0 js.toNat))) 2 (.slice A1 jn.toNat c1)) 3 (.slice A3 r2.length c3)
  have HGw := Aside0.mk (show G < Wa.drew.heap.size from blk_lt hG)
  have HB3 := Aside0.mk (below3 HB2.out HGe.out (.string (s.extract 0 js.toNat)) (.slice A1 jn.toNat c1) (.slice A3 r2.length c3))
  have hne : ∀ ad, A3 = some ad → ad.block ≠ G := fun ad ea => by have h_ := (R_at3 HO2.out ad ea).1; have h2_ := HGw.out; omega
  have HCt3 := Aside0.mk (C_blk (w := w2) (w1 := ((w2.setCell ⟨G, 1, none⟩ (.string (s.extract 0 js.toNat))).setCell ⟨G, 2, none⟩ (.slice A1 jn.toNat c1)).setCell ⟨G, 3, none⟩ (.slice A3 r2.length c3)) (fun _ _ h => h) (Kd.R_reads' HO2.out).2.2 (fun ad ea => (Below.heap_setCell _ ⟨G, 3, none⟩ _ _ (hne ad ea)).trans ((Below.heap_setCell _ ⟨G, 2, none⟩ _ _ (hne ad ea)).trans (Below.heap_setCell _ ⟨G, 1, none⟩ _ _ (hne ad ea)))))
  have HCc3 := Aside0.mk (Kd.R_reads' HO2.out).2.1
  rw [← HS.out] at hG3 HB3 HCt3 ⊢
  rw [← HLj.out] at hG3 HB3 HCt3 ⊢
  clear hne hHeld f1 f2 f3 q1 q2 q3 HO2 HB2 h1 h2 h3 HR2 HB1 HT_ HW_
  generalize (((w2.setCell ⟨G, 1, none⟩ (.string s')).setCell ⟨G, 2, none⟩ (.slice A1 ln.length c1)).setCell ⟨G, 3, none⟩ (.slice A3 r2.length c3)) = W3 at hG3 HB3 HCt3 ⊢
  have HG3 := Aside0.mk (show W3.heap[G]? = some (.cells #[.int .i64 n, .string s', .slice A1 ln.length c1, .slice A3 r2.length c3] 34 (0, 0)) by simpa using hG3)
  clear hG3 hG2 hG HGw d1 d2 d3 d4 b1e b2e b3e b4e hcutn hjs hjs_ hjn hjn_
  go_wp2_with (first | (go_at_call 10; rw [← HLt.out]; refine (H.armillaryref00_CopyBytes.calls A0 c0 t t W3 (Kd.C_below HCt0.out HB3.out) HCc.out A7.out).mono ?_; rintro e w4 ⟨v4, rfl, ho, hb⟩; have HO4 := Aside0.mk ho; have HB4 := Aside0.mk hb; clear ho hb) | (at_builtin; refine Kd.R_append_rows (Kd.int .u8) (w0 := W3) W3.heap.size rfl (.tmp 37) (.tmp 38) 22 5 (.int .u8 0) 1 rfl Try.underlying22 A8.info5 rfl (by decide) (by omega) v4 t [1, 2, 3] _ _ _ (fun _ => True) (fun _ => False) rfl rfl ?aO ?aR (fun _ _ h => h) (fun _ h => h.elim) ?aF ?aB ?aS ?aL ?_; (case aR => exact C_lit .u8 w4 [1, 2, 3] _ 5 (0, 0) rfl 3 rfl (by decide)); (case aB => exact below_alloc HB4.out _); (case aF => exact (fun _ _ => trivial)); (case aO => exact Kd.R_alloc HO4.out _); (case aS => exact (below_alloc HB4.out _).size); (case aL => have := HLt2.out; omega); intro v5 w5 ho hb hg hat; rw [← HX.out] at ho; obtain ⟨Ai, ci, rfl⟩ := Kd.R_slice ho; have HOi := Aside0.mk ho; have HB5 := Aside0.mk hb; obtain ⟨hcut1, hA1, hC1⟩ := print_take_of (P := Try.prog) (Value.int .u8) 0 22 5 .i64 Try.underlying22 HI5.out HZ5.out Ai ci x jl HK1.out HK2.out (Kd.R_reads' ho).2.1; rw [← HOo.out] at hcut1 hA1 hC1; have HCo := Aside0.mk hC1; have HCo5 := Aside0.mk (Kd.C_of_reads (h1 := fun _ => rfl) (hA1 w5 (Kd.reads_of_C (Kd.R_reads' ho).2.2))); clear ho hb hg hat hA1 hC1) | (go_at_call 10; refine (H.armillaryref00_CopyBytes.calls Ai ci x x w5 (Kd.R_reads' HOi.out).2.2 (Kd.R_reads' HOi.out).2.1 A8_.out).mono ?_; rintro e w6 ⟨v6, rfl, ho, hb⟩; obtain ⟨Aw, cw, rfl⟩ := Kd.R_slice ho; have HOw := Aside0.mk ho; have HOi6 := Aside0.mk (Kd.R_below HOi.out hb); have HCo6 := Aside0.mk (Kd.C_below HCo5.out hb); have HGlt := Aside0.mk (show G < w6.heap.size from Nat.lt_of_lt_of_le (blk_lt HG3.out) (HB5.out.trans (hb.mono HB5.out.size)).size); have HG6 := Aside0.mk (((HB5.out.trans (hb.mono HB5.out.size)).block G (blk_lt HG3.out)).trans HG3.out); have HB6 := Aside0.mk (HB3.out.trans ((HB5.out.trans (hb.mono HB5.out.size)).mono HB3.out.size)); have HB5x := Aside0.mk (HB5.out.trans (hb.mono HB5.out.size)); have HP0 := Aside0.mk (Below.refl w6.heap.size w6); have qc0 : w6.cell? ⟨G, 0, none⟩ = some (.int .i64 n) := (blk_cell (((HP0.out).block G HGlt.out).trans HG6.out) 0).trans rfl; clear ho hb) | (go_at_call 17; refine (B1.num_own Ai ci o n w6 (Kd.C_below HCo6.out HP0.out) HCo.out (by have := HOl.out; omega)).mono ?_; rw [HDa.out]; rintro e wa0 ⟨va0, rfl, hr, hb⟩; have HOa0 := Aside0.mk hr; have HBa0 := Aside0.mk hb; have HPa0 := Aside0.mk (HP0.out.trans (hb.mono HP0.out.size)); have qa0 : wa0.cell? ⟨G, 0, none⟩ = some (.int .i64 n) := (blk_cell (((HPa0.out).block G HGlt.out).trans HG6.out) 0).trans rfl; clear hr hb) | (go_at_call 18; refine (rnum_own Ai ci o n wa0 (Kd.C_below HCo6.out HPa0.out) HCo.out (by have := HOl.out; omega)).mono ?_; rw [HDa.out]; rintro e wb0 ⟨vb0, rfl, hr, hb⟩; have HOb0 := Aside0.mk hr; have HBb0 := Aside0.mk hb; clear hr hb) | (go_at_call 19; refine (wrote_yes w6 wa0 wb0 va0 vb0 ra ea (HSa.out) HOa0.out HBa0.out HOb0.out HBb0.out).mono ?_; rintro e wn0 ⟨rfl, hb⟩; have HP1 := Aside0.mk (HP0.out.trans (hb.mono HP0.out.size)); have qc1 : wn0.cell? ⟨G, 1, none⟩ = some (.string s') := (blk_cell (((HP1.out).block G HGlt.out).trans HG6.out) 1).trans rfl; clear hb))
  (refine (wire_Text.calls Ai ci o s' rb eb wn0 (Kd.C_below HCo6.out HP1.out) HCo.out HDb.out).mono ?_; rintro e wa1 ⟨va1, rfl, hr, hb⟩; have HOa1 := Aside0.mk hr; have HBa1 := Aside0.mk hb; have HPa1 := Aside0.mk (HP1.out.trans (hb.mono HP1.out.size)); have qa1 : wa1.cell? ⟨G, 1, none⟩ = some (.string s') := (blk_cell (((HPa1.out).block G HGlt.out).trans HG6.out) 1).trans rfl; clear hr hb)
  go_wp2_with (first | (go_at_call 21; refine (armillaryref01_Text.calls Ai ci o s' rb eb wa1 (Kd.C_below HCo6.out HPa1.out) HCo.out HRb.out).mono ?_; rintro e wb1 ⟨vb1, rfl, hr, hb⟩; have HOb1 := Aside0.mk hr; have HBb1 := Aside0.mk hb; clear hr hb) | (go_at_call 19; refine (wrote_yes wn0 wa1 wb1 va1 vb1 rb eb (HTS.out) HOa1.out HBa1.out HOb1.out HBb1.out).mono ?_; rintro e wn1 ⟨rfl, hb⟩; have HP2 := Aside0.mk (HP1.out.trans (hb.mono HP1.out.size)); have qc2 : wn1.cell? ⟨G, 2, none⟩ = some (.slice A1 ln.length c1) := (blk_cell (((HP2.out).block G HGlt.out).trans HG6.out) 2).trans rfl; clear hb))
  (refine (wire_Nums.calls Ai ci o A1 c1 ln rc ec wn1 (Kd.C_below HCo6.out HP2.out) HCo.out (Kd.C_below HRn.out (HB6.out.trans (HP2.out.mono HB6.out.size))) HCn.out HDc.out).mono ?_; rintro e wa2 ⟨va2, rfl, hr, hb⟩; have HOa2 := Aside0.mk hr; have HBa2 := Aside0.mk hb; have HPa2 := Aside0.mk (HP2.out.trans (hb.mono HP2.out.size)); have qa2 : wa2.cell? ⟨G, 2, none⟩ = some (.slice A1 ln.length c1) := (blk_cell (((HPa2.out).block G HGlt.out).trans HG6.out) 2).trans rfl; clear hr hb)
  go_wp2_with (first | (go_at_call 23; refine (rnums_own Ai ci o A1 c1 ln rc ec wa2 (Kd.C_below HCo6.out HPa2.out) HCo.out (Kd.C_below HRn.out (HB6.out.trans (HPa2.out.mono HB6.out.size))) HCn.out HDc.out).mono ?_; rintro e wb2 ⟨vb2, rfl, hr, hb⟩; have HOb2 := Aside0.mk hr; have HBb2 := Aside0.mk hb; clear hr hb) | (go_at_call 19; refine (wrote_yes wn1 wa2 wb2 va2 vb2 rc ec (HSc.out) HOa2.out HBa2.out HOb2.out HBb2.out).mono ?_; rintro e wn2 ⟨rfl, hb⟩; have HP3 := Aside0.mk (HP2.out.trans (hb.mono HP2.out.size)); have qc3 : wn2.cell? ⟨G, 3, none⟩ = some (.slice A3 r2.length c3) := (blk_cell (((HP3.out).block G HGlt.out).trans HG6.out) 3).trans rfl; clear hb))
  (refine (wire_Texts.calls Ai ci o A3 c3 r2 rd_ ed wn2 (Kd.C_below HCo6.out HP3.out) HCo.out (Kd.C_below HCt3.out (HB5x.out.trans (HP3.out.mono HB5x.out.size))) HCc3.out HDd.out).mono ?_; rintro e wa3 ⟨va3, rfl, hr, hb⟩; have HOa3 := Aside0.mk hr; have HBa3 := Aside0.mk hb; have HPa3 := Aside0.mk (HP3.out.trans (hb.mono HP3.out.size)); have qa3 : wa3.cell? ⟨G, 3, none⟩ = some (.slice A3 r2.length c3) := (blk_cell (((HPa3.out).block G HGlt.out).trans HG6.out) 3).trans rfl; clear hr hb)
  go_wp2_with (first | (go_at_call 25; refine (armillaryref01_Texts.calls Ai ci o A3 c3 r2 rd_ ed wa3 (Kd.C_below HCo6.out HPa3.out) HCo.out (Kd.C_below HCt3.out (HB5x.out.trans (HPa3.out.mono HB5x.out.size))) HCc3.out HRd.out).mono ?_; rintro e wb3 ⟨vb3, rfl, hr, hb⟩; have HOb3 := Aside0.mk hr; have HBb3 := Aside0.mk hb; clear hr hb) | (go_at_call 19; refine (wrote_yes wn2 wa3 wb3 va3 vb3 rd_ ed (HSd.out) HOa3.out HBa3.out HOb3.out HBb3.out).mono ?_; rintro e wn3 ⟨rfl, hb⟩; have HP4 := Aside0.mk (HP3.out.trans (hb.mono HP3.out.size)); skip; clear hb) | (go_at_call 13; refine (H.armillaryref00_EqBytes.calls Ai ci x Aw cw x true wn3 (Kd.C_below (Kd.R_reads' HOi6.out).2.2 HP4.out) (Kd.R_reads' HOi6.out).2.1 (Kd.C_below (Kd.R_reads' HOw.out).2.2 HP4.out) (Kd.R_reads' HOw.out).2.1 (congrArg some (beq_self_eq_true _))).mono ?_; rintro e w' ⟨rfl, ⟨nd, rfl⟩⟩) | (go_at_call 14; refine (armillarylaw01_works.calls true (wn3.drewN nd) rfl).mono ?_; rintro e w9 ⟨rfl, hb⟩; have HB9 := Aside0.mk ((pw_below_drewN (HB6.out.trans (HP4.out.mono HB6.out.size)) nd).trans (hb.mono (pw_below_drewN (HB6.out.trans (HP4.out.mono HB6.out.size)) nd).size)); clear hb))
  go_ret
  exact ⟨rfl, HB9.out⟩
end Go.Proofs.Ytcpnjlagmnlecaa.B6

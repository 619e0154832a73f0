/- Maps from numbers of facts to numbers: which have been come to. -/
import Derived.Test.YthkoockcfnbpiaaDoorProg
import Derived.Test.YthkoockcfnbpiaaDoorWWords
import Derived.Test.YthkoockcfnbpiaaDoorWLast
import Derived.Test.YthkoockcfnbpiaaDoorS1
namespace Go.Proofs.YthkoockcfnbpiaaDoor.M1
open Go.RowKit Go.Proofs.YthkoockcfnbpiaaDoorW.PrintWords Go.Proofs.YthkoockcfnbpiaaDoorW.PrintLast Go.Proofs.YthkoockcfnbpiaaDoorW.PrintMore Go.Proofs.YthkoockcfnbpiaaDoor G1
open Go.Proofs.YthkoockcfnbpiaaDoor.S0 (sum1 sum2 sum2_set sum2_bound laidO cellsI W64 w64_nat)
set_option linter.unusedVariables false
set_option linter.unusedSimpArgs false
set_option maxRecDepth 100000
theorem rowP : (72 : TypeId) < Tryd.prog.types.size := of_decide_eq_true (by kernel_rfl)
theorem wideP : (match Tryd.prog.underlying 72 with | some (.array _ _) | some (.struct _) => true | _ => false) = true := by kernel_rfl
theorem keyAtP : Tryd.prog.keyTypeAt 2 72 = true := by kernel_rfl
theorem lawP : Maps.Keyed Tryd.prog 72 := Maps.Keyed.of_law (deep_law_laid laidO (m := 2) (by decide) rowP keyAtP wideP)
theorem keyTP : Tryd.prog.keyType 72 = true := by kernel_rfl
theorem cellsP : Tryd.prog.cellsOf 72 = 2 := by kernel_rfl
def kk (a b : Int) : Lit := .string (keyBytes [.int .i64 a, .int .i64 b])
theorem sizeP : ∃ n, Tryd.prog.types.size + 1 = n + 2 := ⟨Tryd.prog.types.size - 1, by have : 0 < Tryd.prog.types.size := Nat.lt_of_le_of_lt (Nat.zero_le _) rowP; omega⟩
theorem formedP (a b : Value) : (Value.agg #[a, b]).formed Tryd.prog 72 = true := by simp [Value.formed, Tryd.underlying72, cellsP]
theorem key_mk {a b : Int} (ha : W64 a) (hb : W64 b) : keyOf Tryd.prog 72 (.agg #[.int .i64 a, .int .i64 b]) = some (kk a b) := by
  obtain ⟨n, hn⟩ := sizeP
  have ha' : (Lit.int .i64 a).wf = true := ha
  have hb' : (Lit.int .i64 b).wf = true := hb
  unfold keyOf
  rw [Tryd.underlying72]
  simp only [keyTP, formedP, Bool.and_self, if_true, hn]
  simp [Program.keyLits, Tryd.underlying72, Tryd.underlying3, cellsP, cellsI, Value.cells, ha', hb', kk]
theorem key_inv {v : Value} {kl : Lit} (h : keyOf Tryd.prog 72 v = some kl) : ∃ a b : Int, W64 a ∧ W64 b ∧ v = .agg #[.int .i64 a, .int .i64 b] ∧ kl = kk a b := by
  obtain ⟨n, hn⟩ := sizeP
  unfold keyOf at h
  rw [Tryd.underlying72] at h
  simp only [hn] at h
  split at h
  · rename_i hc
    simp only [keyTP, Bool.true_and] at hc
    cases v <;> simp [Value.formed, Tryd.underlying72, cellsP] at hc
    rename_i cs
    rcases cs with ⟨cs⟩
    rcases cs with _ | ⟨x, _ | ⟨y, _ | ⟨z, r⟩⟩⟩ <;> simp at hc
    have hk : ∀ v : Value, Tryd.prog.keyLits (n + 1) 3 [v] = match v with | .int q' m => if q' = .i64 ∧ (Lit.int q' m).wf = true then some [.int q' m] else none | _ => none := fun v => by
      cases v <;> simp [Program.keyLits, Tryd.underlying3]
      split
      · rename_i h; obtain ⟨rfl, h⟩ := h; simp [h]
      · rename_i h
        rw [if_neg (by rintro ⟨rfl, h2⟩; exact h ⟨rfl, h2⟩)]
    have h2 : Tryd.prog.keyLits (n + 2) 72 [x, y] = (Tryd.prog.keyLits (n + 1) 3 [x]).bind fun a => (Tryd.prog.keyLits (n + 1) 3 [y]).bind fun b => some (a ++ b) := by
      rw [Program.keyLits.eq_def]
      simp [Tryd.underlying72, cellsP, cellsI]
      cases Tryd.prog.keyLits (n + 1) 3 [x] <;> cases Tryd.prog.keyLits (n + 1) 3 [y] <;> simp
    simp only [Value.cells] at h
    rw [show (Tryd.prog.keyLits (n + 2) 72 [x, y]) = _ from h2, hk, hk] at h
    cases x
    all_goals first | (simp at h; done) | skip
    cases y
    all_goals first | (simp at h; done) | skip
    rename_i q a q' b
    by_cases h1 : q = .i64 ∧ (Lit.int q a).wf = true
    · obtain ⟨rfl, h1⟩ := h1
      by_cases h2 : q' = .i64 ∧ (Lit.int q' b).wf = true
      · obtain ⟨rfl, h2⟩ := h2
        simp [h1, h2] at h
        exact ⟨a, b, h1, h2, rfl, by rw [← h]; rfl⟩
      · simp [h1, h2] at h
    · simp [h1] at h
  · cases h
theorem kk_inj {a b a' b' : Int} (ha : W64 a) (hb : W64 b) (ha' : W64 a') (hb' : W64 b') (h : kk a b = kk a' b') : a = a' ∧ b = b' := by
  have := lawP.inj (key_mk ha hb) (h ▸ key_mk ha' hb')
  simp at this
  exact this
abbrev F2 := Nat → Nat → Option Nat
def vl (o : Option Nat) : Int := ((o.getD 0 : Nat) : Int)
def F2.put (f : F2) (a b : Nat) (v : Nat) : F2 := fun x y => if x = a ∧ y = b then some v else f x y
def F2.none_ : F2 := fun _ _ => none
def card (N : Nat) (f : F2) : Nat := sum2 N fun a b => if (f a b).isSome then 1 else 0
theorem card_le (N : Nat) (f : F2) : card N f ≤ N * N := by
  have := sum2_bound (N := N) (c := 1) (h := fun a b => if (f a b).isSome then 1 else 0) (fun a b _ _ => by split <;> omega)
  unfold card
  rwa [Nat.mul_one] at this
theorem put_same (f : F2) (a b : Nat) (v : Nat) : f.put a b v a b = some v := if_pos ⟨rfl, rfl⟩
theorem put_other (f : F2) (a b : Nat) (v : Nat) {x y : Nat} (h : ¬ (x = a ∧ y = b)) : f.put a b v x y = f x y := if_neg h
theorem card_put {N : Nat} (f : F2) {a b : Nat} (v : Nat) (ha : a < N) (hb : b < N) : card N (f.put a b v) = if (f a b).isSome then card N f else card N f + 1 := by
  have := sum2_set (N := N) (h := fun a b => if (f a b).isSome then 1 else 0) (k := fun x y => if (f.put a b v x y).isSome then 1 else 0) ha hb (fun x y hxy => by rw [put_other f a b v hxy])
  unfold card
  rw [put_same] at this
  simp only [Option.isSome_some, if_true] at this
  split <;> simp_all <;> omega
noncomputable abbrev RI : Value → Option (DataW Unit × List MemPlace) := plainElem Tryd.prog 3
def MpD (N : Nat) (f : F2) (D : DataW Unit) : Prop :=
  (∀ kl, Maps.has D kl = true → ∃ a b : Nat, a < N ∧ b < N ∧ kl = kk a b) ∧ (∀ a b : Nat, a < N → b < N → Maps.has D (kk a b) = (f a b).isSome ∧ ∀ v, f a b = some v → ∀ z, D.atKey (kk a b) z = .lit (.int .i64 (vl (some v)))) ∧
    (∀ a b : Nat, ¬ (a < N ∧ b < N) → f a b = none) ∧ Maps.size D = card N f
/-- Block m is a map that knows f of the places below N. -/
structure Mp (w : World) (m N : Nat) (f : F2) : Prop where
  small : N ≤ 2000
  ex : ∃ D : DataW Unit, w.ownsMap Tryd.prog 72 RI m (Maps.size D) D ∧ MpD N f D
theorem Mp.lt {w : World} {m N : Nat} {f : F2} (h : Mp w m N f) : m < w.heap.size := by obtain ⟨D, ho, _⟩ := h.ex; exact ho.lt
theorem Mp.kept {w w' : World} {m N : Nat} {f : F2} {row : Option Nat} (h : Mp w m N f) (hg : w.grownBy w' row) (hne : some m ≠ row) : Mp w' m N f := by
  obtain ⟨D, ho, hd⟩ := h.ex
  exact ⟨h.small, D, ho.kept hg hne, hd⟩
theorem Mp.alloc {w : World} {m N : Nat} {f : F2} (h : Mp w m N f) (o : Obj) : Mp (w.alloc o) m N f := h.kept (World.grownBy_alloc w o none) (by simp)
theorem Mp.drew {w : World} {m N : Nat} {f : F2} (h : Mp w m N f) : Mp w.drew m N f := by
  obtain ⟨D, ho, hd⟩ := h.ex
  exact ⟨h.small, D, ho.drew, hd⟩
theorem Mp.made (w : World) {N : Nat} (hN : N ≤ 2000) : Mp (w.alloc (.map #[] 0)) w.heap.size N F2.none_ := by
  refine ⟨hN, .map [], World.ownsMap_made _ _ _ _, ⟨fun kl h => by simp [Maps.has_eq] at h, fun a b _ _ => ⟨by simp [Maps.has_eq, F2.none_], fun v h => by simp [F2.none_] at h⟩, fun _ _ _ => rfl, ?_⟩⟩
  have : card N F2.none_ = 0 := by
    have := sum2_bound (N := N) (c := 0) (h := fun a b => if (F2.none_ a b).isSome then 1 else 0) (fun a b _ _ => by simp [F2.none_])
    unfold card
    simpa using this
  rw [this]; rfl
theorem Mp.ok {w : World} {m N : Nat} {f : F2} (h : Mp w m N f) {a b : Nat} (ha : a < N) (hb : b < N) : (Instr.lookup 66 (.map (some m)) (.agg #[.int .i64 a, .int .i64 b]) true).run Tryd.prog w = .ok (.tuple #[.int .i64 (vl (f a b)), .bool (f a b).isSome]) w := by
  have hN := h.small
  obtain ⟨D, ho, hd⟩ := h.ex
  obtain ⟨h1, h2⟩ := hd.2.1 a b ha hb
  obtain ⟨v, ps, hrun, hv⟩ := ho.look_ok lawP Tryd.underlying66 (zero3 w) (plainElem_int Tryd.underlying3 (by decide)) (key_mk (w64_nat (by omega : a < 2001)) (w64_nat (by omega : b < 2001)))
  obtain ⟨c, rfl, hc, _⟩ := plainElem_int_inv Tryd.underlying3 hv
  have hc := congrArg Prod.fst hc
  rw [hrun, h1]
  cases hf : f a b with
  | none =>
    rw [hf] at h1
    rw [Maps.atKey_of_not_has (by simpa using h1)] at hc
    simp at hc
    rw [← hc]; rfl
  | some v =>
    dsimp only at hc
    rw [h2 v hf] at hc
    simp at hc
    rw [← hc]
theorem Mp.look {w : World} {m N : Nat} {f : F2} (h : Mp w m N f) {a b : Nat} (ha : a < N) (hb : b < N) : (Instr.lookup 66 (.map (some m)) (.agg #[.int .i64 a, .int .i64 b]) false).run Tryd.prog w = .ok (.int .i64 (vl (f a b))) w := by
  have hN := h.small
  obtain ⟨D, ho, hd⟩ := h.ex
  obtain ⟨h1, h2⟩ := hd.2.1 a b ha hb
  obtain ⟨v, ps, hrun, hv⟩ := ho.lookup lawP Tryd.underlying66 (zero3 w) (plainElem_int Tryd.underlying3 (by decide)) (key_mk (w64_nat (by omega : a < 2001)) (w64_nat (by omega : b < 2001)))
  obtain ⟨c, rfl, hc, _⟩ := plainElem_int_inv Tryd.underlying3 hv
  have hc := congrArg Prod.fst hc
  rw [hrun]
  cases hf : f a b with
  | none =>
    rw [hf] at h1
    rw [Maps.atKey_of_not_has (by simpa using h1)] at hc
    simp at hc
    rw [← hc]; rfl
  | some v =>
    dsimp only at hc
    rw [h2 v hf] at hc
    simp at hc
    rw [← hc]
theorem own_fit {w : World} {b n : Nat} {D : DataW Unit} (h : w.ownsMap Tryd.prog 72 RI b n D) : w.ownsMap Tryd.prog 72 RI b (Maps.size D) D := by
  obtain ⟨es, cl, hb, F, _, e⟩ := h
  refine ⟨es, cl, hb, F, ?_, e⟩
  rw [e, Maps.size_eq, length_sorted]
  simp
theorem Mp.put {w : World} {m N : Nat} {f : F2} (h : Mp w m N f) {a b : Nat} (ha : a < N) (hb : b < N) (v : Nat) (hv : v ≤ 1000000) : ∃ w', (Instr.mapUpdate 66 (.map (some m)) (.agg #[.int .i64 a, .int .i64 b]) (.int .i64 (vl (some v)))).run Tryd.prog w = .ok () w' ∧ Mp w' m N (f.put a b v) ∧ w.grownBy w' (some m) := by
  have hN := h.small
  obtain ⟨D, ho, hd⟩ := h.ex
  have hT := ho.tidy lawP
  have hkey := key_mk (w64_nat (by omega : a < 2001)) (w64_nat (by omega : b < 2001))
  have hcl := card_le N f
  have hsz : Maps.size D < maxLen := by
    rw [hd.2.2.2]
    have : N * N ≤ 2000 * 2000 := Nat.mul_le_mul hN hN
    unfold maxLen; omega
  obtain ⟨w', hrun, ho', hg⟩ := ho.update lawP Tryd.underlying66 hsz hkey (plainElem_int (a := vl (some v)) Tryd.underlying3 (wf64 _ (by show (0:Int) ≤ ((v : Nat) : Int); omega) (by show ((v : Nat) : Int) ≤ _; omega)))
  refine ⟨w', hrun, ⟨hN, _, own_fit ho', ⟨fun kl hk => ?_, fun x y hx hy => ?_, fun x y hxy => ?_, ?_⟩⟩, hg⟩
  · by_cases e : kl = kk a b
    · exact ⟨a, b, ha, hb, e⟩
    · rw [Maps.has_put_other e] at hk
      exact hd.1 kl hk
  · by_cases e : x = a ∧ y = b
    · obtain ⟨rfl, rfl⟩ := e
      rw [put_same, Maps.has_put_same hT.isMap (lawP.key hkey)]
      refine ⟨rfl, fun v' hv' z => ?_⟩
      cases hv'
      exact Maps.atKey_put_same hT.isMap (lawP.key hkey) _ _
    · have hne : kk x y ≠ kk a b := fun e' => e (by
        have := kk_inj (w64_nat (by omega : x < 2001)) (w64_nat (by omega : y < 2001)) (w64_nat (by omega : a < 2001)) (w64_nat (by omega : b < 2001)) e'
        omega)
      rw [put_other f a b v e, Maps.has_put_other hne]
      refine ⟨(hd.2.1 x y hx hy).1, fun v' hv' z => ?_⟩
      rw [Maps.atKey_put_other hne]
      exact (hd.2.1 x y hx hy).2 v' hv' z
  · rw [put_other f a b v (by rintro ⟨rfl, rfl⟩; exact hxy ⟨ha, hb⟩)]
    exact hd.2.2.1 x y hxy
  · rw [Maps.size_put hT, card_put f v ha hb, (hd.2.1 a b ha hb).1, hd.2.2.2]
end Go.Proofs.YthkoockcfnbpiaaDoor.M1
namespace Go.Proofs.YthkoockcfnbpiaaDoor.M2
open Go.RowKit Go.Proofs.YthkoockcfnbpiaaDoorW.PrintWords Go.Proofs.YthkoockcfnbpiaaDoorW.PrintLast Go.Proofs.YthkoockcfnbpiaaDoorW.PrintMore Go.Proofs.YthkoockcfnbpiaaDoor G1
open Go.Proofs.YthkoockcfnbpiaaDoor.S0 (sum1 sum1_set sum1_bound)
set_option linter.unusedVariables false
set_option linter.unusedSimpArgs false
set_option maxRecDepth 100000
noncomputable abbrev RI : Value → Option (DataW Unit × List MemPlace) := plainElem Tryd.prog 3
def cnt (N : Nat) (f : Nat → Bool) : Nat := sum1 N fun a => if f a then 1 else 0
def put (f : Nat → Bool) (a : Nat) : Nat → Bool := fun x => decide (x = a) || f x
theorem cnt_le (N : Nat) (f : Nat → Bool) : cnt N f ≤ N := by
  have := sum1_bound (n := N) (c := 1) (h := fun a => if f a then 1 else 0) (fun a _ => by split <;> omega)
  unfold cnt
  omega
theorem cnt_put {N : Nat} (f : Nat → Bool) {a : Nat} (ha : a < N) : cnt N (put f a) = if f a then cnt N f else cnt N f + 1 := by
  have h := sum1_set (n := N) (h := fun a => if f a then 1 else 0) (k := fun x => if put f a x then 1 else 0) (i0 := a) ha (fun i _ hne => by simp [put, hne])
  unfold cnt
  have e : (if put f a a then 1 else 0) = 1 := by simp [put]
  rw [e] at h
  split at h <;> rename_i hf <;> simp [hf] <;> omega
def lit (a : Nat) : Lit := .int .i64 (a : Int)
theorem key_mk {a : Nat} (h : a < 1000000) : keyOf Tryd.prog 3 (.int .i64 (a : Int)) = some (lit a) := Maps.keyOf_int_mk Tryd.underlying3 (wf64 _ (by omega) (by omega))
theorem lit_inj {a b : Nat} (h : lit a = lit b) : a = b := by
  unfold lit at h
  injection h with _ h
  omega
structure Ms (w : World) (m N : Nat) (f : Nat → Bool) : Prop where
  small : N ≤ 100000
  ex : ∃ D : DataW Unit, w.ownsMap Tryd.prog 3 RI m (Maps.size D) D ∧ (∀ a, a < N → Maps.has D (lit a) = f a ∧ (f a = true → ∀ z, D.atKey (lit a) z = .lit (.int .i64 1))) ∧ Maps.size D = cnt N f
theorem Ms.lt {w : World} {m N : Nat} {f : Nat → Bool} (h : Ms w m N f) : m < w.heap.size := by obtain ⟨D, ho, _⟩ := h.ex; exact ho.lt
theorem Ms.kept {w w' : World} {m N : Nat} {f : Nat → Bool} {row : Option Nat} (h : Ms w m N f) (hg : w.grownBy w' row) (hne : some m ≠ row) : Ms w' m N f := by
  obtain ⟨D, ho, hd⟩ := h.ex
  exact ⟨h.small, D, ho.kept hg hne, hd⟩
theorem Ms.made (w : World) {N : Nat} (hN : N ≤ 100000) : Ms (w.alloc (.map #[] 0)) w.heap.size N (fun _ => false) := by
  refine ⟨hN, .map [], World.ownsMap_made _ _ _ _, fun a _ => ⟨by simp [Maps.has_eq], fun h => by cases h⟩, ?_⟩
  have := sum1_bound (n := N) (c := 0) (h := fun a => if (fun _ => false : Nat → Bool) a then 1 else 0) (fun a _ => by simp)
  have h2 : cnt N (fun _ => false) = 0 := by unfold cnt; omega
  rw [h2]; rfl
theorem own_fit {w : World} {b n : Nat} {D : DataW Unit} (h : w.ownsMap Tryd.prog 3 RI b n D) : w.ownsMap Tryd.prog 3 RI b (Maps.size D) D := by
  obtain ⟨es, cl, hb, F, _, e⟩ := h
  refine ⟨es, cl, hb, F, ?_, e⟩
  rw [e, Maps.size_eq, length_sorted]
  simp
theorem Ms.look {w : World} {m N : Nat} {f : Nat → Bool} (h : Ms w m N f) {a : Nat} (ha : a < N) : (Instr.lookup 79 (.map (some m)) (.int .i64 (a : Int)) false).run Tryd.prog w = .ok (.int .i64 (if f a then 1 else 0)) w := by
  have hN := h.small
  obtain ⟨D, ho, hd, _⟩ := h.ex
  obtain ⟨h1, h2⟩ := hd a ha
  obtain ⟨v, ps, hrun, hv⟩ := ho.lookup key3 Tryd.underlying79 (zero3 w) (plainElem_int Tryd.underlying3 (by decide)) (key_mk (by omega : a < 1000000))
  obtain ⟨c, rfl, hc, _⟩ := plainElem_int_inv Tryd.underlying3 hv
  have hc := congrArg Prod.fst hc
  rw [hrun]
  cases hf : f a with
  | false =>
    rw [hf] at h1
    rw [Maps.atKey_of_not_has (by simpa using h1)] at hc
    simp at hc
    rw [← hc]; rfl
  | true =>
    dsimp only at hc
    rw [h2 hf] at hc
    simp at hc
    rw [← hc]; rfl
theorem Ms.put {w : World} {m N : Nat} {f : Nat → Bool} (h : Ms w m N f) {a : Nat} (ha : a < N) : ∃ w', (Instr.mapUpdate 79 (.map (some m)) (.int .i64 (a : Int)) (.int .i64 1)).run Tryd.prog w = .ok () w' ∧ Ms w' m N (M2.put f a) ∧ w.grownBy w' (some m) := by
  have hN := h.small
  obtain ⟨D, ho, hd, hs⟩ := h.ex
  have hT := ho.tidy key3
  have hkey := key_mk (by omega : a < 1000000)
  have hcl := cnt_le N f
  have hsz : Maps.size D < maxLen := by rw [hs]; unfold maxLen; omega
  obtain ⟨w', hrun, ho', hg⟩ := ho.update key3 Tryd.underlying79 hsz hkey (plainElem_int (a := 1) Tryd.underlying3 (by decide))
  refine ⟨w', hrun, ⟨hN, _, own_fit ho', fun x hx => ?_, ?_⟩, hg⟩
  · by_cases e : x = a
    · subst e
      rw [Maps.has_put_same hT.isMap (key3.key hkey)]
      exact ⟨by simp [M2.put], fun _ z => Maps.atKey_put_same hT.isMap (key3.key hkey) _ _⟩
    · have hne : lit x ≠ lit a := fun e' => e (lit_inj e')
      rw [Maps.has_put_other hne]
      refine ⟨by rw [(hd x hx).1]; simp [M2.put, e], fun hv z => ?_⟩
      rw [Maps.atKey_put_other hne]
      exact (hd x hx).2 (by simpa [M2.put, e] using hv) z
  · rw [Maps.size_put hT, cnt_put f ha, (hd a ha).1, hs]
end Go.Proofs.YthkoockcfnbpiaaDoor.M2

/- Maps from pairs of places to numbers. -/
import Derived.Test.YtgppcpghpeenhaaDoorProg
import Derived.Test.YtgppcpghpeenhaaDoorWWords
import Derived.Test.YtgppcpghpeenhaaDoorWLast
import Derived.Test.YtgppcpghpeenhaaDoorG2
import Derived.Maps.RangeWalk
import Derived.DeepKeys4
namespace Go.Proofs.YtgppcpghpeenhaaDoor.S0
open Go.RowKit Go.Proofs.YtgppcpghpeenhaaDoorW.PrintWords Go.Proofs.YtgppcpghpeenhaaDoorW.PrintLast Go.Proofs.YtgppcpghpeenhaaDoorW.PrintMore Go.Proofs.YtgppcpghpeenhaaDoor G1
set_option linter.unusedVariables false
set_option linter.unusedSimpArgs false
set_option maxRecDepth 100000
theorem rowP : (49 : TypeId) < Tryd.prog.types.size := of_decide_eq_true (by kernel_rfl)
theorem wideP : (match Tryd.prog.underlying 49 with | some (.array _ _) | some (.struct _) => true | _ => false) = true := by kernel_rfl
theorem keyAtP : Tryd.prog.keyTypeAt 2 49 = true := by kernel_rfl
theorem laidO : laidOutB Tryd.prog = true := by kernel_rfl
theorem lawP : Maps.Keyed Tryd.prog 49 := Maps.Keyed.of_law (deep_law_laid laidO (m := 2) (by decide) rowP keyAtP wideP)
theorem keyTP : Tryd.prog.keyType 49 = true := by kernel_rfl
theorem cellsP : Tryd.prog.cellsOf 49 = 2 := by kernel_rfl
theorem cellsI : Tryd.prog.cellsOf 3 = 1 := by kernel_rfl
def kk (a b : Int) : Lit := .string (keyBytes [.int .i64 a, .int .i64 b])
def W64 (a : Int) : Prop := (Lit.int .i64 a).wf = true
theorem sizeP : ∃ n, Tryd.prog.types.size + 1 = n + 2 := ⟨Tryd.prog.types.size - 1, by have : 0 < Tryd.prog.types.size := Nat.lt_of_le_of_lt (Nat.zero_le _) rowP; omega⟩
theorem formedP (a b : Value) : (Value.agg #[a, b]).formed Tryd.prog 49 = true := by simp [Value.formed, Tryd.underlying49, cellsP]
theorem key_mk {a b : Int} (ha : W64 a) (hb : W64 b) : keyOf Tryd.prog 49 (.agg #[.int .i64 a, .int .i64 b]) = some (kk a b) := by
  obtain ⟨n, hn⟩ := sizeP
  have ha' : (Lit.int .i64 a).wf = true := ha
  have hb' : (Lit.int .i64 b).wf = true := hb
  unfold keyOf
  rw [Tryd.underlying49]
  simp only [keyTP, formedP, Bool.and_self, if_true, hn]
  simp [Program.keyLits, Tryd.underlying49, Tryd.underlying3, cellsP, cellsI, Value.cells, ha', hb', kk]
theorem key_inv {v : Value} {kl : Lit} (h : keyOf Tryd.prog 49 v = some kl) : ∃ a b : Int, W64 a ∧ W64 b ∧ v = .agg #[.int .i64 a, .int .i64 b] ∧ kl = kk a b := by
  obtain ⟨n, hn⟩ := sizeP
  unfold keyOf at h
  rw [Tryd.underlying49] at h
  simp only [hn] at h
  split at h
  · rename_i hc
    simp only [keyTP, Bool.true_and] at hc
    cases v <;> simp [Value.formed, Tryd.underlying49, cellsP] at hc
    rename_i cs
    rcases cs with ⟨cs⟩
    rcases cs with _ | ⟨x, _ | ⟨y, _ | ⟨z, r⟩⟩⟩ <;> simp at hc
    have hk : ∀ v : Value, Tryd.prog.keyLits (n + 1) 3 [v] = match v with | .int q' m => if q' = .i64 ∧ (Lit.int q' m).wf = true then some [.int q' m] else none | _ => none := fun v => by
      cases v <;> simp [Program.keyLits, Tryd.underlying3]
      split
      · rename_i h; obtain ⟨rfl, h⟩ := h; simp [h]
      · rename_i h
        rw [if_neg (by rintro ⟨rfl, h2⟩; exact h ⟨rfl, h2⟩)]
    have h2 : Tryd.prog.keyLits (n + 2) 49 [x, y] = (Tryd.prog.keyLits (n + 1) 3 [x]).bind fun a => (Tryd.prog.keyLits (n + 1) 3 [y]).bind fun b => some (a ++ b) := by
      rw [Program.keyLits.eq_def]
      simp [Tryd.underlying49, cellsP, cellsI]
      cases Tryd.prog.keyLits (n + 1) 3 [x] <;> cases Tryd.prog.keyLits (n + 1) 3 [y] <;> simp
    simp only [Value.cells] at h
    rw [show (Tryd.prog.keyLits (n + 2) 49 [x, y]) = _ from h2, hk, hk] at h
    cases x
    all_goals first | (simp at h; done) | skip
    cases y
    all_goals first | (simp at h; done) | skip
    rename_i q a q' b
    by_cases h1 : q = .i64 ∧ (Lit.int q a).wf = true
    · obtain ⟨rfl, h1⟩ := h1
      by_cases h2 : q' = .i64 ∧ (Lit.int q' b).wf = true
      · obtain ⟨rfl, h2⟩ := h2
        simp [h1, h2] at h
        exact ⟨a, b, h1, h2, rfl, by rw [← h]; rfl⟩
      · simp [h1, h2] at h
    · simp [h1] at h
  · cases h
theorem kk_inj {a b a' b' : Int} (ha : W64 a) (hb : W64 b) (ha' : W64 a') (hb' : W64 b') (h : kk a b = kk a' b') : a = a' ∧ b = b' := by
  have := lawP.inj (key_mk ha hb) (h ▸ key_mk ha' hb')
  simp at this
  exact this
theorem w64_nat {a : Nat} (h : a < 2001) : W64 (a : Int) := wf64 _ (by omega) (by omega)
def sum1 : Nat → (Nat → Nat) → Nat
  | 0, _ => 0
  | n + 1, h => sum1 n h + h n
theorem sum1_le {h k : Nat → Nat} : ∀ {n : Nat}, (∀ i, i < n → h i ≤ k i) → sum1 n h ≤ sum1 n k
  | 0, _ => Nat.le_refl _
  | n + 1, hh => Nat.add_le_add (sum1_le (fun i hi => hh i (by omega))) (hh n (by omega))
theorem sum1_eq {h k : Nat → Nat} : ∀ {n : Nat}, (∀ i, i < n → h i ≤ k i) → sum1 n h = sum1 n k → ∀ i, i < n → h i = k i
  | 0, _, _, i, hi => by omega
  | n + 1, hh, he, i, hi => by
    have h1 := sum1_le (n := n) (fun i hi => hh i (by omega))
    have h2 := hh n (by omega)
    have he' : sum1 n h + h n = sum1 n k + k n := he
    by_cases hin : i = n
    · subst hin; omega
    · exact sum1_eq (n := n) (fun i hi => hh i (by omega)) (by omega) i (by omega)
theorem sum1_set {h k : Nat → Nat} {i0 : Nat} : ∀ {n : Nat}, i0 < n → (∀ i, i < n → i ≠ i0 → k i = h i) → sum1 n k + h i0 = sum1 n h + k i0
  | 0, h0, _ => by omega
  | n + 1, h0, hh => by
    show sum1 n k + k n + h i0 = sum1 n h + h n + k i0
    by_cases hin : i0 = n
    · have e : ∀ {m : Nat}, m ≤ n → sum1 m k = sum1 m h := by
        intro m
        induction m with
        | zero => intro _; rfl
        | succ m ih =>
          intro hm
          show sum1 m k + k m = sum1 m h + h m
          rw [ih (by omega), hh m (by omega) (by omega)]
      rw [e (Nat.le_refl n), hin]
      omega
    · have := sum1_set (n := n) (by omega) (fun i hi hne => hh i (by omega) hne)
      have := hh n (by omega) (by omega)
      omega
theorem sum1_bound {h : Nat → Nat} {c : Nat} : ∀ {n : Nat}, (∀ i, i < n → h i ≤ c) → sum1 n h ≤ n * c
  | 0, _ => by simp [sum1]
  | n + 1, hh => by
    have := sum1_bound (n := n) (fun i hi => hh i (by omega))
    have := hh n (by omega)
    show sum1 n h + h n ≤ _
    rw [Nat.succ_mul]
    omega
def sum2 (N : Nat) (h : Nat → Nat → Nat) : Nat := sum1 N fun a => sum1 N (h a)
theorem sum2_le {N : Nat} {h k : Nat → Nat → Nat} (hh : ∀ a b, a < N → b < N → h a b ≤ k a b) : sum2 N h ≤ sum2 N k := sum1_le fun a ha => sum1_le fun b hb => hh a b ha hb
theorem sum2_eq {N : Nat} {h k : Nat → Nat → Nat} (hh : ∀ a b, a < N → b < N → h a b ≤ k a b) (he : sum2 N h = sum2 N k) : ∀ a b, a < N → b < N → h a b = k a b := fun a b ha hb =>
  sum1_eq (fun b hb => hh a b ha hb) (sum1_eq (fun a ha => sum1_le fun b hb => hh a b ha hb) he a ha) b hb
theorem sum2_set {N : Nat} {h k : Nat → Nat → Nat} {a0 b0 : Nat} (ha : a0 < N) (hb : b0 < N) (hh : ∀ a b, ¬ (a = a0 ∧ b = b0) → k a b = h a b) : sum2 N k + h a0 b0 = sum2 N h + k a0 b0 := by
  have h1 := sum1_set (h := h a0) (k := k a0) hb (fun b _ hne => hh a0 b (by omega))
  have h2 := sum1_set (h := fun a => sum1 N (h a)) (k := fun a => sum1 N (k a)) ha (fun a _ hne => by
    have : k a = h a := funext fun b => hh a b (by omega)
    show sum1 N (k a) = sum1 N (h a)
    rw [this])
  unfold sum2
  omega
theorem sum2_bound {N c : Nat} {h : Nat → Nat → Nat} (hh : ∀ a b, a < N → b < N → h a b ≤ c) : sum2 N h ≤ N * (N * c) := sum1_bound fun a ha => sum1_bound fun b hb => hh a b ha hb
abbrev F2 := Nat → Nat → Option Bool
def vl : Option Bool → Int
  | some true => 1
  | _ => 0
def F2.put (f : F2) (a b : Nat) (v : Bool) : F2 := fun x y => if x = a ∧ y = b then some v else f x y
def F2.none_ : F2 := fun _ _ => none
def card (N : Nat) (f : F2) : Nat := sum2 N fun a b => if (f a b).isSome then 1 else 0
def mu (N : Nat) (f : F2) : Nat := sum2 N fun a b => match f a b with | none => 2 | some true => 1 | some false => 0
theorem card_le (N : Nat) (f : F2) : card N f ≤ N * N := by
  have := sum2_bound (N := N) (c := 1) (h := fun a b => if (f a b).isSome then 1 else 0) (fun a b _ _ => by split <;> omega)
  unfold card
  rwa [Nat.mul_one] at this
theorem put_same (f : F2) (a b : Nat) (v : Bool) : f.put a b v a b = some v := if_pos ⟨rfl, rfl⟩
theorem put_other (f : F2) (a b : Nat) (v : Bool) {x y : Nat} (h : ¬ (x = a ∧ y = b)) : f.put a b v x y = f x y := if_neg h
theorem card_put {N : Nat} (f : F2) {a b : Nat} (v : Bool) (ha : a < N) (hb : b < N) : card N (f.put a b v) = if (f a b).isSome then card N f else card N f + 1 := by
  have := sum2_set (N := N) (h := fun a b => if (f a b).isSome then 1 else 0) (k := fun x y => if (f.put a b v x y).isSome then 1 else 0) ha hb (fun x y hxy => by rw [put_other f a b v hxy])
  unfold card
  rw [put_same] at this
  simp only [Option.isSome_some, if_true] at this
  split <;> simp_all <;> omega
noncomputable abbrev RI : Value → Option (DataW Unit × List MemPlace) := plainElem Tryd.prog 3
def MpD (N : Nat) (f : F2) (D : DataW Unit) : Prop :=
  (∀ kl, Maps.has D kl = true → ∃ a b : Nat, a < N ∧ b < N ∧ kl = kk a b) ∧ (∀ a b : Nat, a < N → b < N → Maps.has D (kk a b) = (f a b).isSome ∧ ∀ v, f a b = some v → ∀ z, D.atKey (kk a b) z = .lit (.int .i64 (vl (some v)))) ∧
    (∀ a b : Nat, ¬ (a < N ∧ b < N) → f a b = none) ∧ Maps.size D = card N f
/-- Block m is a map that knows f of the places below N. -/
structure Mp (w : World) (m N : Nat) (f : F2) : Prop where
  small : N ≤ 2000
  ex : ∃ D : DataW Unit, w.ownsMap Tryd.prog 49 RI m (Maps.size D) D ∧ MpD N f D
theorem Mp.lt {w : World} {m N : Nat} {f : F2} (h : Mp w m N f) : m < w.heap.size := by obtain ⟨D, ho, _⟩ := h.ex; exact ho.lt
theorem Mp.kept {w w' : World} {m N : Nat} {f : F2} {row : Option Nat} (h : Mp w m N f) (hg : w.grownBy w' row) (hne : some m ≠ row) : Mp w' m N f := by
  obtain ⟨D, ho, hd⟩ := h.ex
  exact ⟨h.small, D, ho.kept hg hne, hd⟩
theorem Mp.alloc {w : World} {m N : Nat} {f : F2} (h : Mp w m N f) (o : Obj) : Mp (w.alloc o) m N f := h.kept (World.grownBy_alloc w o none) (by simp)
theorem Mp.drew {w : World} {m N : Nat} {f : F2} (h : Mp w m N f) : Mp w.drew m N f := by
  obtain ⟨D, ho, hd⟩ := h.ex
  exact ⟨h.small, D, ho.drew, hd⟩
theorem Mp.made (w : World) {N : Nat} (hN : N ≤ 2000) : Mp (w.alloc (.map #[] 0)) w.heap.size N F2.none_ := by
  refine ⟨hN, .map [], World.ownsMap_made _ _ _ _, ⟨fun kl h => by simp [Maps.has_eq] at h, fun a b _ _ => ⟨by simp [Maps.has_eq, F2.none_], fun v h => by simp [F2.none_] at h⟩, fun _ _ _ => rfl, ?_⟩⟩
  have : card N F2.none_ = 0 := by
    have := sum2_bound (N := N) (c := 0) (h := fun a b => if (F2.none_ a b).isSome then 1 else 0) (fun a b _ _ => by simp [F2.none_])
    unfold card
    simpa using this
  rw [this]; rfl
theorem Mp.one {w : World} {m N : Nat} {f f' : F2} (h : Mp w m N f) (h' : Mp w m N f') : f = f' := by
  obtain ⟨D, ⟨es, cl, hb, _, _, e⟩, _, hd, hn, _⟩ := h.ex
  obtain ⟨D', ⟨es', cl', hb', _, _, e'⟩, _, hd', hn', _⟩ := h'.ex
  rw [hb] at hb'
  cases hb'
  rw [← e] at e'
  subst e'
  funext a b
  by_cases hab : a < N ∧ b < N
  · obtain ⟨h1, h2⟩ := hd a b hab.1 hab.2
    obtain ⟨h1', h2'⟩ := hd' a b hab.1 hab.2
    rw [h1] at h1'
    cases hf : f a b with
    | none => cases hf' : f' a b with
      | none => rfl
      | some v => rw [hf, hf'] at h1'; cases h1'
    | some v => cases hf' : f' a b with
      | none => rw [hf, hf'] at h1'; cases h1'
      | some v' =>
        have e1 := h2 v hf .nil
        rw [h2' v' hf' .nil] at e1
        cases v <;> cases v' <;> simp [vl] at e1 <;> rfl
  · rw [hn a b hab, hn' a b hab]
open Classical in
/-- What the map knows. -/
noncomputable def fOf (w : World) (m N : Nat) : F2 := if h : ∃ f, Mp w m N f then Classical.choose h else F2.none_
theorem Mp.fOf {w : World} {m N : Nat} {f : F2} (h : Mp w m N f) : fOf w m N = f := by
  unfold S0.fOf
  rw [dif_pos ⟨f, h⟩]
  exact (Classical.choose_spec (⟨f, h⟩ : ∃ f, Mp w m N f)).one h
theorem Mp.len {w : World} {m N : Nat} {f : F2} (h : Mp w m N f) (ty : TypeId) : (Builtin.len_ #[51] ty #[.map (some m)]).run Tryd.prog w = .ok (.int .i64 (card N f)) w := by
  obtain ⟨D, ho, hd⟩ := h.ex
  rw [← hd.2.2.2]
  exact ho.len Tryd.underlying51 ty
theorem Mp.ok {w : World} {m N : Nat} {f : F2} (h : Mp w m N f) {a b : Nat} (ha : a < N) (hb : b < N) : (Instr.lookup 51 (.map (some m)) (.agg #[.int .i64 a, .int .i64 b]) true).run Tryd.prog w = .ok (.tuple #[.int .i64 (vl (f a b)), .bool (f a b).isSome]) w := by
  have hN := h.small
  obtain ⟨D, ho, hd⟩ := h.ex
  obtain ⟨h1, h2⟩ := hd.2.1 a b ha hb
  obtain ⟨v, ps, hrun, hv⟩ := ho.look_ok lawP Tryd.underlying51 (zero3 w) (plainElem_int Tryd.underlying3 (by decide)) (key_mk (w64_nat (by omega : a < 2001)) (w64_nat (by omega : b < 2001)))
  obtain ⟨c, rfl, hc, _⟩ := plainElem_int_inv Tryd.underlying3 hv
  have hc := congrArg Prod.fst hc
  rw [hrun, h1]
  cases hf : f a b with
  | none =>
    rw [hf] at h1
    rw [Maps.atKey_of_not_has (by simpa using h1)] at hc
    simp at hc
    rw [← hc]; rfl
  | some v =>
    dsimp only at hc
    rw [h2 v hf] at hc
    simp at hc
    rw [← hc]
theorem Mp.look {w : World} {m N : Nat} {f : F2} (h : Mp w m N f) {a b : Nat} (ha : a < N) (hb : b < N) : (Instr.lookup 51 (.map (some m)) (.agg #[.int .i64 a, .int .i64 b]) false).run Tryd.prog w = .ok (.int .i64 (vl (f a b))) w := by
  have hN := h.small
  obtain ⟨D, ho, hd⟩ := h.ex
  obtain ⟨h1, h2⟩ := hd.2.1 a b ha hb
  obtain ⟨v, ps, hrun, hv⟩ := ho.lookup lawP Tryd.underlying51 (zero3 w) (plainElem_int Tryd.underlying3 (by decide)) (key_mk (w64_nat (by omega : a < 2001)) (w64_nat (by omega : b < 2001)))
  obtain ⟨c, rfl, hc, _⟩ := plainElem_int_inv Tryd.underlying3 hv
  have hc := congrArg Prod.fst hc
  rw [hrun]
  cases hf : f a b with
  | none =>
    rw [hf] at h1
    rw [Maps.atKey_of_not_has (by simpa using h1)] at hc
    simp at hc
    rw [← hc]; rfl
  | some v =>
    dsimp only at hc
    rw [h2 v hf] at hc
    simp at hc
    rw [← hc]
theorem own_fit {w : World} {b n : Nat} {D : DataW Unit} (h : w.ownsMap Tryd.prog 49 RI b n D) : w.ownsMap Tryd.prog 49 RI b (Maps.size D) D := by
  obtain ⟨es, cl, hb, F, _, e⟩ := h
  refine ⟨es, cl, hb, F, ?_, e⟩
  rw [e, Maps.size_eq, length_sorted]
  simp
theorem Mp.put {w : World} {m N : Nat} {f : F2} (h : Mp w m N f) {a b : Nat} (ha : a < N) (hb : b < N) (v : Bool) : ∃ w', (Instr.mapUpdate 51 (.map (some m)) (.agg #[.int .i64 a, .int .i64 b]) (.int .i64 (vl (some v)))).run Tryd.prog w = .ok () w' ∧ Mp w' m N (f.put a b v) ∧ w.grownBy w' (some m) := by
  have hN := h.small
  obtain ⟨D, ho, hd⟩ := h.ex
  have hT := ho.tidy lawP
  have hkey := key_mk (w64_nat (by omega : a < 2001)) (w64_nat (by omega : b < 2001))
  have hcl := card_le N f
  have hsz : Maps.size D < maxLen := by
    rw [hd.2.2.2]
    have : N * N ≤ 2000 * 2000 := Nat.mul_le_mul hN hN
    unfold maxLen; omega
  obtain ⟨w', hrun, ho', hg⟩ := ho.update lawP Tryd.underlying51 hsz hkey (plainElem_int (a := vl (some v)) Tryd.underlying3 (by cases v <;> decide))
  refine ⟨w', hrun, ⟨hN, _, own_fit ho', ⟨fun kl hk => ?_, fun x y hx hy => ?_, fun x y hxy => ?_, ?_⟩⟩, hg⟩
  · by_cases e : kl = kk a b
    · exact ⟨a, b, ha, hb, e⟩
    · rw [Maps.has_put_other e] at hk
      exact hd.1 kl hk
  · by_cases e : x = a ∧ y = b
    · obtain ⟨rfl, rfl⟩ := e
      rw [put_same, Maps.has_put_same hT.isMap (lawP.key hkey)]
      refine ⟨rfl, fun v' hv' z => ?_⟩
      cases hv'
      exact Maps.atKey_put_same hT.isMap (lawP.key hkey) _ _
    · have hne : kk x y ≠ kk a b := fun e' => e (by
        have := kk_inj (w64_nat (by omega : x < 2001)) (w64_nat (by omega : y < 2001)) (w64_nat (by omega : a < 2001)) (w64_nat (by omega : b < 2001)) e'
        omega)
      rw [put_other f a b v e, Maps.has_put_other hne]
      refine ⟨(hd.2.1 x y hx hy).1, fun v' hv' z => ?_⟩
      rw [Maps.atKey_put_other hne]
      exact (hd.2.1 x y hx hy).2 v' hv' z
  · rw [put_other f a b v (by rintro ⟨rfl, rfl⟩; exact hxy ⟨ha, hb⟩)]
    exact hd.2.2.1 x y hxy
  · rw [Maps.size_put hT, card_put f v ha hb, (hd.2.1 a b ha hb).1, hd.2.2.2]
end Go.Proofs.YtgppcpghpeenhaaDoor.S0

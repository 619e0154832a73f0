/- The solver's rules. -/
import Derived.Test.YtgppcpghpeenhaaDoorProg
import Derived.Test.YtgppcpghpeenhaaDoorWWords
import Derived.Test.YtgppcpghpeenhaaDoorWLast
import Derived.Test.YtgppcpghpeenhaaDoorS2
namespace Go.Proofs.YtgppcpghpeenhaaDoor.S3
open Go.RowKit Go.Proofs.YtgppcpghpeenhaaDoorW.PrintWords Go.Proofs.YtgppcpghpeenhaaDoorW.PrintLast Go.Proofs.YtgppcpghpeenhaaDoorW.PrintMore Go.Proofs.YtgppcpghpeenhaaDoor L1 G1 G2 S0 S1 S2
set_option linter.unusedVariables false
set_option linter.unusedSimpArgs false
structure Bx (w : World) (q : Nat) (x : GN) (Ak : Option Addr) (ck : Nat) (Al : Option Addr) (cl : Nat) : Prop where
  c0 : w.cell? ⟨q, 0, none⟩ = some (.int .i64 x.f0)
  c1 : w.cell? ⟨q, 1, none⟩ = some (.int .i64 x.f1)
  c2 : w.cell? ⟨q, 2, none⟩ = some (.string x.f2)
  c3 : w.cell? ⟨q, 3, none⟩ = some (.slice Ak x.f3.length ck)
  c4 : w.cell? ⟨q, 4, none⟩ = some (.slice Al x.f4.length cl)
theorem box_new (w : World) (x : GN) (Ak : Option Addr) (ck : Nat) (Al : Option Addr) (cl : Nat) : Bx (w.alloc (.cells #[.int .i64 x.f0, .int .i64 x.f1, .string x.f2, .slice Ak x.f3.length ck, .slice Al x.f4.length cl] 33)) w.heap.size x Ak ck Al cl := by
  have h := heap_alloc_new w (.cells #[.int .i64 x.f0, .int .i64 x.f1, .string x.f2, .slice Ak x.f3.length ck, .slice Al x.f4.length cl] 33)
  exact ⟨(blk_cell h 0).trans rfl, (blk_cell h 1).trans rfl, (blk_cell h 2).trans rfl, (blk_cell h 3).trans rfl, (blk_cell h 4).trans rfl⟩
theorem Bx.grown {w w' : World} {q : Nat} {x : GN} {Ak : Option Addr} {ck : Nat} {Al : Option Addr} {cl : Nat} {row : Option Nat} (h : Bx w q x Ak ck Al cl) (hg : w.grownBy w' row) (hne : some q ≠ row) : Bx w' q x Ak ck Al cl :=
  ⟨hg.cell h.c0 hne, hg.cell h.c1 hne, hg.cell h.c2 hne, hg.cell h.c3 hne, hg.cell h.c4 hne⟩
theorem Bx.lt {w : World} {q : Nat} {x : GN} {Ak : Option Addr} {ck : Nat} {Al : Option Addr} {cl : Nat} (h : Bx w q x Ak ck Al cl) : q < w.heap.size := World.block_lt_of_cell? w _ h.c0
/-- A node's parts in memory. -/
structure Nd (w0 : World) (x : GN) (Ak : Option Addr) (ck : Nat) (Al : Option Addr) (cl : Nat) : Prop where
  ks : Kd.C Kd.string w0 Ak x.f3.length x.f3
  kc : x.f3.length ≤ ck
  ls : Kd.C (Kd.int .i64) w0 Al x.f4.length x.f4
  lc : x.f4.length ≤ cl
/-- A solver in memory. -/
structure Sv (w0 w : World) (sb m : Nat) (A0 : Option Addr) (c0 : Nat) (g : List GN) (st : Bool) (f : F2) : Prop where
  old : Below w0.heap.size w0 w
  hm : w0.heap.size ≤ m
  ne : sb ≠ m
  z0 : w.cell? ⟨sb, 0, none⟩ = some (.slice A0 g.length c0)
  z1 : w.cell? ⟨sb, 1, none⟩ = some (.bool st)
  z2 : w.cell? ⟨sb, 2, none⟩ = some (.map (some m))
  mp : Mp w m g.length f
  gr : Kd.C P.k33 w0 A0 g.length g
  gc : g.length ≤ c0
  ok : checkP g = 0
theorem Sv.grown {w0 w w' : World} {sb m : Nat} {A0 : Option Addr} {c0 : Nat} {g : List GN} {st : Bool} {f f' : F2} (h : Sv w0 w sb m A0 c0 g st f) (hg : w.grownBy w' (some m)) (hm : Mp w' m g.length f') : Sv w0 w' sb m A0 c0 g st f' :=
  have hne : some sb ≠ some m := fun e => h.ne (by cases e; rfl)
  ⟨h.old.grown hg h.old.size (fun k hk => by cases hk; exact h.hm), h.hm, h.ne, hg.cell h.z0 hne, hg.cell h.z1 hne, hg.cell h.z2 hne, hm, h.gr, h.gc, h.ok⟩
theorem Sv.alloc {w0 w : World} {sb m : Nat} {A0 : Option Addr} {c0 : Nat} {g : List GN} {st : Bool} {f : F2} (h : Sv w0 w sb m A0 c0 g st f) (o : Obj) : Sv w0 (w.alloc o) sb m A0 c0 g st f := h.grown (World.grownBy_alloc w o (some m)) (h.mp.alloc o)
theorem grown_drew {a w : World} {row : Option Nat} (h : a.grownBy w row) : a.grownBy w.drew row := ⟨h.os, h.tape, h.output, h.size, h.block⟩
theorem Sv.drew {w0 w : World} {sb m : Nat} {A0 : Option Addr} {c0 : Nat} {g : List GN} {st : Bool} {f : F2} (h : Sv w0 w sb m A0 c0 g st f) : Sv w0 w.drew sb m A0 c0 g st f := h.grown (grown_drew (World.grownBy.refl w (some m))) h.mp.drew
theorem Sv.box_ne {w0 w : World} {sb m : Nat} {A0 : Option Addr} {c0 : Nat} {g : List GN} {st : Bool} {f : F2} (h : Sv w0 w sb m A0 c0 g st f) {q : Nat} (hq : w.heap.size ≤ q) : some q ≠ some m := fun e => by
  have := h.mp.lt
  cases e
  omega
theorem idxF_lt {s : ByteArray} : ∀ {l : List ByteArray} {i k : Nat}, idxF s l i = some k → i ≤ k ∧ k < i + l.length ∧ l[k - i]? = some s
  | [], _, _, h => by simp [idxF] at h
  | x :: r, i, k, h => by
    unfold idxF at h
    split at h
    · rename_i e
      cases h
      exact ⟨Nat.le_refl _, by simp, by simp [e]⟩
    · obtain ⟨h1, h2, h3⟩ := idxF_lt h
      refine ⟨by omega, by simp; omega, ?_⟩
      rw [show k - i = (k - (i + 1)) + 1 by omega]
      simpa using h3
theorem add_zero_ (a : Addr) : a.add 0 = a := by cases a; rfl
/-- The place at i of a list. -/
def at_ (l : List Int) (i : Nat) : Nat := (l.getD i 0).toNat
theorem at_eq {l : List Int} {N i : Nat} (h : ∀ y ∈ l, 0 ≤ y ∧ y < (N : Int)) (hi : i < l.length) : l.getD i 0 = (at_ l i : Int) ∧ at_ l i < N := by
  have hx := h _ (List.getElem_mem hi)
  have e : l.getD i 0 = l[i] := by rw [List.getD_eq_getElem?_getD, List.getElem?_eq_getElem hi]; rfl
  unfold at_
  rw [e]
  omega
def variableF (f : F2) (s t : GN) : Bool × F2 := if s.f1 = t.f1 then grantedF f (at_ s.f4 0) (at_ t.f4 0) else (false, f)
def tagF (f : F2) (s t : GN) : Bool × F2 := (s.f2.toList == t.f2.toList, f)
def recF (s t : GN) : List ByteArray → Nat → F2 → Bool × F2
  | [], _, f => (true, f)
  | key :: r, i, f => match idxF key s.f3 0 with
    | none => (false, f)
    | some k => if (grantedF f (at_ s.f4 k) (at_ t.f4 i)).1 then recF s t r (i + 1) (grantedF f (at_ s.f4 k) (at_ t.f4 i)).2 else (false, (grantedF f (at_ s.f4 k) (at_ t.f4 i)).2)
/-- A rule's contract. -/
abbrev Rule (fn : FuncId) (F : F2 → GN → GN → Bool × F2) (s t : GN) : Prop := ∀ (w0 w : World) (sb m : Nat) (A0 : Option Addr) (c0 : Nat) (g : List GN) (st : Bool) (f : F2), Sv w0 w sb m A0 c0 g st f → (∀ y ∈ s.f4, 0 ≤ y ∧ y < (g.length : Int)) → (∀ y ∈ t.f4, 0 ≤ y ∧ y < (g.length : Int)) →
  ∀ (Aks : Option Addr) (cks : Nat) (Als : Option Addr) (cls : Nat) (Akt : Option Addr) (ckt : Nat) (Alt : Option Addr) (clt : Nat), Nd w0 s Aks cks Als cls → Nd w0 t Akt ckt Alt clt →
  Calls Tryd.prog fn #[.pointer (some ⟨sb, 0, none⟩), .agg #[.int .i64 s.f0, .int .i64 s.f1, .string s.f2, .slice Aks s.f3.length cks, .slice Als s.f4.length cls], .agg #[.int .i64 t.f0, .int .i64 t.f1, .string t.f2, .slice Akt t.f3.length ckt, .slice Alt t.f4.length clt]] w fun e w' => e = .returned (.bool (F f s t).1) ∧ Mp w' m g.length (F f s t).2 ∧ w.grownBy w' (some m)
set_option maxHeartbeats 4000000 in
set_option maxRecDepth 100000 in
theorem base_yes (s t : GN) : Rule 76 (fun f _ _ => (true, f)) s t := by
  intro w0 w sb m A0 c0 g st f hS hsr htr Aks cks Als cls Akt ckt Alt clt hns hnt
  have HS := Aside0.mk hS
  have HSr := Aside0.mk hsr
  have HTr := Aside0.mk htr
  have HNs := Aside0.mk hns
  have HNt := Aside0.mk hnt
  have HS2 := Aside0.mk ((hS.alloc (.cells #[.int .i64 s.f0, .int .i64 s.f1, .string s.f2, .slice Aks s.f3.length cks, .slice Als s.f4.length cls] 33)).alloc (.cells #[.int .i64 t.f0, .int .i64 t.f1, .string t.f2, .slice Akt t.f3.length ckt, .slice Alt t.f4.length clt] 33))
  have HG2 := Aside0.mk ((World.grownBy_alloc w (.cells #[.int .i64 s.f0, .int .i64 s.f1, .string s.f2, .slice Aks s.f3.length cks, .slice Als s.f4.length cls] 33) (some m)).trans (World.grownBy_alloc (w.alloc (.cells #[.int .i64 s.f0, .int .i64 s.f1, .string s.f2, .slice Aks s.f3.length cks, .slice Als s.f4.length cls] 33)) (.cells #[.int .i64 t.f0, .int .i64 t.f1, .string t.f2, .slice Akt t.f3.length ckt, .slice Alt t.f4.length clt] 33) (some m)))
  have HBs := Aside0.mk ((box_new w s Aks cks Als cls).grown (World.grownBy_alloc (w.alloc (.cells #[.int .i64 s.f0, .int .i64 s.f1, .string s.f2, .slice Aks s.f3.length cks, .slice Als s.f4.length cls] 33)) (.cells #[.int .i64 t.f0, .int .i64 t.f1, .string t.f2, .slice Akt t.f3.length ckt, .slice Alt t.f4.length clt] 33) none) (by simp))
  have HBt := Aside0.mk (box_new (w.alloc (.cells #[.int .i64 s.f0, .int .i64 s.f1, .string s.f2, .slice Aks s.f3.length cks, .slice Als s.f4.length cls] 33)) t Akt ckt Alt clt)
  have HQs := Aside0.mk (hS.box_ne (Nat.le_refl w.heap.size))
  have HQt := Aside0.mk (hS.box_ne (Nat.le_succ w.heap.size))
  rw [World.size_alloc] at HBt
  clear hS hsr htr hns hnt
  go_enter Tryd.func76, Tryd.ntmps76
  go_wp2_with (fail)
  go_ret
  exact ⟨rfl, HS2.out.mp, HG2.out⟩
set_option maxHeartbeats 4000000 in
set_option maxRecDepth 100000 in
theorem tag_yes (s t : GN) : Rule 77 tagF s t := by
  intro w0 w sb m A0 c0 g st f hS hsr htr Aks cks Als cls Akt ckt Alt clt hns hnt
  have HS := Aside0.mk hS
  have HSr := Aside0.mk hsr
  have HTr := Aside0.mk htr
  have HNs := Aside0.mk hns
  have HNt := Aside0.mk hnt
  have HS2 := Aside0.mk ((hS.alloc (.cells #[.int .i64 s.f0, .int .i64 s.f1, .string s.f2, .slice Aks s.f3.length cks, .slice Als s.f4.length cls] 33)).alloc (.cells #[.int .i64 t.f0, .int .i64 t.f1, .string t.f2, .slice Akt t.f3.length ckt, .slice Alt t.f4.length clt] 33))
  have HG2 := Aside0.mk ((World.grownBy_alloc w (.cells #[.int .i64 s.f0, .int .i64 s.f1, .string s.f2, .slice Aks s.f3.length cks, .slice Als s.f4.length cls] 33) (some m)).trans (World.grownBy_alloc (w.alloc (.cells #[.int .i64 s.f0, .int .i64 s.f1, .string s.f2, .slice Aks s.f3.length cks, .slice Als s.f4.length cls] 33)) (.cells #[.int .i64 t.f0, .int .i64 t.f1, .string t.f2, .slice Akt t.f3.length ckt, .slice Alt t.f4.length clt] 33) (some m)))
  have HBs := Aside0.mk ((box_new w s Aks cks Als cls).grown (World.grownBy_alloc (w.alloc (.cells #[.int .i64 s.f0, .int .i64 s.f1, .string s.f2, .slice Aks s.f3.length cks, .slice Als s.f4.length cls] 33)) (.cells #[.int .i64 t.f0, .int .i64 t.f1, .string t.f2, .slice Akt t.f3.length ckt, .slice Alt t.f4.length clt] 33) none) (by simp))
  have HBt := Aside0.mk (box_new (w.alloc (.cells #[.int .i64 s.f0, .int .i64 s.f1, .string s.f2, .slice Aks s.f3.length cks, .slice Als s.f4.length cls] 33)) t Akt ckt Alt clt)
  have HQs := Aside0.mk (hS.box_ne (Nat.le_refl w.heap.size))
  have HQt := Aside0.mk (hS.box_ne (Nat.le_succ w.heap.size))
  rw [World.size_alloc] at HBt
  clear hS hsr htr hns hnt
  obtain ⟨a0, a1, a2, a3, a4⟩ := HBs.out
  obtain ⟨b0, b1, b2, b3, b4⟩ := HBt.out
  go_enter Tryd.func77, Tryd.ntmps77
  go_wp2_with (fail)
  go_ret
  exact ⟨rfl, HS2.out.mp, HG2.out⟩
def vr1.T1 : Bool × List (List Nat × List Nat) := (true, [([], []), ([0], [0]), ([], []), ([2], [2]), ([1, 3], [1, 3]), ([4], [4]), ([5], [5]), ([5], [5]), ([7, 5], [5, 7]), ([8, 5], [5, 8]), ([9, 5], [5, 9]), ([5], [5]), ([11, 5], [5, 11]), ([12, 5], [5, 12]), ([13, 5], [5, 13]), ([10, 14, 5], [5, 10, 14]), ([6, 15, 5, 5], [5, 6, 15]), ([5, 16], [5, 16]), ([17, 16, 0, 1, 2, 3, 4, 5, 6, 7, 8, 9, 10, 11, 12, 13, 14, 15, 16, 17], [17])])
def vr1.B1 : List Nat := [0, 1, 0, 4, 15, 31, 63, 63, 191, 447, 959, 63, 2111, 6207, 14399, 32703, 65535, 131071, 262143]
theorem vr1.tab1 : rtab .any (opsOf Tryd.f79 1) = vr1.T1 := by kernel_rfl
theorem vr1.bits1 : waitsOk vr1.T1.2 vr1.B1 = true := by kernel_rfl
set_option maxHeartbeats 4000000 in
set_option maxRecDepth 100000 in
theorem variable_yes (s t : GN) (hs1 : 0 < s.f4.length) (ht1 : 0 < t.f4.length) : Rule 79 variableF s t := by
  intro w0 w sb m A0 c0 g st f hS hsr htr Aks cks Als cls Akt ckt Alt clt hns hnt
  have HS := Aside0.mk hS
  have HSr := Aside0.mk hsr
  have HTr := Aside0.mk htr
  have HNs := Aside0.mk hns
  have HNt := Aside0.mk hnt
  have HS2 := Aside0.mk ((hS.alloc (.cells #[.int .i64 s.f0, .int .i64 s.f1, .string s.f2, .slice Aks s.f3.length cks, .slice Als s.f4.length cls] 33)).alloc (.cells #[.int .i64 t.f0, .int .i64 t.f1, .string t.f2, .slice Akt t.f3.length ckt, .slice Alt t.f4.length clt] 33))
  have HG2 := Aside0.mk ((World.grownBy_alloc w (.cells #[.int .i64 s.f0, .int .i64 s.f1, .string s.f2, .slice Aks s.f3.length cks, .slice Als s.f4.length cls] 33) (some m)).trans (World.grownBy_alloc (w.alloc (.cells #[.int .i64 s.f0, .int .i64 s.f1, .string s.f2, .slice Aks s.f3.length cks, .slice Als s.f4.length cls] 33)) (.cells #[.int .i64 t.f0, .int .i64 t.f1, .string t.f2, .slice Akt t.f3.length ckt, .slice Alt t.f4.length clt] 33) (some m)))
  have HBs := Aside0.mk ((box_new w s Aks cks Als cls).grown (World.grownBy_alloc (w.alloc (.cells #[.int .i64 s.f0, .int .i64 s.f1, .string s.f2, .slice Aks s.f3.length cks, .slice Als s.f4.length cls] 33)) (.cells #[.int .i64 t.f0, .int .i64 t.f1, .string t.f2, .slice Akt t.f3.length ckt, .slice Alt t.f4.length clt] 33) none) (by simp))
  have HBt := Aside0.mk (box_new (w.alloc (.cells #[.int .i64 s.f0, .int .i64 s.f1, .string s.f2, .slice Aks s.f3.length cks, .slice Als s.f4.length cls] 33)) t Akt ckt Alt clt)
  have HQs := Aside0.mk (hS.box_ne (Nat.le_refl w.heap.size))
  have HQt := Aside0.mk (hS.box_ne (Nat.le_succ w.heap.size))
  rw [World.size_alloc] at HBt
  clear hS hsr htr hns hnt
  have hsl := Kd.C_below HNs.out.ls HS2.out.old
  have htl := Kd.C_below HNt.out.ls HS2.out.old
  obtain ⟨ads, e1, x1⟩ := Kd.at_int hsl 0 (by omega) (by omega)
  obtain ⟨adt, e2, y1⟩ := Kd.at_int htl 0 (by omega) (by omega)
  obtain ⟨a1, a2⟩ := at_eq HSr.out hs1
  obtain ⟨b1, b2⟩ := at_eq HTr.out ht1
  rw [show rd s.f4 (0 : Int) = s.f4.getD 0 0 from rfl, a1] at x1
  rw [show rd t.f4 (0 : Int) = t.f4.getD 0 0 from rfl, b1] at y1
  obtain ⟨a, ha⟩ : ∃ a, a = at_ s.f4 0 := ⟨_, rfl⟩
  obtain ⟨b, hb⟩ : ∃ b, b = at_ t.f4 0 := ⟨_, rfl⟩
  rw [← ha] at x1 a2
  rw [← hb] at y1 b2
  have HF := Aside0.mk (show variableF f s t = if s.f1 = t.f1 then grantedF f a b else (false, f) by rw [ha, hb]; rfl)
  have HA := Aside0.mk a2
  have HBn := Aside0.mk b2
  clear a1 b1 ha hb a2 b2 hsl htl
  have hs1' := Aside0.mk hs1
  have ht1' := Aside0.mk ht1
  obtain ⟨_, a1, _, _, a4⟩ := HBs.out
  obtain ⟨_, b1, _, _, b4⟩ := HBt.out
  replace a4 := a4.trans (congrArg (fun A => some (Value.slice A s.f4.length cls)) e1)
  replace b4 := b4.trans (congrArg (fun A => some (Value.slice A t.f4.length clt)) e2)
  rw [show Int.toNat 0 = 0 from rfl, add_zero_] at x1 y1
  clear e1 e2
  go_enter Tryd.func79, Tryd.ntmps79
  go_wp2_with (fail)
  generalize (w.alloc (.cells #[.int .i64 s.f0, .int .i64 s.f1, .string s.f2, .slice Aks s.f3.length cks, .slice Als s.f4.length cls] 33)).alloc (.cells #[.int .i64 t.f0, .int .i64 t.f1, .string t.f2, .slice Akt t.f3.length ckt, .slice Alt t.f4.length clt] 33) = W2 at a1 b1 a4 b4 x1 y1 HS2 HG2 HBs HBt ⊢
  try rw [World.size_alloc]
  by_cases hn : s.f1 = t.f1
  · rw [if_pos hn] at HF
    have hnb : (s.f1 == t.f1) = true := by simp [hn]
    clear hn
    refine start_ (n := 19) (S := fun w' => w'.cell? ⟨w.heap.size, 1, none⟩ = some (.int .i64 s.f1) ∧ w'.cell? ⟨w.heap.size + 1, 1, none⟩ = some (.int .i64 t.f1) ∧ w'.cell? ⟨w.heap.size, 4, none⟩ = some (.slice (some ads) s.f4.length cls) ∧ w'.cell? ⟨w.heap.size + 1, 4, none⟩ = some (.slice (some adt) t.f4.length clt) ∧ w'.cell? ads = some (.int .i64 (a : Int)) ∧ w'.cell? adt = some (.int .i64 (b : Int))) (ds := [16]) #[φ,φ,φ,φ,φ,φ,φ,φ,φ,φ,φ,φ,φ,φ,φ,φ,φ,φ,φ] (by kernel_rfl) rfl rfl ⟨a1, b1, a4, b4, x1, y1⟩ (fun hHeld => ?_)
    refine with_tabW vr1.tab1 vr1.bits1 (fun HT_ HW_ => ?_)
    refine pure_ (i := 0) (N := some 7) (v := ?_) (a' := ?_) #[τ,φ,φ,φ,φ,φ,φ,φ,φ,φ,φ,φ,φ,φ,φ,φ,φ,φ,φ] rfl rfl (any_of HT_.out (by kernel_rfl)) (fun _ _ _ h => h) (Or.inl ⟨by rfl, ?_⟩) ?_ ?_
    rotate_left; (intro w'; go_simp; with_reducible rfl); rotate_left; (simp only [Act.put, zz1, zz2, zz3, i64_w, i32_w]; rfl)
    refine pure_ (i := 2) (N := some 9) (v := ?_) (a' := ?_) #[τ,φ,τ,φ,φ,φ,φ,φ,φ,φ,φ,φ,φ,φ,φ,φ,φ,φ,φ] rfl rfl (any_of HT_.out (by kernel_rfl)) (fun _ _ _ h => h) (Or.inl ⟨by rfl, ?_⟩) ?_ ?_
    rotate_left; (intro w'; go_simp; with_reducible rfl); rotate_left; (simp only [Act.put, zz1, zz2, zz3, i64_w, i32_w]; rfl)
    refine take_ (i := 1) (N := some 8) (v := ?_) (a' := ?_) #[τ,τ,τ,φ,φ,φ,φ,φ,φ,φ,φ,φ,φ,φ,φ,φ,φ,φ,φ] rfl rfl (take_ofW HT_.out HW_.out (by kernel_rfl)) (fun _ _ _ h => h) (Or.inl ⟨by rfl, ?_⟩) hHeld ?_ ?_
    rotate_left; (rintro w' ⟨s0, s1, s2, s3, s4, s5⟩; go_simp; with_reducible rfl); rotate_left; (simp only [Act.put, zz1, zz2, zz3, i64_w, i32_w]; rfl)
    refine take_ (i := 3) (N := some 10) (v := ?_) (a' := ?_) #[τ,τ,τ,τ,φ,φ,φ,φ,φ,φ,φ,φ,φ,φ,φ,φ,φ,φ,φ] rfl rfl (take_ofW HT_.out HW_.out (by kernel_rfl)) (fun _ _ _ h => h) (Or.inl ⟨by rfl, ?_⟩) hHeld ?_ ?_
    rotate_left; (rintro w' ⟨s0, s1, s2, s3, s4, s5⟩; go_simp; with_reducible rfl); rotate_left; (simp only [Act.put, zz1, zz2, zz3, i64_w, i32_w]; rfl)
    refine pure_ (i := 4) (N := some 11) (v := ?_) (a' := ?_) #[τ,τ,τ,τ,τ,φ,φ,φ,φ,φ,φ,φ,φ,φ,φ,φ,φ,φ,φ] rfl rfl (any_of HT_.out (by kernel_rfl)) (fun _ _ _ h => h) (Or.inl ⟨by rfl, ?_⟩) ?_ ?_
    rotate_left; (intro w'; go_simp; with_reducible rfl); rotate_left; (simp only [Act.put, zz1, zz2, zz3, i64_w, i32_w]; rfl)
    refine pure_ (i := 5) (N := some 12) (v := ?_) (a' := ?_) #[τ,τ,τ,τ,τ,τ,φ,φ,φ,φ,φ,φ,φ,φ,φ,φ,φ,φ,φ] rfl rfl (any_of HT_.out (by kernel_rfl)) (fun _ _ _ h => h) (Or.inl ⟨by rfl, ?_⟩) ?_ ?_
    rotate_left; (intro w'; go_simp; with_reducible rfl); rotate_left; (simp only [Act.put, zz1, zz2, zz3, i64_w, i32_w]; rfl)
    refine pure_ (i := 6) (N := some 13) (v := ?_) (a' := ?_) #[τ,τ,τ,τ,τ,τ,τ,φ,φ,φ,φ,φ,φ,φ,φ,φ,φ,φ,φ] rfl rfl (any_of HT_.out (by kernel_rfl)) (fun _ _ _ h => h) (Or.inl ⟨by rfl, ?_⟩) ?_ ?_
    rotate_left; (intro w'; go_simp; with_reducible rfl); rotate_left; (simp only [Act.put, zz1, zz2, zz3, i64_w, i32_w]; rfl)
    refine pure_ (i := 7) (N := some 14) (v := ?_) (a' := ?_) #[τ,τ,τ,τ,τ,τ,τ,τ,φ,φ,φ,φ,φ,φ,φ,φ,φ,φ,φ] rfl rfl (any_of HT_.out (by kernel_rfl)) (fun _ _ _ h => h) (Or.inl ⟨by rfl, ?_⟩) ?_ ?_
    rotate_left; (intro w'; go_simp; with_reducible rfl); rotate_left; (simp only [Act.put, zz1, zz2, zz3, i64_w, i32_w]; rfl)
    refine pure_ (i := 11) (N := some 18) (v := ?_) (a' := ?_) #[τ,τ,τ,τ,τ,τ,τ,τ,φ,φ,φ,τ,φ,φ,φ,φ,φ,φ,φ] rfl rfl (any_of HT_.out (by kernel_rfl)) (fun _ _ _ h => h) (Or.inl ⟨by rfl, ?_⟩) ?_ ?_
    rotate_left; (intro w'; go_simp; with_reducible rfl); rotate_left; (simp only [Act.put, zz1, zz2, zz3, i64_w, i32_w]; rfl)
    refine take_ (i := 8) (N := some 15) (v := ?_) (a' := ?_) #[τ,τ,τ,τ,τ,τ,τ,τ,τ,φ,φ,τ,φ,φ,φ,φ,φ,φ,φ] rfl rfl (take_ofW HT_.out HW_.out (by kernel_rfl)) (fun _ _ _ h => h) (Or.inl ⟨by rfl, ?_⟩) hHeld ?_ ?_
    rotate_left; (rintro w' ⟨s0, s1, s2, s3, s4, s5⟩; go_simp; with_reducible rfl); rotate_left; (simp only [Act.put, zz1, zz2, zz3, i64_w, i32_w]; rfl)
    refine pure_ (i := 9) (N := some 16) (v := ?_) (a' := ?_) #[τ,τ,τ,τ,τ,τ,τ,τ,τ,τ,φ,τ,φ,φ,φ,φ,φ,φ,φ] rfl rfl (any_of HT_.out (by kernel_rfl)) (fun _ _ _ h => h) (Or.inl ⟨by rfl, ?_⟩) ?_ ?_
    rotate_left; (intro w'; go_simp; with_reducible rfl); rotate_left; (simp only [Act.put, zz1, zz2, zz3, i64_w, i32_w]; rfl)
    refine take_ (i := 10) (N := some 17) (v := ?_) (a' := ?_) #[τ,τ,τ,τ,τ,τ,τ,τ,τ,τ,τ,τ,φ,φ,φ,φ,φ,φ,φ] rfl rfl (take_ofW HT_.out HW_.out (by kernel_rfl)) (fun _ _ _ h => h) (Or.inl ⟨by rfl, ?_⟩) hHeld ?_ ?_
    rotate_left; (rintro w' ⟨s0, s1, s2, s3, s4, s5⟩; go_simp; with_reducible rfl); rotate_left; (simp only [Act.put, zz1, zz2, zz3, i64_w, i32_w]; rfl)
    refine take_ (i := 12) (N := some 19) (v := ?_) (a' := ?_) #[τ,τ,τ,τ,τ,τ,τ,τ,τ,τ,τ,τ,τ,φ,φ,φ,φ,φ,φ] rfl rfl (take_ofW HT_.out HW_.out (by kernel_rfl)) (fun _ _ _ h => h) (Or.inl ⟨by rfl, ?_⟩) hHeld ?_ ?_
    rotate_left; (rintro w' ⟨s0, s1, s2, s3, s4, s5⟩; go_simp; with_reducible rfl); rotate_left; (simp only [Act.put, zz1, zz2, zz3, i64_w, i32_w]; rfl)
    refine pure_ (i := 13) (N := some 20) (v := ?_) (a' := ?_) #[τ,τ,τ,τ,τ,τ,τ,τ,τ,τ,τ,τ,τ,τ,φ,φ,φ,φ,φ] rfl rfl (any_of HT_.out (by kernel_rfl)) (fun _ _ _ h => h) (Or.inl ⟨by rfl, ?_⟩) ?_ ?_
    rotate_left; (intro w'; go_simp; with_reducible rfl); rotate_left; (simp only [Act.put, zz1, zz2, zz3, i64_w, i32_w]; rfl)
    refine take_ (i := 14) (N := some 21) (v := ?_) (a' := ?_) #[τ,τ,τ,τ,τ,τ,τ,τ,τ,τ,τ,τ,τ,τ,τ,φ,φ,φ,φ] rfl rfl (take_ofW HT_.out HW_.out (by kernel_rfl)) (fun _ _ _ h => h) (Or.inl ⟨by rfl, ?_⟩) hHeld ?_ ?_
    rotate_left; (rintro w' ⟨s0, s1, s2, s3, s4, s5⟩; go_simp; with_reducible rfl); rotate_left; (simp only [Act.put, zz1, zz2, zz3, i64_w, i32_w]; rfl)
    refine pure_ (i := 15) (N := some 22) (v := ?_) (a' := ?_) #[τ,τ,τ,τ,τ,τ,τ,τ,τ,τ,τ,τ,τ,τ,τ,τ,φ,φ,φ] rfl rfl (any_of HT_.out (by kernel_rfl)) (fun _ _ _ h => h) (Or.inl ⟨by rfl, ?_⟩) ?_ ?_
    rotate_left; (intro w'; go_simp; with_reducible rfl); rotate_left; (simp only [Act.put, zz1, zz2, zz3, i64_w, i32_w]; rfl)
    refine last_ (i := 16) (N := some 23) #[τ,τ,τ,τ,τ,τ,τ,τ,τ,τ,τ,τ,τ,τ,τ,τ,τ,φ,φ] rfl rfl (one_of HT_.out (by kernel_rfl)) (by decide) (fun K hK => ?_)
    refine goes_ Tryd.func27 (by kernel_rfl) rfl #[.pointer (some ⟨sb, 0, none⟩), .agg #[.int .i64 (a : Int), .int .i64 (b : Int)]] (by rfl) rfl rfl (by simp only [List.map_toArray, List.map_cons, List.map_nil]; rfl) ?_
    with_reducible refine (granted_yes sb m g.length a b f _ HS2.out.drew.z2 HS2.out.drew.mp HA.out HBn.out).mono ?_
    rintro e w3 ⟨rfl, hm, hg⟩
    refine ⟨_, rfl, ?_⟩
    have HM3 := Aside0.mk hm
    have HG3 := Aside0.mk ((grown_drew HG2.out).trans hg)
    clear hm hg
    refine hK.out _ _ ?_
    clear hK K
    refine norm_ (a' := ?_) ?_ ?_
    rotate_left
    · show Act.put _ (some 23) _ = _
      simp only [Act.put, zz1, zz2, zz3, i64_w, i32_w]
      rfl
    refine pure_ (i := 17) (N := some 24) (v := ?_) (a' := ?_) #[τ,τ,τ,τ,τ,τ,τ,τ,τ,τ,τ,τ,τ,τ,τ,τ,τ,τ,φ] rfl rfl (any_of HT_.out (by kernel_rfl)) (fun _ _ _ h => h) (Or.inl ⟨by rfl, ?_⟩) ?_ ?_
    rotate_left; (intro w'; go_simp; with_reducible rfl); rotate_left; (simp only [Act.put, zz1, zz2, zz3, i64_w, i32_w]; rfl)
    refine pure_ (i := 18) (N := some 6) (v := ?_) (a' := ?_) #[τ,τ,τ,τ,τ,τ,τ,τ,τ,τ,τ,τ,τ,τ,τ,τ,τ,τ,τ] rfl rfl (any_of HT_.out (by kernel_rfl)) (fun _ _ _ h => h) (Or.inl ⟨by rfl, ?_⟩) ?_ ?_
    rotate_left; (intro w'; go_simp; with_reducible rfl); rotate_left; (simp only [Act.put, zz1, zz2, zz3, i64_w, i32_w]; rfl)
    refine done_ (done_of HT_.out (by kernel_rfl)) ?_
    go_wp2_with (fail)
    go_ret
    exact ⟨by rw [HF.out]; cases (grantedF f a b).1 <;> rfl, by rw [HF.out]; exact HM3.out, HG3.out⟩
  · rw [if_neg hn] at HF
    have hnb : (s.f1 == t.f1) = false := by simp [hn]
    clear hn
    refine start_ (n := 19) (S := fun w' => w'.cell? ⟨w.heap.size, 1, none⟩ = some (.int .i64 s.f1) ∧ w'.cell? ⟨w.heap.size + 1, 1, none⟩ = some (.int .i64 t.f1)) (ds := []) #[φ,φ,φ,φ,φ,φ,φ,φ,φ,φ,φ,φ,φ,φ,φ,φ,φ,φ,φ] (by kernel_rfl) rfl rfl ⟨a1, b1⟩ (fun hHeld => ?_)
    refine with_tabW vr1.tab1 vr1.bits1 (fun HT_ HW_ => ?_)
    refine pure_ (i := 0) (N := some 7) (v := ?_) (a' := ?_) #[τ,φ,φ,φ,φ,φ,φ,φ,φ,φ,φ,φ,φ,φ,φ,φ,φ,φ,φ] rfl rfl (any_of HT_.out (by kernel_rfl)) (fun _ _ _ h => h) (Or.inl ⟨by rfl, ?_⟩) ?_ ?_
    rotate_left; (intro w'; go_simp; with_reducible rfl); rotate_left; (simp only [Act.put, zz1, zz2, zz3, i64_w, i32_w]; rfl)
    refine pure_ (i := 2) (N := some 9) (v := ?_) (a' := ?_) #[τ,φ,τ,φ,φ,φ,φ,φ,φ,φ,φ,φ,φ,φ,φ,φ,φ,φ,φ] rfl rfl (any_of HT_.out (by kernel_rfl)) (fun _ _ _ h => h) (Or.inl ⟨by rfl, ?_⟩) ?_ ?_
    rotate_left; (intro w'; go_simp; with_reducible rfl); rotate_left; (simp only [Act.put, zz1, zz2, zz3, i64_w, i32_w]; rfl)
    refine take_ (i := 1) (N := some 8) (v := ?_) (a' := ?_) #[τ,τ,τ,φ,φ,φ,φ,φ,φ,φ,φ,φ,φ,φ,φ,φ,φ,φ,φ] rfl rfl (take_ofW HT_.out HW_.out (by kernel_rfl)) (fun _ _ _ h => h) (Or.inl ⟨by rfl, ?_⟩) hHeld ?_ ?_
    rotate_left; (rintro w' ⟨s0, s1⟩; go_simp; with_reducible rfl); rotate_left; (simp only [Act.put, zz1, zz2, zz3, i64_w, i32_w]; rfl)
    refine take_ (i := 3) (N := some 10) (v := ?_) (a' := ?_) #[τ,τ,τ,τ,φ,φ,φ,φ,φ,φ,φ,φ,φ,φ,φ,φ,φ,φ,φ] rfl rfl (take_ofW HT_.out HW_.out (by kernel_rfl)) (fun _ _ _ h => h) (Or.inl ⟨by rfl, ?_⟩) hHeld ?_ ?_
    rotate_left; (rintro w' ⟨s0, s1⟩; go_simp; with_reducible rfl); rotate_left; (simp only [Act.put, zz1, zz2, zz3, i64_w, i32_w]; rfl)
    refine pure_ (i := 4) (N := some 11) (v := ?_) (a' := ?_) #[τ,τ,τ,τ,τ,φ,φ,φ,φ,φ,φ,φ,φ,φ,φ,φ,φ,φ,φ] rfl rfl (any_of HT_.out (by kernel_rfl)) (fun _ _ _ h => h) (Or.inl ⟨by rfl, ?_⟩) ?_ ?_
    rotate_left; (intro w'; go_simp; with_reducible rfl); rotate_left; (simp only [Act.put, zz1, zz2, zz3, i64_w, i32_w]; rfl)
    refine pure_ (i := 5) (N := some 12) (v := ?_) (a' := ?_) #[τ,τ,τ,τ,τ,τ,φ,φ,φ,φ,φ,φ,φ,φ,φ,φ,φ,φ,φ] rfl rfl (any_of HT_.out (by kernel_rfl)) (fun _ _ _ h => h) (Or.inl ⟨by rfl, ?_⟩) ?_ ?_
    rotate_left; (intro w'; go_simp; with_reducible rfl); rotate_left; (simp only [Act.put, zz1, zz2, zz3, i64_w, i32_w]; rfl)
    refine pure_ (i := 6) (N := some 13) (v := undef) (a' := ?_) #[τ,τ,τ,τ,τ,τ,τ,φ,φ,φ,φ,φ,φ,φ,φ,φ,φ,φ,φ] rfl rfl (any_of HT_.out (by kernel_rfl)) (fun _ _ _ h => h) (Or.inr ⟨by rfl, rfl⟩) ?_ ?_
    rotate_left; (simp only [Act.put, zz1, zz2, zz3, i64_w, i32_w]; rfl)
    refine pure_ (i := 7) (N := some 14) (v := undef) (a' := ?_) #[τ,τ,τ,τ,τ,τ,τ,τ,φ,φ,φ,φ,φ,φ,φ,φ,φ,φ,φ] rfl rfl (any_of HT_.out (by kernel_rfl)) (fun _ _ _ h => h) (Or.inr ⟨by rfl, rfl⟩) ?_ ?_
    rotate_left; (simp only [Act.put, zz1, zz2, zz3, i64_w, i32_w]; rfl)
    refine pure_ (i := 8) (N := some 15) (v := undef) (a' := ?_) #[τ,τ,τ,τ,τ,τ,τ,τ,τ,φ,φ,φ,φ,φ,φ,φ,φ,φ,φ] rfl rfl (any_of HT_.out (by kernel_rfl)) (fun _ _ _ h => h) (Or.inr ⟨by rfl, rfl⟩) ?_ ?_
    rotate_left; (simp only [Act.put, zz1, zz2, zz3, i64_w, i32_w]; rfl)
    refine pure_ (i := 9) (N := some 16) (v := undef) (a' := ?_) #[τ,τ,τ,τ,τ,τ,τ,τ,τ,τ,φ,φ,φ,φ,φ,φ,φ,φ,φ] rfl rfl (any_of HT_.out (by kernel_rfl)) (fun _ _ _ h => h) (Or.inr ⟨by rfl, rfl⟩) ?_ ?_
    rotate_left; (simp only [Act.put, zz1, zz2, zz3, i64_w, i32_w]; rfl)
    refine pure_ (i := 10) (N := some 17) (v := undef) (a' := ?_) #[τ,τ,τ,τ,τ,τ,τ,τ,τ,τ,τ,φ,φ,φ,φ,φ,φ,φ,φ] rfl rfl (any_of HT_.out (by kernel_rfl)) (fun _ _ _ h => h) (Or.inr ⟨by rfl, rfl⟩) ?_ ?_
    rotate_left; (simp only [Act.put, zz1, zz2, zz3, i64_w, i32_w]; rfl)
    refine pure_ (i := 11) (N := some 18) (v := undef) (a' := ?_) #[τ,τ,τ,τ,τ,τ,τ,τ,τ,τ,τ,τ,φ,φ,φ,φ,φ,φ,φ] rfl rfl (any_of HT_.out (by kernel_rfl)) (fun _ _ _ h => h) (Or.inr ⟨by rfl, rfl⟩) ?_ ?_
    rotate_left; (simp only [Act.put, zz1, zz2, zz3, i64_w, i32_w]; rfl)
    refine pure_ (i := 12) (N := some 19) (v := undef) (a' := ?_) #[τ,τ,τ,τ,τ,τ,τ,τ,τ,τ,τ,τ,τ,φ,φ,φ,φ,φ,φ] rfl rfl (any_of HT_.out (by kernel_rfl)) (fun _ _ _ h => h) (Or.inr ⟨by rfl, rfl⟩) ?_ ?_
    rotate_left; (simp only [Act.put, zz1, zz2, zz3, i64_w, i32_w]; rfl)
    refine pure_ (i := 13) (N := some 20) (v := undef) (a' := ?_) #[τ,τ,τ,τ,τ,τ,τ,τ,τ,τ,τ,τ,τ,τ,φ,φ,φ,φ,φ] rfl rfl (any_of HT_.out (by kernel_rfl)) (fun _ _ _ h => h) (Or.inr ⟨by rfl, rfl⟩) ?_ ?_
    rotate_left; (simp only [Act.put, zz1, zz2, zz3, i64_w, i32_w]; rfl)
    refine pure_ (i := 14) (N := some 21) (v := undef) (a' := ?_) #[τ,τ,τ,τ,τ,τ,τ,τ,τ,τ,τ,τ,τ,τ,τ,φ,φ,φ,φ] rfl rfl (any_of HT_.out (by kernel_rfl)) (fun _ _ _ h => h) (Or.inr ⟨by rfl, rfl⟩) ?_ ?_
    rotate_left; (simp only [Act.put, zz1, zz2, zz3, i64_w, i32_w]; rfl)
    refine pure_ (i := 15) (N := some 22) (v := undef) (a' := ?_) #[τ,τ,τ,τ,τ,τ,τ,τ,τ,τ,τ,τ,τ,τ,τ,τ,φ,φ,φ] rfl rfl (any_of HT_.out (by kernel_rfl)) (fun _ _ _ h => h) (Or.inr ⟨by rfl, rfl⟩) ?_ ?_
    rotate_left; (simp only [Act.put, zz1, zz2, zz3, i64_w, i32_w]; rfl)
    refine pure_ (i := 16) (N := some 23) (v := undef) (a' := ?_) #[τ,τ,τ,τ,τ,τ,τ,τ,τ,τ,τ,τ,τ,τ,τ,τ,τ,φ,φ] rfl rfl (any_of HT_.out (by kernel_rfl)) (fun _ _ _ h => h) (Or.inr ⟨by rfl, rfl⟩) ?_ ?_
    rotate_left; (simp only [Act.put, zz1, zz2, zz3, i64_w, i32_w]; rfl)
    refine pure_ (i := 17) (N := some 24) (v := ?_) (a' := ?_) #[τ,τ,τ,τ,τ,τ,τ,τ,τ,τ,τ,τ,τ,τ,τ,τ,τ,τ,φ] rfl rfl (any_of HT_.out (by kernel_rfl)) (fun _ _ _ h => h) (Or.inl ⟨by rfl, ?_⟩) ?_ ?_
    rotate_left; (intro w'; go_simp; with_reducible rfl); rotate_left; (simp only [Act.put, zz1, zz2, zz3, i64_w, i32_w]; rfl)
    refine pure_ (i := 18) (N := some 6) (v := ?_) (a' := ?_) #[τ,τ,τ,τ,τ,τ,τ,τ,τ,τ,τ,τ,τ,τ,τ,τ,τ,τ,τ] rfl rfl (any_of HT_.out (by kernel_rfl)) (fun _ _ _ h => h) (Or.inl ⟨by rfl, ?_⟩) ?_ ?_
    rotate_left; (intro w'; go_simp; with_reducible rfl); rotate_left; (simp only [Act.put, zz1, zz2, zz3, i64_w, i32_w]; rfl)
    refine done_ (done_of HT_.out (by kernel_rfl)) ?_
    go_wp2_with (fail)
    go_ret
    exact ⟨by rw [HF.out]; rfl, by rw [HF.out]; exact HS2.out.mp.drew, grown_drew HG2.out⟩
def rc5.T5 : Bool × List (List Nat × List Nat) := (true, [([], []), ([0], [0]), ([1], [1]), ([2], [2]), ([2], [2]), ([4, 2], [2, 4]), ([2], [2]), ([5, 6, 2], [2, 5, 6]), ([7, 2], [2, 7]), ([2], [2]), ([9, 2], [2, 9]), ([2], [2]), ([10, 11, 2], [2, 10, 11]), ([12, 2], [2, 12]), ([8, 13, 2], [2, 8, 13]), ([3, 14, 2, 2], [2, 3, 14]), ([15, 2], [2, 15]), ([2, 16], [2, 16])])
def rc5.B5 : List Nat := [0, 1, 3, 7, 7, 23, 7, 119, 247, 7, 519, 7, 3591, 7687, 16375, 32767, 65535, 131071]
theorem rc5.tab5 : rtab .any (opsOf Tryd.f78 5) = rc5.T5 := by kernel_rfl
theorem rc5.bits5 : waitsOk rc5.T5.2 rc5.B5 = true := by kernel_rfl
set_option maxHeartbeats 8000000 in
set_option maxRecDepth 100000 in
theorem record_yes (s t : GN) (hs1 : s.f4.length = s.f3.length) (ht1 : t.f4.length = t.f3.length) (hsl : s.f3.length ≤ 16) (htl : t.f3.length ≤ 16) : Rule 78 (fun f s t => recF s t t.f3 0 f) s t := by
  intro w0 w sb m A0 c0 g st f hS hsr htr Aks cks Als cls Akt ckt Alt clt hns hnt
  have HS := Aside0.mk hS
  have HSr := Aside0.mk hsr
  have HTr := Aside0.mk htr
  have HNs := Aside0.mk hns
  have HNt := Aside0.mk hnt
  have HS2 := Aside0.mk ((hS.alloc (.cells #[.int .i64 s.f0, .int .i64 s.f1, .string s.f2, .slice Aks s.f3.length cks, .slice Als s.f4.length cls] 33)).alloc (.cells #[.int .i64 t.f0, .int .i64 t.f1, .string t.f2, .slice Akt t.f3.length ckt, .slice Alt t.f4.length clt] 33))
  have HG2 := Aside0.mk ((World.grownBy_alloc w (.cells #[.int .i64 s.f0, .int .i64 s.f1, .string s.f2, .slice Aks s.f3.length cks, .slice Als s.f4.length cls] 33) (some m)).trans (World.grownBy_alloc (w.alloc (.cells #[.int .i64 s.f0, .int .i64 s.f1, .string s.f2, .slice Aks s.f3.length cks, .slice Als s.f4.length cls] 33)) (.cells #[.int .i64 t.f0, .int .i64 t.f1, .string t.f2, .slice Akt t.f3.length ckt, .slice Alt t.f4.length clt] 33) (some m)))
  have HBs := Aside0.mk ((box_new w s Aks cks Als cls).grown (World.grownBy_alloc (w.alloc (.cells #[.int .i64 s.f0, .int .i64 s.f1, .string s.f2, .slice Aks s.f3.length cks, .slice Als s.f4.length cls] 33)) (.cells #[.int .i64 t.f0, .int .i64 t.f1, .string t.f2, .slice Akt t.f3.length ckt, .slice Alt t.f4.length clt] 33) none) (by simp))
  have HBt := Aside0.mk (box_new (w.alloc (.cells #[.int .i64 s.f0, .int .i64 s.f1, .string s.f2, .slice Aks s.f3.length cks, .slice Als s.f4.length cls] 33)) t Akt ckt Alt clt)
  have HQs := Aside0.mk (hS.box_ne (Nat.le_refl w.heap.size))
  have HQt := Aside0.mk (hS.box_ne (Nat.le_succ w.heap.size))
  rw [World.size_alloc] at HBt
  clear hS hsr htr hns hnt
  obtain ⟨_, _, _, a3, a4⟩ := HBs.out
  obtain ⟨_, _, _, b3, b4⟩ := HBt.out
  have HS1 := Aside0.mk hs1
  have HT1 := Aside0.mk ht1
  have HLs := Aside0.mk hsl
  have HLt := Aside0.mk htl
  clear hs1 ht1 hsl htl
  go_enter Tryd.func78, Tryd.ntmps78
  go_wp2_with (fail)
  generalize (w.alloc (.cells #[.int .i64 s.f0, .int .i64 s.f1, .string s.f2, .slice Aks s.f3.length cks, .slice Als s.f4.length cls] 33)).alloc (.cells #[.int .i64 t.f0, .int .i64 t.f1, .string t.f2, .slice Akt t.f3.length ckt, .slice Alt t.f4.length clt] 33) = W2 at a3 b3 a4 b4 HS2 HG2 HBs HBt ⊢
  try rw [World.size_alloc]
  go_loopw [13] (fun v13 wr => ∃ (i : Nat) (fi : F2), i ≤ t.f3.length ∧ v13 = .int .i64 i ∧ Aside0 (Mp wr m g.length fi) ∧ Aside0 (W2.grownBy wr (some m)) ∧ Aside0 (recF s t t.f3 0 f = recF s t (t.f3.drop i) i fi)) (fun v13 _ => t.f3.length + 1 - (intOf v13).toNat)
  case atStart => exact ⟨0, f, by omega, rfl, ⟨HS2.out.mp⟩, ⟨World.grownBy.refl _ _⟩, ⟨rfl⟩⟩
  case round =>
    obtain ⟨i, fi, hi, rfl, HMi, HGi, HI⟩ := hrel
    have HSr2 := Aside0.mk (HS2.out.grown HGi.out HMi.out)
    have HGr := Aside0.mk (HG2.out.trans HGi.out)
    have a3 := HGi.out.cell a3 HQs.out
    have a4 := HGi.out.cell a4 HQs.out
    have b4 := HGi.out.cell b4 HQt.out
    by_cases hlt : i < t.f3.length
    · have hkt := Kd.C_below HNt.out.ks HSr2.out.old
      obtain ⟨adk, ek, hx⟩ := Kd.at_string hkt (i : Int) (by omega) (by omega)
      rw [ek] at *
      simp only [Int.toNat_natCast] at hx
      have hx0 : rdOf ByteArray.empty t.f3 (i : Int) = t.f3[i] := by
        show t.f3.getD i _ = _
        rw [List.getD_eq_getElem?_getD, List.getElem?_eq_getElem hlt]; rfl
      obtain ⟨y, hy⟩ : ∃ y, y = t.f3[i] := ⟨_, rfl⟩
      rw [hx0, ← hy] at hx
      have hdr : recF s t (t.f3.drop i) i fi = recF s t (y :: t.f3.drop (i + 1)) i fi := by rw [List.drop_eq_getElem_cons hlt, ← hy]
      have HD := Aside0.mk hdr
      have HLt0 := Aside0.mk hlt
      clear hdr hx0 hy hkt
      go_wp2_with (fail)
      refine (index_yes Aks cks s.f3 y wr (Kd.C_below HNs.out.ks HSr2.out.old) HNs.out.kc).mono ?_
      rintro e w' ⟨rfl, rfl⟩
      cases hix : idxF y s.f3 0 with
      | none =>
        have HF := Aside0.mk (show recF s t t.f3 0 f = (false, fi) by rw [HI.out, HD.out]; unfold recF; rw [hix])
        have hk0 : decide (ixv none < 0) = true := rfl
        clear hix
        go_wp2_with (fail)
        refine start_ (n := 18) (S := fun w' => True) (ds := []) #[φ,φ,φ,φ,φ,φ,φ,φ,φ,φ,φ,φ,φ,φ,φ,φ,φ,φ] (by kernel_rfl) rfl rfl trivial (fun hHeld => ?_)
        refine with_tabW rc5.tab5 rc5.bits5 (fun HT_ HW_ => ?_)
        refine pure_ (i := 0) (N := some 22) (v := ?_) (a' := ?_) #[τ,φ,φ,φ,φ,φ,φ,φ,φ,φ,φ,φ,φ,φ,φ,φ,φ,φ] rfl rfl (any_of HT_.out (by kernel_rfl)) (fun _ _ _ h => h) (Or.inl ⟨by rfl, ?_⟩) ?_ ?_
        rotate_left; (intro w'; go_simp; with_reducible rfl); rotate_left; (simp only [Act.put, zz1, zz2, zz3, i64_w, i32_w]; rfl)
        refine pure_ (i := 1) (N := some 23) (v := ?_) (a' := ?_) #[τ,τ,φ,φ,φ,φ,φ,φ,φ,φ,φ,φ,φ,φ,φ,φ,φ,φ] rfl rfl (any_of HT_.out (by kernel_rfl)) (fun _ _ _ h => h) (Or.inl ⟨by rfl, ?_⟩) ?_ ?_
        rotate_left; (intro w'; go_simp; with_reducible rfl); rotate_left; (simp only [Act.put, zz1, zz2, zz3, i64_w, i32_w]; rfl)
        refine pure_ (i := 2) (N := some 24) (v := ?_) (a' := ?_) #[τ,τ,τ,φ,φ,φ,φ,φ,φ,φ,φ,φ,φ,φ,φ,φ,φ,φ] rfl rfl (any_of HT_.out (by kernel_rfl)) (fun _ _ _ h => h) (Or.inl ⟨by rfl, ?_⟩) ?_ ?_
        rotate_left; (intro w'; go_simp; with_reducible rfl); rotate_left; (simp only [Act.put, zz1, zz2, zz3, i64_w, i32_w]; rfl)
        refine pure_ (i := 3) (N := some 25) (v := undef) (a' := ?_) #[τ,τ,τ,τ,φ,φ,φ,φ,φ,φ,φ,φ,φ,φ,φ,φ,φ,φ] rfl rfl (any_of HT_.out (by kernel_rfl)) (fun _ _ _ h => h) (Or.inr ⟨by rfl, rfl⟩) ?_ ?_
        rotate_left; (simp only [Act.put, zz1, zz2, zz3, i64_w, i32_w]; rfl)
        refine pure_ (i := 4) (N := some 26) (v := undef) (a' := ?_) #[τ,τ,τ,τ,τ,φ,φ,φ,φ,φ,φ,φ,φ,φ,φ,φ,φ,φ] rfl rfl (any_of HT_.out (by kernel_rfl)) (fun _ _ _ h => h) (Or.inr ⟨by rfl, rfl⟩) ?_ ?_
        rotate_left; (simp only [Act.put, zz1, zz2, zz3, i64_w, i32_w]; rfl)
        refine pure_ (i := 5) (N := some 27) (v := undef) (a' := ?_) #[τ,τ,τ,τ,τ,τ,φ,φ,φ,φ,φ,φ,φ,φ,φ,φ,φ,φ] rfl rfl (any_of HT_.out (by kernel_rfl)) (fun _ _ _ h => h) (Or.inr ⟨by rfl, rfl⟩) ?_ ?_
        rotate_left; (simp only [Act.put, zz1, zz2, zz3, i64_w, i32_w]; rfl)
        refine pure_ (i := 6) (N := some 28) (v := undef) (a' := ?_) #[τ,τ,τ,τ,τ,τ,τ,φ,φ,φ,φ,φ,φ,φ,φ,φ,φ,φ] rfl rfl (any_of HT_.out (by kernel_rfl)) (fun _ _ _ h => h) (Or.inr ⟨by rfl, rfl⟩) ?_ ?_
        rotate_left; (simp only [Act.put, zz1, zz2, zz3, i64_w, i32_w]; rfl)
        refine pure_ (i := 7) (N := some 29) (v := undef) (a' := ?_) #[τ,τ,τ,τ,τ,τ,τ,τ,φ,φ,φ,φ,φ,φ,φ,φ,φ,φ] rfl rfl (any_of HT_.out (by kernel_rfl)) (fun _ _ _ h => h) (Or.inr ⟨by rfl, rfl⟩) ?_ ?_
        rotate_left; (simp only [Act.put, zz1, zz2, zz3, i64_w, i32_w]; rfl)
        refine pure_ (i := 8) (N := some 30) (v := undef) (a' := ?_) #[τ,τ,τ,τ,τ,τ,τ,τ,τ,φ,φ,φ,φ,φ,φ,φ,φ,φ] rfl rfl (any_of HT_.out (by kernel_rfl)) (fun _ _ _ h => h) (Or.inr ⟨by rfl, rfl⟩) ?_ ?_
        rotate_left; (simp only [Act.put, zz1, zz2, zz3, i64_w, i32_w]; rfl)
        refine pure_ (i := 9) (N := some 31) (v := undef) (a' := ?_) #[τ,τ,τ,τ,τ,τ,τ,τ,τ,τ,φ,φ,φ,φ,φ,φ,φ,φ] rfl rfl (any_of HT_.out (by kernel_rfl)) (fun _ _ _ h => h) (Or.inr ⟨by rfl, rfl⟩) ?_ ?_
        rotate_left; (simp only [Act.put, zz1, zz2, zz3, i64_w, i32_w]; rfl)
        refine pure_ (i := 10) (N := some 32) (v := undef) (a' := ?_) #[τ,τ,τ,τ,τ,τ,τ,τ,τ,τ,τ,φ,φ,φ,φ,φ,φ,φ] rfl rfl (any_of HT_.out (by kernel_rfl)) (fun _ _ _ h => h) (Or.inr ⟨by rfl, rfl⟩) ?_ ?_
        rotate_left; (simp only [Act.put, zz1, zz2, zz3, i64_w, i32_w]; rfl)
        refine pure_ (i := 11) (N := some 33) (v := undef) (a' := ?_) #[τ,τ,τ,τ,τ,τ,τ,τ,τ,τ,τ,τ,φ,φ,φ,φ,φ,φ] rfl rfl (any_of HT_.out (by kernel_rfl)) (fun _ _ _ h => h) (Or.inr ⟨by rfl, rfl⟩) ?_ ?_
        rotate_left; (simp only [Act.put, zz1, zz2, zz3, i64_w, i32_w]; rfl)
        refine pure_ (i := 12) (N := some 34) (v := undef) (a' := ?_) #[τ,τ,τ,τ,τ,τ,τ,τ,τ,τ,τ,τ,τ,φ,φ,φ,φ,φ] rfl rfl (any_of HT_.out (by kernel_rfl)) (fun _ _ _ h => h) (Or.inr ⟨by rfl, rfl⟩) ?_ ?_
        rotate_left; (simp only [Act.put, zz1, zz2, zz3, i64_w, i32_w]; rfl)
        refine pure_ (i := 13) (N := some 35) (v := undef) (a' := ?_) #[τ,τ,τ,τ,τ,τ,τ,τ,τ,τ,τ,τ,τ,τ,φ,φ,φ,φ] rfl rfl (any_of HT_.out (by kernel_rfl)) (fun _ _ _ h => h) (Or.inr ⟨by rfl, rfl⟩) ?_ ?_
        rotate_left; (simp only [Act.put, zz1, zz2, zz3, i64_w, i32_w]; rfl)
        refine pure_ (i := 14) (N := some 36) (v := undef) (a' := ?_) #[τ,τ,τ,τ,τ,τ,τ,τ,τ,τ,τ,τ,τ,τ,τ,φ,φ,φ] rfl rfl (any_of HT_.out (by kernel_rfl)) (fun _ _ _ h => h) (Or.inr ⟨by rfl, rfl⟩) ?_ ?_
        rotate_left; (simp only [Act.put, zz1, zz2, zz3, i64_w, i32_w]; rfl)
        refine pure_ (i := 15) (N := some 37) (v := undef) (a' := ?_) #[τ,τ,τ,τ,τ,τ,τ,τ,τ,τ,τ,τ,τ,τ,τ,τ,φ,φ] rfl rfl (any_of HT_.out (by kernel_rfl)) (fun _ _ _ h => h) (Or.inr ⟨by rfl, rfl⟩) ?_ ?_
        rotate_left; (simp only [Act.put, zz1, zz2, zz3, i64_w, i32_w]; rfl)
        refine pure_ (i := 16) (N := some 38) (v := undef) (a' := ?_) #[τ,τ,τ,τ,τ,τ,τ,τ,τ,τ,τ,τ,τ,τ,τ,τ,τ,φ] rfl rfl (any_of HT_.out (by kernel_rfl)) (fun _ _ _ h => h) (Or.inr ⟨by rfl, rfl⟩) ?_ ?_
        rotate_left; (simp only [Act.put, zz1, zz2, zz3, i64_w, i32_w]; rfl)
        refine pure_ (i := 17) (N := some 39) (v := ?_) (a' := ?_) #[τ,τ,τ,τ,τ,τ,τ,τ,τ,τ,τ,τ,τ,τ,τ,τ,τ,τ] rfl rfl (any_of HT_.out (by kernel_rfl)) (fun _ _ _ h => h) (Or.inl ⟨by rfl, ?_⟩) ?_ ?_
        rotate_left; (intro w'; go_simp; with_reducible rfl); rotate_left; (simp only [Act.put, zz1, zz2, zz3, i64_w, i32_w]; rfl)
        refine done_ (done_of HT_.out (by kernel_rfl)) ?_
        go_wp2_with (fail)
        go_ret
        exact ⟨by rw [HF.out]; rfl, by rw [HF.out]; exact HSr2.out.drew.mp, grown_drew HGr.out⟩
      | some k =>
        have hkl := (idxF_lt hix).2.1
        have hk0 : decide (ixv (some k) < 0) = false := decide_eq_false (by show ¬ ((k : Int) < 0); omega)
        have HIx := Aside0.mk hix
        clear hix
        obtain ⟨ads, e1, x1⟩ := Kd.at_int (Kd.C_below HNs.out.ls HSr2.out.old) (k : Int) (by omega) (by have := HS1.out; omega)
        obtain ⟨adt, e2, y1⟩ := Kd.at_int (Kd.C_below HNt.out.ls HSr2.out.old) (i : Int) (by omega) (by have := HT1.out; omega)
        replace a4 := a4.trans (congrArg (fun A => some (Value.slice A s.f4.length cls)) e1)
        replace b4 := b4.trans (congrArg (fun A => some (Value.slice A t.f4.length clt)) e2)
        obtain ⟨z1, a2⟩ := at_eq HSr.out (i := k) (by have := HS1.out; omega)
        obtain ⟨z2, b2⟩ := at_eq HTr.out (i := i) (by have := HT1.out; omega)
        rw [show rd s.f4 (k : Int) = s.f4.getD k 0 from rfl, z1, Int.toNat_natCast] at x1
        rw [show rd t.f4 (i : Int) = t.f4.getD i 0 from rfl, z2, Int.toNat_natCast] at y1
        obtain ⟨a, ha⟩ : ∃ a, a = at_ s.f4 k := ⟨_, rfl⟩
        obtain ⟨b, hb⟩ : ∃ b, b = at_ t.f4 i := ⟨_, rfl⟩
        rw [← ha] at x1 a2
        rw [← hb] at y1 b2
        have HF := Aside0.mk (show recF s t t.f3 0 f = if (grantedF fi a b).1 then recF s t (t.f3.drop (i + 1)) (i + 1) (grantedF fi a b).2 else (false, (grantedF fi a b).2) by rw [HI.out, HD.out, ha, hb]; conv => lhs; unfold recF; rw [HIx.out])
        have HA := Aside0.mk a2
        have HBn := Aside0.mk b2
        have hkl1 : k < s.f4.length := by have := HS1.out; omega
        have hil1 : i < t.f4.length := by have := HT1.out; omega
        have hkk : ixv (some k) = (k : Int) := rfl
        clear e1 e2 z1 z2 ha hb a2 b2
        rw [hkk] at hk0 ⊢
        clear hkk
        go_wp2_with (fail)
        refine start_ (n := 18) (S := fun w' => w'.cell? ⟨w.heap.size, 4, none⟩ = some (.slice (some ads) s.f4.length cls) ∧ w'.cell? ⟨w.heap.size + 1, 4, none⟩ = some (.slice (some adt) t.f4.length clt) ∧ w'.cell? (ads.add k) = some (.int .i64 (a : Int)) ∧ w'.cell? (adt.add i) = some (.int .i64 (b : Int))) (ds := [15]) #[φ,φ,φ,φ,φ,φ,φ,φ,φ,φ,φ,φ,φ,φ,φ,φ,φ,φ] (by kernel_rfl) rfl rfl ⟨a4, b4, x1, y1⟩ (fun hHeld => ?_)
        refine with_tabW rc5.tab5 rc5.bits5 (fun HT_ HW_ => ?_)
        refine pure_ (i := 0) (N := some 22) (v := ?_) (a' := ?_) #[τ,φ,φ,φ,φ,φ,φ,φ,φ,φ,φ,φ,φ,φ,φ,φ,φ,φ] rfl rfl (any_of HT_.out (by kernel_rfl)) (fun _ _ _ h => h) (Or.inl ⟨by rfl, ?_⟩) ?_ ?_
        rotate_left; (intro w'; go_simp; with_reducible rfl); rotate_left; (simp only [Act.put, zz1, zz2, zz3, i64_w, i32_w]; rfl)
        refine pure_ (i := 1) (N := some 23) (v := ?_) (a' := ?_) #[τ,τ,φ,φ,φ,φ,φ,φ,φ,φ,φ,φ,φ,φ,φ,φ,φ,φ] rfl rfl (any_of HT_.out (by kernel_rfl)) (fun _ _ _ h => h) (Or.inl ⟨by rfl, ?_⟩) ?_ ?_
        rotate_left; (intro w'; go_simp; with_reducible rfl); rotate_left; (simp only [Act.put, zz1, zz2, zz3, i64_w, i32_w]; rfl)
        refine pure_ (i := 2) (N := some 24) (v := ?_) (a' := ?_) #[τ,τ,τ,φ,φ,φ,φ,φ,φ,φ,φ,φ,φ,φ,φ,φ,φ,φ] rfl rfl (any_of HT_.out (by kernel_rfl)) (fun _ _ _ h => h) (Or.inl ⟨by rfl, ?_⟩) ?_ ?_
        rotate_left; (intro w'; go_simp; with_reducible rfl); rotate_left; (simp only [Act.put, zz1, zz2, zz3, i64_w, i32_w]; rfl)
        refine pure_ (i := 3) (N := some 25) (v := ?_) (a' := ?_) #[τ,τ,τ,τ,φ,φ,φ,φ,φ,φ,φ,φ,φ,φ,φ,φ,φ,φ] rfl rfl (any_of HT_.out (by kernel_rfl)) (fun _ _ _ h => h) (Or.inl ⟨by rfl, ?_⟩) ?_ ?_
        rotate_left; (intro w'; go_simp; with_reducible rfl); rotate_left; (simp only [Act.put, zz1, zz2, zz3, i64_w, i32_w]; rfl)
        refine pure_ (i := 4) (N := some 26) (v := ?_) (a' := ?_) #[τ,τ,τ,τ,τ,φ,φ,φ,φ,φ,φ,φ,φ,φ,φ,φ,φ,φ] rfl rfl (any_of HT_.out (by kernel_rfl)) (fun _ _ _ h => h) (Or.inl ⟨by rfl, ?_⟩) ?_ ?_
        rotate_left; (intro w'; go_simp; with_reducible rfl); rotate_left; (simp only [Act.put, zz1, zz2, zz3, i64_w, i32_w]; rfl)
        refine pure_ (i := 6) (N := some 28) (v := ?_) (a' := ?_) #[τ,τ,τ,τ,τ,φ,τ,φ,φ,φ,φ,φ,φ,φ,φ,φ,φ,φ] rfl rfl (any_of HT_.out (by kernel_rfl)) (fun _ _ _ h => h) (Or.inl ⟨by rfl, ?_⟩) ?_ ?_
        rotate_left; (intro w'; go_simp; with_reducible rfl); rotate_left; (simp only [Act.put, zz1, zz2, zz3, i64_w, i32_w]; rfl)
        refine pure_ (i := 9) (N := some 31) (v := ?_) (a' := ?_) #[τ,τ,τ,τ,τ,φ,τ,φ,φ,τ,φ,φ,φ,φ,φ,φ,φ,φ] rfl rfl (any_of HT_.out (by kernel_rfl)) (fun _ _ _ h => h) (Or.inl ⟨by rfl, ?_⟩) ?_ ?_
        rotate_left; (intro w'; go_simp; with_reducible rfl); rotate_left; (simp only [Act.put, zz1, zz2, zz3, i64_w, i32_w]; rfl)
        refine pure_ (i := 11) (N := some 33) (v := ?_) (a' := ?_) #[τ,τ,τ,τ,τ,φ,τ,φ,φ,τ,φ,τ,φ,φ,φ,φ,φ,φ] rfl rfl (any_of HT_.out (by kernel_rfl)) (fun _ _ _ h => h) (Or.inl ⟨by rfl, ?_⟩) ?_ ?_
        rotate_left; (intro w'; go_simp; with_reducible rfl); rotate_left; (simp only [Act.put, zz1, zz2, zz3, i64_w, i32_w]; rfl)
        refine take_ (i := 5) (N := some 27) (v := ?_) (a' := ?_) #[τ,τ,τ,τ,τ,τ,τ,φ,φ,τ,φ,τ,φ,φ,φ,φ,φ,φ] rfl rfl (take_ofW HT_.out HW_.out (by kernel_rfl)) (fun _ _ _ h => h) (Or.inl ⟨by rfl, ?_⟩) hHeld ?_ ?_
        rotate_left; (rintro w' ⟨s0, s1, s2, s3⟩; go_simp; with_reducible rfl); rotate_left; (simp only [Act.put, zz1, zz2, zz3, i64_w, i32_w]; rfl)
        refine pure_ (i := 7) (N := some 29) (v := ?_) (a' := ?_) #[τ,τ,τ,τ,τ,τ,τ,τ,φ,τ,φ,τ,φ,φ,φ,φ,φ,φ] rfl rfl (any_of HT_.out (by kernel_rfl)) (fun _ _ _ h => h) (Or.inl ⟨by rfl, ?_⟩) ?_ ?_
        rotate_left; (intro w'; go_simp; with_reducible rfl); rotate_left; (simp only [Act.put, zz1, zz2, zz3, i64_w, i32_w]; rfl)
        refine take_ (i := 8) (N := some 30) (v := ?_) (a' := ?_) #[τ,τ,τ,τ,τ,τ,τ,τ,τ,τ,φ,τ,φ,φ,φ,φ,φ,φ] rfl rfl (take_ofW HT_.out HW_.out (by kernel_rfl)) (fun _ _ _ h => h) (Or.inl ⟨by rfl, ?_⟩) hHeld ?_ ?_
        rotate_left; (rintro w' ⟨s0, s1, s2, s3⟩; go_simp; with_reducible rfl); rotate_left; (simp only [Act.put, zz1, zz2, zz3, i64_w, i32_w]; rfl)
        refine take_ (i := 10) (N := some 32) (v := ?_) (a' := ?_) #[τ,τ,τ,τ,τ,τ,τ,τ,τ,τ,τ,τ,φ,φ,φ,φ,φ,φ] rfl rfl (take_ofW HT_.out HW_.out (by kernel_rfl)) (fun _ _ _ h => h) (Or.inl ⟨by rfl, ?_⟩) hHeld ?_ ?_
        rotate_left; (rintro w' ⟨s0, s1, s2, s3⟩; go_simp; with_reducible rfl); rotate_left; (simp only [Act.put, zz1, zz2, zz3, i64_w, i32_w]; rfl)
        refine pure_ (i := 12) (N := some 34) (v := ?_) (a' := ?_) #[τ,τ,τ,τ,τ,τ,τ,τ,τ,τ,τ,τ,τ,φ,φ,φ,φ,φ] rfl rfl (any_of HT_.out (by kernel_rfl)) (fun _ _ _ h => h) (Or.inl ⟨by rfl, ?_⟩) ?_ ?_
        rotate_left; (intro w'; go_simp; with_reducible rfl); rotate_left; (simp only [Act.put, zz1, zz2, zz3, i64_w, i32_w]; rfl)
        refine take_ (i := 13) (N := some 35) (v := ?_) (a' := ?_) #[τ,τ,τ,τ,τ,τ,τ,τ,τ,τ,τ,τ,τ,τ,φ,φ,φ,φ] rfl rfl (take_ofW HT_.out HW_.out (by kernel_rfl)) (fun _ _ _ h => h) (Or.inl ⟨by rfl, ?_⟩) hHeld ?_ ?_
        rotate_left; (rintro w' ⟨s0, s1, s2, s3⟩; go_simp; with_reducible rfl); rotate_left; (simp only [Act.put, zz1, zz2, zz3, i64_w, i32_w]; rfl)
        refine pure_ (i := 14) (N := some 36) (v := ?_) (a' := ?_) #[τ,τ,τ,τ,τ,τ,τ,τ,τ,τ,τ,τ,τ,τ,τ,φ,φ,φ] rfl rfl (any_of HT_.out (by kernel_rfl)) (fun _ _ _ h => h) (Or.inl ⟨by rfl, ?_⟩) ?_ ?_
        rotate_left; (intro w'; go_simp; with_reducible rfl); rotate_left; (simp only [Act.put, zz1, zz2, zz3, i64_w, i32_w]; rfl)
        refine last_ (i := 15) (N := some 37) #[τ,τ,τ,τ,τ,τ,τ,τ,τ,τ,τ,τ,τ,τ,τ,τ,φ,φ] rfl rfl (one_of HT_.out (by kernel_rfl)) (by decide) (fun K hK => ?_)
        refine goes_ Tryd.func27 (by kernel_rfl) rfl #[.pointer (some ⟨sb, 0, none⟩), .agg #[.int .i64 (a : Int), .int .i64 (b : Int)]] (by rfl) rfl rfl (by simp only [List.map_toArray, List.map_cons, List.map_nil]; rfl) ?_
        with_reducible refine (granted_yes sb m g.length a b fi _ HSr2.out.drew.z2 HSr2.out.drew.mp HA.out HBn.out).mono ?_
        rintro e w3 ⟨rfl, hm, hg⟩
        refine ⟨_, rfl, ?_⟩
        have HM3 := Aside0.mk hm
        have HG3 := Aside0.mk ((grown_drew HGr.out).trans hg)
        have HG3' := Aside0.mk hg
        clear hm hg
        refine hK.out _ _ ?_
        clear hK K
        refine norm_ (a' := ?_) ?_ ?_
        rotate_left
        · show Act.put _ (some 37) _ = _
          simp only [Act.put, zz1, zz2, zz3, i64_w, i32_w]
          rfl
        refine pure_ (i := 16) (N := some 38) (v := ?_) (a' := ?_) #[τ,τ,τ,τ,τ,τ,τ,τ,τ,τ,τ,τ,τ,τ,τ,τ,τ,φ] rfl rfl (any_of HT_.out (by kernel_rfl)) (fun _ _ _ h => h) (Or.inl ⟨by rfl, ?_⟩) ?_ ?_
        rotate_left; (intro w'; go_simp; with_reducible rfl); rotate_left; (simp only [Act.put, zz1, zz2, zz3, i64_w, i32_w]; rfl)
        refine pure_ (i := 17) (N := some 39) (v := ?_) (a' := ?_) #[τ,τ,τ,τ,τ,τ,τ,τ,τ,τ,τ,τ,τ,τ,τ,τ,τ,τ] rfl rfl (any_of HT_.out (by kernel_rfl)) (fun _ _ _ h => h) (Or.inl ⟨by rfl, ?_⟩) ?_ ?_
        rotate_left; (intro w'; go_simp; with_reducible rfl); rotate_left; (simp only [Act.put, zz1, zz2, zz3, i64_w, i32_w]; rfl)
        refine done_ (done_of HT_.out (by kernel_rfl)) ?_
        cases hgr : (grantedF fi a b).1 with
        | false =>
          rw [hgr] at HF
          clear hgr
          go_wp2_with (fail)
          go_ret
          exact ⟨by rw [HF.out]; rfl, by rw [HF.out]; exact HM3.out, HG3.out⟩
        | true =>
          rw [hgr] at HF
          clear hgr
          have hw : wrap64 ((i : Int) + 1) = ((i + 1 : Nat) : Int) := by have := HLt.out; unfold wrap64; omega
          go_wp2_with (fail)
          go_roundw
          case rel => exact ⟨i + 1, (grantedF fi a b).2, by omega, by first | (rw [hw]; done) | (rw [Int.natCast_add]; rfl), HM3, ⟨(grown_drew HGi.out).trans HG3'.out⟩, ⟨HF.out⟩⟩
          case measure => first | (rw [hw]; simp only [intOf]; omega) | (simp only [intOf]; omega)
    · obtain rfl : i = t.f3.length := by omega
      have HF := Aside0.mk (show recF s t t.f3 0 f = (true, fi) by rw [HI.out, List.drop_length]; rfl)
      go_wp2_with (fail)
      go_ret
      exact ⟨by rw [HF.out]; rfl, by rw [HF.out]; exact HMi.out, HGr.out⟩
end Go.Proofs.YtgppcpghpeenhaaDoor.S3

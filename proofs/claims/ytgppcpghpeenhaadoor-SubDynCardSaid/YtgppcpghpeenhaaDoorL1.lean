/- lex: keys and names. -/
import Derived.Test.YtgppcpghpeenhaaDoorProg
import Derived.Test.YtgppcpghpeenhaaDoorWWords
import Derived.Test.YtgppcpghpeenhaaDoorWLast
import Derived.Test.YtgppcpghpeenhaaDoorK0
namespace Go.Proofs.YtgppcpghpeenhaaDoor.L1
open Go.RowKit Go.Proofs.YtgppcpghpeenhaaDoorW.PrintWords Go.Proofs.YtgppcpghpeenhaaDoorW.PrintLast Go.Proofs.YtgppcpghpeenhaaDoorW.PrintMore Go.Proofs.YtgppcpghpeenhaaDoor
set_option linter.unusedVariables false
set_option linter.unusedSimpArgs false
theorem toList_loop (bs : ByteArray) : ∀ (d i : Nat) (r : List UInt8), i + d = bs.size → ByteArray.toList.loop bs i r = r.reverse ++ bs.data.toList.drop i := by
  intro d
  induction d with
  | zero =>
    intro i r h
    unfold ByteArray.toList.loop
    rw [if_neg (by omega), List.drop_eq_nil_of_le (by have : bs.data.toList.length = bs.size := rfl; omega), List.append_nil]
  | succ d ih =>
    intro i r h
    unfold ByteArray.toList.loop
    have hl : i < bs.data.toList.length := by have : bs.data.toList.length = bs.size := rfl; omega
    rw [if_pos (by omega), ih (i + 1) _ (by omega), List.drop_eq_getElem_cons hl]
    have : bs.get! i = bs.data.toList[i] := by
      show bs.data[i]! = _
      rw [getElem!_pos bs.data i (by have : bs.data.size = bs.size := rfl; omega)]
      simp
    rw [this]
    simp
theorem toList_data (bs : ByteArray) : bs.toList = bs.data.toList := by
  unfold ByteArray.toList
  rw [toList_loop bs bs.size 0 [] (by omega)]
  simp
theorem toList_inj {a b : ByteArray} (h : a.toList = b.toList) : a = b := by
  rw [toList_data, toList_data] at h
  exact ByteArray.ext (Array.toList_inj.1 h)
theorem toList_len (a : ByteArray) : a.toList.length = a.size := by rw [toList_data]; rfl
def keysL : List ByteArray := P.words18
/-- The language's own words lie where the program's variable lies. -/
def Keys (w : World) : Prop := ∀ i, i < 18 → w.cell? ⟨0, i, none⟩ = some (.string (keysL.getD i ByteArray.empty))
theorem Keys.below {w w1 : World} (h : Keys w) (hb : Below w.heap.size w w1) : Keys w1 := fun i hi => pw_cell_below hb (h i hi)
def isKeyP (s : ByteArray) : Bool := (keysL.take 18).any (fun k => k.toList == s.toList)
set_option maxHeartbeats 4000000 in
set_option maxRecDepth 100000 in
theorem isKey_yes (s : ByteArray) (w : World) (hk : Keys w) :
    Calls Tryd.prog 40 #[.string s] w fun e w' => e = .returned (.bool (isKeyP s)) ∧ w = w' := by
  have HK := Aside0.mk hk
  clear hk
  go_enter Tryd.func40, Tryd.ntmps40
  go_wp2_with (fail)
  go_loopw [4] (fun v4 wr => ∃ i : Nat, i ≤ 18 ∧ v4 = .int .i64 i ∧ Aside0 ((keysL.take i).any (fun k => k.toList == s.toList) = false) ∧ w = wr) (fun v4 _ => 19 - (intOf v4).toNat)
  case atStart => exact ⟨0, by omega, rfl, ⟨rfl⟩, rfl⟩
  case round =>
    obtain ⟨i, hi18, rfl, HA, rfl⟩ := hrel
    by_cases hi : i < 18
    · have hc := HK.out i hi
      obtain ⟨y, hy⟩ : ∃ y, y = keysL.getD i ByteArray.empty := ⟨_, rfl⟩
      rw [← hy] at hc
      have hs : (keysL.take (i + 1)).any (fun k => k.toList == s.toList) = (y.toList == s.toList) := by
        rw [List.take_add_one, List.any_append, HA.out, Bool.false_or]
        have : keysL.length = 18 := by decide
        rw [List.getElem?_eq_getElem (by omega), hy, List.getD_eq_getElem?_getD, List.getElem?_eq_getElem (by omega)]
        simp
      have HS := Aside0.mk hs
      by_cases he : y.toList = s.toList
      · have HT := Aside0.mk (show isKeyP s = true by
          unfold isKeyP
          rw [List.any_eq_true]
          have h1 : (keysL.take (i + 1)).any (fun k => k.toList == s.toList) = true := by rw [hs]; simp [he]
          obtain ⟨z, hz, hz2⟩ := List.any_eq_true.1 h1
          exact ⟨z, (List.take_subset_take_left keysL (by omega)) hz, hz2⟩)
        clear hs hy
        go_wp2_with (fail)
        go_ret
        exact ⟨by rw [HT.out]; rfl, rfl⟩
      · have HF := Aside0.mk (show (keysL.take (i + 1)).any (fun k => k.toList == s.toList) = false by rw [hs]; simp [he])
        have heb : (y.toList == s.toList) = false := by simp [he]
        clear hs hy
        go_wp2_with (fail)
        go_roundw
        case rel => exact ⟨i + 1, by omega, by rw [Int.natCast_add]; rfl, HF, trivial⟩
        case measure => simp only [intOf]; omega
    · obtain rfl : i = 18 := by omega
      go_wp2_with (fail)
      go_ret
      exact ⟨by unfold isKeyP; rw [HA.out]; rfl, rfl⟩
def smallP (c : Int) : Bool := decide (97 ≤ c) && decide (c ≤ 122)
def digitP (c : Int) : Bool := decide (48 ≤ c) && decide (c ≤ 57)
def scoreP (c : Int) : Bool := c == 95
theorem small_f (c : Int) : P.lex_small.f c = some (smallP c) := by
  unfold P.lex_small.f smallP
  by_cases h : 97 ≤ c
  · rw [if_pos h, decide_eq_true h, Bool.true_and]
  · rw [if_neg h, decide_eq_false h, Bool.false_and]
theorem digit_f (c : Int) : P.lex_digit.f c = some (digitP c) := by
  unfold P.lex_digit.f digitP
  by_cases h : 48 ≤ c
  · rw [if_pos h, decide_eq_true h, Bool.true_and]
  · rw [if_neg h, decide_eq_false h, Bool.false_and]
/-- The sorts of bytes behind the first one. -/
def sortF (j : Nat) : Nat := if j = 0 then 81 else if j = 1 then 82 else 83
def sortP (j : Nat) (c : Int) : Bool := if j = 0 then smallP c else if j = 1 then digitP c else scoreP c
set_option maxHeartbeats 4000000 in
set_option maxRecDepth 100000 in
theorem may_yes (j : Nat) (hj : j < 3) (s : ByteArray) (i : Nat) (hi : i < s.size) (g1 g2 : Nat) (w : World) (h1 : w.cell? ⟨g1, 0, none⟩ = some (.string s)) (h2 : w.cell? ⟨g2, 0, none⟩ = some (.int .i64 i)) :
    Calls Tryd.prog 92 #[.func (.func (sortF j)) #[] #[], .pointer (some ⟨g1, 0, none⟩), .pointer (some ⟨g2, 0, none⟩)] w fun e w' => e = .returned (.bool (sortP j (bt s i))) ∧ Drawn0 w w' := by
  have hib : (i : Int) < (s.size : Int) := by omega
  have hbt : ((s[i]'hi).toNat : Int) = bt s i := bt_at s i hi
  rcases (show j = 0 ∨ j = 1 ∨ j = 2 by omega) with rfl | rfl | rfl
  · show Calls Tryd.prog 92 #[.func (.func 81) #[] #[], .pointer (some ⟨g1, 0, none⟩), .pointer (some ⟨g2, 0, none⟩)] w _
    go_enter Tryd.func92, Tryd.ntmps92
    go_wp2_with (fail)
    refine (P.lex_small.calls (bt s i) _ w (small_f _)).mono ?_
    rintro e w' ⟨rfl, ⟨nd, rfl⟩⟩
    go_wp2_with (fail)
    go_ret
    exact ⟨rfl, ⟨nd, rfl⟩⟩
  · show Calls Tryd.prog 92 #[.func (.func 82) #[] #[], .pointer (some ⟨g1, 0, none⟩), .pointer (some ⟨g2, 0, none⟩)] w _
    go_enter Tryd.func92, Tryd.ntmps92
    go_wp2_with (fail)
    refine (P.lex_digit.calls (bt s i) _ w (digit_f _)).mono ?_
    rintro e w' ⟨rfl, ⟨nd, rfl⟩⟩
    go_wp2_with (fail)
    go_ret
    exact ⟨rfl, ⟨nd, rfl⟩⟩
  · show Calls Tryd.prog 92 #[.func (.func 83) #[] #[], .pointer (some ⟨g1, 0, none⟩), .pointer (some ⟨g2, 0, none⟩)] w _
    go_enter Tryd.func92, Tryd.ntmps92
    go_wp2_with (fail)
    refine (P.lex_score.calls (bt s i) _ w rfl).mono ?_
    rintro e w' ⟨rfl, ⟨nd, rfl⟩⟩
    go_wp2_with (fail)
    go_ret
    exact ⟨rfl, ⟨nd, rfl⟩⟩
def okP (c : Int) : Bool := smallP c || digitP c || scoreP c
set_option maxHeartbeats 4000000 in
set_option maxRecDepth 100000 in
theorem index_yes (s : ByteArray) (i : Nat) (hi : i < s.size) (g0 g1 g2 : Nat) (w : World) (h0 : ∀ j, j < 3 → w.cell? ⟨g0, j, none⟩ = some (.func (.func (sortF j)) #[] #[])) (h1 : w.cell? ⟨g1, 0, none⟩ = some (.string s)) (h2 : w.cell? ⟨g2, 0, none⟩ = some (.int .i64 i)) :
    Calls Tryd.prog 95 #[.slice (some ⟨g0, 0, none⟩) 3 3, .func (.func 92) #[] #[.pointer (some ⟨g1, 0, none⟩), .pointer (some ⟨g2, 0, none⟩)]] w fun e w' => ∃ n : Int, e = .returned (.int .i64 n) ∧ decide (n ≥ 0) = okP (bt s i) ∧ Drawn0 w w' := by
  have HS := Aside0.mk hi
  have H0 := Aside0.mk h0
  have H1 := Aside0.mk h1
  have H2 := Aside0.mk h2
  clear hi h0 h1 h2
  go_enter Tryd.func95, Tryd.ntmps95
  go_wp2_with (fail)
  go_loopw [8] (fun v8 wr => ∃ j : Nat, j ≤ 3 ∧ v8 = .int .i64 j ∧ Aside0 (∀ m, m < j → sortP m (bt s i) = false) ∧ Aside0 (Drawn0 w wr)) (fun v8 _ => 4 - (intOf v8).toNat)
  case atStart => exact ⟨0, by omega, rfl, ⟨fun m hm => absurd hm (by omega)⟩, ⟨⟨0, rfl⟩⟩⟩
  case round =>
    obtain ⟨j, hj3, rfl, HA, HD⟩ := hrel
    obtain ⟨nd, hnd⟩ := HD.out
    subst hnd
    by_cases hj : j < 3
    · have hc : (w.drewN nd).cell? ⟨g0, j, none⟩ = some (.func (.func (sortF j)) #[] #[]) := H0.out j hj
      cases hb : sortP j (bt s i) with
      | true =>
        have HB := Aside0.mk hb
        clear hb
        go_wp2_with (fail)
        refine (may_yes j hj s i HS.out g1 g2 (w.drewN nd) H1.out H2.out).mono ?_
        rw [HB.out]
        rintro e w' ⟨rfl, ⟨nd2, rfl⟩⟩
        go_wp2_with (fail)
        go_ret
        exact ⟨j, rfl, by
          rw [decide_eq_true (by omega : (j : Int) ≥ 0)]
          have h := HB.out
          unfold sortP at h
          unfold okP
          rcases (show j = 0 ∨ j = 1 ∨ j = 2 by omega) with rfl | rfl | rfl
          · rw [if_pos rfl] at h; rw [h]; rfl
          · rw [if_neg (by decide), if_pos rfl] at h; rw [h]; simp
          · rw [if_neg (by decide), if_neg (by decide)] at h; rw [h]; simp, ⟨nd + nd2, by simp⟩⟩
      | false =>
        have HB := Aside0.mk hb
        clear hb
        go_wp2_with (fail)
        refine (may_yes j hj s i HS.out g1 g2 (w.drewN nd) H1.out H2.out).mono ?_
        rw [HB.out]
        rintro e w' ⟨rfl, ⟨nd2, rfl⟩⟩
        go_wp2_with (fail)
        go_roundw
        case rel => exact ⟨j + 1, by omega, by rw [Int.natCast_add]; rfl, ⟨fun m hm => by
          by_cases he : m = j
          · rw [he]; exact HB.out
          · exact HA.out m (by omega)⟩, ⟨⟨nd + nd2, by simp⟩⟩⟩
        case measure => simp only [intOf]; omega
    · obtain rfl : j = 3 := by omega
      go_wp2_with (fail)
      go_ret
      exact ⟨-1, rfl, by
        have h0 := HA.out 0 (by omega)
        have h1 := HA.out 1 (by omega)
        have h2 := HA.out 2 (by omega)
        unfold sortP at h0 h1 h2
        rw [if_pos rfl] at h0
        rw [if_neg (by decide), if_pos rfl] at h1
        rw [if_neg (by decide), if_neg (by decide)] at h2
        unfold okP
        rw [h0, h1, h2]; rfl, ⟨nd, rfl⟩⟩
set_option maxRecDepth 100000 in
theorem contains_yes (s : ByteArray) (i : Nat) (hi : i < s.size) (g0 g1 g2 : Nat) (w : World) (h0 : ∀ j, j < 3 → w.cell? ⟨g0, j, none⟩ = some (.func (.func (sortF j)) #[] #[])) (h1 : w.cell? ⟨g1, 0, none⟩ = some (.string s)) (h2 : w.cell? ⟨g2, 0, none⟩ = some (.int .i64 i)) :
    Calls Tryd.prog 91 #[.slice (some ⟨g0, 0, none⟩) 3 3, .func (.func 92) #[] #[.pointer (some ⟨g1, 0, none⟩), .pointer (some ⟨g2, 0, none⟩)]] w fun e w' => e = .returned (.bool (okP (bt s i))) ∧ Drawn0 w w' := by
  have HI := Aside0.mk (index_yes s i hi g0 g1 g2 w h0 h1 h2)
  clear hi h0 h1 h2
  go_enter Tryd.func91, Tryd.ntmps91
  go_wp2_with (fail)
  refine HI.out.mono ?_
  rintro e w' ⟨n, rfl, hn, hd⟩
  have HN := Aside0.mk hn
  clear hn
  go_wp2_with (fail)
  go_ret
  exact ⟨by rw [← HN.out]; rfl, hd⟩
end Go.Proofs.YtgppcpghpeenhaaDoor.L1

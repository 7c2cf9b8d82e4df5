import Derived.Test.YtokbolgaokbdcaaDoorCells
import Derived.Test.YtokbolgaokbdcaaDoorAfter
/- Slices of int64: their size, copies, comparison, marks. -/
set_option linter.unusedSimpArgs false
set_option linter.unusedVariables false
namespace Go.Proofs.YtokbolgaokbdcaaDoor
open Go.RowKit
def intCells (l : List Int) : List Value := l.map (Value.int .i64)
theorem length_intCells (l : List Int) : (intCells l).length = l.length := by simp [intCells]
theorem intCells_get {l : List Int} {k : Nat} (h : k < l.length) : (intCells l)[k]? = some (.int .i64 l[k]) := by simp [intCells, h]
theorem intCells_snoc (l : List Int) (x : Int) : intCells (l ++ [x]) = intCells l ++ [.int .i64 x] := by simp [intCells]
theorem info_i64 : (Tryd.prog.info? 2).map (fun i => (i.zero, i.size, i.bytes)) = some (some (.int .i64 0), 1, 8) := by kernel_rfl
theorem info_i64' : ∃ i, Tryd.prog.info? 2 = some i ∧ i.zero = some (.int .i64 0) ∧ i.size = 1 ∧ i.bytes = 8 := by
  have h := info_i64
  cases hi : Tryd.prog.info? 2 with
  | none => rw [hi] at h; cases h
  | some i =>
    rw [hi] at h
    simp only [Option.map_some, Option.some.injEq, Prod.mk.injEq] at h
    exact ⟨i, rfl, h.1, h.2.1, h.2.2⟩
set_option maxHeartbeats 400000 in
theorem eqInt64S_any (l l' : List Int) (a a' : Option Addr) (n c n' c' : Nat) (w : World) (hn : l.length = n) (hn' : l'.length = n') (hm : n ≤ 1048576) (hm' : n' ≤ 1048576) (hr : Row w a (intCells l)) (hr' : Row w a' (intCells l')) :
    Calls Tryd.prog 15 #[.slice a n c, .slice a' n' c'] w (Ret w (.bool (l == l'))) := by
  subst hn hn'
  by_cases hl : l.length = l'.length
  · have hr := Lib.hid hr
    have hr' := Lib.hid hr'
    have e1 : ((l.length : Int) != (l'.length : Int)) = false := by simp [hl]
    have HL := Lib.hid hl
    clear hl
    go_enter Tryd.func15, Tryd.ntmps15
    go_wp2
    go_loopw [5] (fun i wr => ∃ k : Nat, k ≤ l.length ∧ i = .int .i64 k ∧ (∀ j (h1 : j < l.length) (h2 : j < l'.length), j < k → l[j] = l'[j]) ∧ Below w.heap.size w wr) (fun i _ => l.length - (intOf i).toNat)
    case atStart => exact ⟨0, Nat.zero_le _, rfl, fun j _ _ h => absurd h (by omega), Below.refl _ _⟩
    case round =>
      obtain ⟨k, hk, rfl, hsame, hb⟩ := hrel
      by_cases hlt : k < l.length
      · have hlt' : k < l'.length := by have := HL.out; omega
        obtain ⟨b, o, rfl, hc⟩ := (hr.out.bel hb) k _ (intCells_get hlt)
        obtain ⟨b', o', rfl, hc'⟩ := (hr'.out.bel hb) k _ (intCells_get hlt')
        have hi1 : (k : Int) < (l.length : Int) := by omega
        have hi2 : (k : Int) < (l'.length : Int) := by omega
        have HS := Lib.hid hsame
        have HB := Lib.hid hb
        clear hsame hb
        by_cases hd : l[k] = l'[k]
        · have hd' : (l[k] != l'[k]) = false := by simp [hd]
          have HD := Lib.hid hd
          clear hd
          go_wp2
          go_quiet (fail)
          go_wp2
          go_roundw
          case rel => exact ⟨k + 1, by omega, by go_num, fun j h1 h2 hj => by
            rcases Nat.lt_or_ge j k with h | h
            · exact HS.out j h1 h2 h
            · obtain rfl : j = k := by omega
              exact HD.out, bel_drewN HB.out _⟩
          case measure => simp [intOf]; omega
        · have hd' : (l[k] != l'[k]) = true := by simpa using hd
          have X := Lib.hid (beq_of_diff hlt hlt' hd)
          clear hd
          go_wp2
          go_quiet (fail)
          go_wp2
          go_ret
          exact .mk (by rw [X.out]; rfl) (bel_drewN HB.out _)
      · obtain rfl : k = l.length := by omega
        have X := Lib.hid (beq_of_all HL.out fun j h1 h2 => hsame j h1 h2 h1)
        have HB := Lib.hid hb
        clear hsame hb
        go_wp2
        go_ret
        exact .mk (by rw [X.out]; rfl) HB.out
  · have e1 : ((l.length : Int) != (l'.length : Int)) = true := by simp; omega
    have X := Lib.hid (beq_of_len hl)
    clear hl
    go_enter Tryd.func15, Tryd.ntmps15
    go_wp2
    go_ret
    exact .mk (by rw [X.out]; rfl) (Below.refl _ _)
theorem eqInt64S_same {l : List Int} {a a' : Option Addr} {n c n' c' : Nat} {w : World} (hn : l.length = n) (hn' : l.length = n') (hm : n ≤ 1048576) (hm' : n' ≤ 1048576) (hr : Row w a (intCells l)) (hr' : Row w a' (intCells l)) :
    Calls Tryd.prog 15 #[.slice a n c, .slice a' n' c'] w (Ret w (.bool true)) := by
  have h := eqInt64S_any l l a a' n c n' c' w hn hn' hm hm' hr hr'
  rw [beq_self_eq_true] at h
  exact h
def markInts (k : Int) (n : Nat) : List Value := (List.range n).map fun (j : Nat) => Value.int .i64 (k + (j : Int))
def markIPart (xs : List Value) (k : Int) (j : Nat) : List Value := markInts k j ++ xs.drop j
theorem markInts_get {k : Int} {n j : Nat} (h : j < n) : (markInts k n)[j]? = some (.int .i64 (k + j)) := by simp [markInts, h]
theorem length_markInts (k : Int) (n : Nat) : (markInts k n).length = n := by simp [markInts]
theorem markIPart_zero (xs : List Value) (k : Int) : markIPart xs k 0 = xs := by simp [markIPart, markInts]
theorem markIPart_full (xs : List Value) (k : Int) (n : Nat) (h : xs.length = n) : markIPart xs k n = markInts k n := by simp [markIPart, h, List.drop_eq_nil_of_le]
theorem markIPart_step (xs : List Value) (k : Int) (j : Nat) (h : j < xs.length) : (markIPart xs k j).set j (.int .i64 (k + j)) = markIPart xs k (j + 1) := by
  unfold markIPart
  rw [List.set_append_right _ _ (by simp [markInts]), length_markInts, Nat.sub_self, List.drop_eq_getElem_cons h, List.set_cons_zero]
  simp [markInts, List.range_succ]
set_option maxHeartbeats 400000 in
theorem markInt64S_any (a : Option Addr) (n c lo hi : Nat) (k : Int) (xs : List Value) (w : World) (h : Owns w lo hi 2 1 n a c xs) (hm : n ≤ 1048576) (hk : 0 ≤ k) (hk' : k ≤ 1099511627776) :
    Calls Tryd.prog 17 #[.slice a n c, .int .i64 k] w (RetMark w lo hi 2 n a c (markInts k n) (.int .i64 (k + n))) := by
  have hl : xs.length = n := by have := h.own.1; omega
  have HO := Lib.hid h
  have HL := Lib.hid hl
  clear h hl
  go_enter Tryd.func17, Tryd.ntmps17
  go_wp2
  go_loopw [1, 5] (fun kk i wr => ∃ j : Nat, j ≤ n ∧ i = .int .i64 j ∧ kk = .int .i64 (k + j) ∧ Between lo hi w wr ∧ Owns wr lo hi 2 1 n a c (markIPart xs k j)) (fun _ i _ => n - (intOf i).toNat)
  case atStart => exact ⟨0, Nat.zero_le _, rfl, by simp, Between.refl _ _ _, by rw [markIPart_zero]; exact HO.out⟩
  case round =>
    obtain ⟨j, hj, rfl, rfl, hb, ho⟩ := hrel
    by_cases hlt : j < n
    · obtain ⟨g, rfl, g1, g2, hc, hf⟩ := ho.at_ (j := j) (by omega)
      have hs := ho.set (j := j) (.int .i64 (k + j))
      rw [markIPart_step xs k j (by rw [HL.out]; exact hlt)] at hs
      obtain ⟨u, hu⟩ : ∃ u, (markIPart xs k j)[j]? = some u := ⟨_, List.getElem?_eq_getElem (by have := ho.own.1; omega)⟩
      rw [hu] at hc
      have HS := Lib.hid hs
      have HB := Lib.hid hb
      clear hs hb ho hu
      go_wp2
      go_roundw
      case rel => exact ⟨j + 1, by omega, by go_num, by go_num, HB.out.set g1 g2 _, HS.out⟩
      case measure => simp [intOf]; omega
    · obtain rfl : j = n := by omega
      rw [markIPart_full _ _ _ HL.out] at ho
      have HB := Lib.hid hb
      have HO := Lib.hid ho
      clear hb ho
      go_wp2
      go_ret
      exact ⟨rfl, ⟨_, HB.out⟩, rfl, HO.out⟩
set_option maxHeartbeats 400000 in
theorem heldInt64S_any (a : Option Addr) (n c : Nat) (k : Int) (w : World) (h : Row w a (markInts k n)) (hm : n ≤ 1048576) (hk : 0 ≤ k) (hk' : k ≤ 1099511627776) :
    Calls Tryd.prog 18 #[.slice a n c, .int .i64 k] w (Ret w (.int .i64 (k + n))) := by
  have HO := Lib.hid h
  clear h
  go_enter Tryd.func18, Tryd.ntmps18
  go_wp2
  go_loopw [1, 5] (fun kk i wr => ∃ j : Nat, j ≤ n ∧ i = .int .i64 j ∧ kk = .int .i64 (k + j) ∧ Below w.heap.size w wr) (fun _ i _ => n - (intOf i).toNat)
  case atStart => exact ⟨0, Nat.zero_le _, rfl, by simp, Below.refl _ _⟩
  case round =>
    obtain ⟨j, hj, rfl, rfl, hb⟩ := hrel
    have HB := Lib.hid hb
    by_cases hlt : j < n
    · obtain ⟨b, o, rfl, hc⟩ := (HO.out.bel hb) j _ (markInts_get hlt)
      clear hb
      go_wp2
      go_roundw
      case rel => exact ⟨j + 1, by omega, by go_num, by go_num, HB.out⟩
      case measure => simp [intOf]; omega
    · obtain rfl : j = n := by omega
      clear hb
      go_wp2
      go_ret
      exact .mk rfl HB.out
end Go.Proofs.YtokbolgaokbdcaaDoor

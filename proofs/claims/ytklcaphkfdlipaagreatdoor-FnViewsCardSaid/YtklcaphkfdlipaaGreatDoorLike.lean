import Derived.Test.YtklcaphkfdlipaaGreatDoorPackVa
/- Comparisons and sums in the laws that draw: lists of numbers. -/
set_option linter.unusedSimpArgs false
set_option linter.unusedVariables false
namespace Go.Proofs.YtklcaphkfdlipaaGreatDoor
open Go.RowKit
set_option maxHeartbeats 400000 in
theorem likeInts_any (l l' : List Int) (a a' : Option Addr) (n c n' c' : Nat) (w : World) (hn : l.length = n) (hn' : l'.length = n') (hm : n ≤ 1048576) (hm' : n' ≤ 1048576) (hr : Row w a (intCells l)) (hr' : Row w a' (intCells l')) :
    Calls Tryz.prog 40 #[.slice a n c, .slice a' n' c'] w (Ret w (.bool (l == l'))) := by
  subst hn hn'
  by_cases hl : l.length = l'.length
  · have hr := Lib.hid hr
    have hr' := Lib.hid hr'
    have e1 : ((l.length : Int) != (l'.length : Int)) = false := by simp [hl]
    have HL := Lib.hid hl
    clear hl
    go_enter Tryz.func40, Tryz.ntmps40
    go_wp2
    go_loopw [5] (fun i wr => ∃ k : Nat, k ≤ l.length ∧ i = .int .i64 k ∧ (∀ j (h1 : j < l.length) (h2 : j < l'.length), j < k → l[j] = l'[j]) ∧ Below w.heap.size w wr) (fun i _ => l.length - (intOf i).toNat)
    case atStart => exact ⟨0, Nat.zero_le _, rfl, fun j _ _ h => absurd h (by omega), Below.refl _ _⟩
    case round =>
      obtain ⟨k, hk, rfl, hsame, hb⟩ := hrel
      by_cases hlt : k < l.length
      · have hlt' : k < l'.length := by have := HL.out; omega
        obtain ⟨b, o, rfl, hc⟩ := (hr.out.bel hb) k _ (intCells_get hlt)
        obtain ⟨b', o', rfl, hc'⟩ := (hr'.out.bel hb) k _ (intCells_get hlt')
        have hi1 : (k : Int) < (l.length : Int) := by omega
        have hi2 : (k : Int) < (l'.length : Int) := by omega
        have HS := Lib.hid hsame
        have HB := Lib.hid hb
        clear hsame hb
        by_cases hd : l[k] = l'[k]
        · have hd' : (l[k] != l'[k]) = false := by simp [hd]
          have HD := Lib.hid hd
          clear hd
          go_wp2
          go_quiet (fail)
          go_wp2
          go_roundw
          case rel => exact ⟨k + 1, by omega, by go_num, fun j h1 h2 hj => by
            rcases Nat.lt_or_ge j k with h | h
            · exact HS.out j h1 h2 h
            · obtain rfl : j = k := by omega
              exact HD.out, bel_drewN HB.out _⟩
          case measure => simp [intOf]; omega
        · have hd' : (l[k] != l'[k]) = true := by simpa using hd
          have X := Lib.hid (beq_of_diff hlt hlt' hd)
          clear hd
          go_wp2
          go_quiet (fail)
          go_wp2
          go_ret
          exact .mk (by rw [X.out]; rfl) (bel_drewN HB.out _)
      · obtain rfl : k = l.length := by omega
        have X := Lib.hid (beq_of_all HL.out fun j h1 h2 => hsame j h1 h2 h1)
        have HB := Lib.hid hb
        clear hsame hb
        go_wp2
        go_ret
        exact .mk (by rw [X.out]; rfl) HB.out
  · have e1 : ((l.length : Int) != (l'.length : Int)) = true := by simp; omega
    have X := Lib.hid (beq_of_len hl)
    clear hl
    go_enter Tryz.func40, Tryz.ntmps40
    go_wp2
    go_ret
    exact .mk (by rw [X.out]; rfl) (Below.refl _ _)
theorem likeInts_same {l : List Int} {a a' : Option Addr} {n c n' c' : Nat} {w : World} (hn : l.length = n) (hn' : l.length = n') (hm : n ≤ 1048576) (hm' : n' ≤ 1048576) (hr : Row w a (intCells l)) (hr' : Row w a' (intCells l)) :
    Calls Tryz.prog 40 #[.slice a n c, .slice a' n' c'] w (Ret w (.bool true)) := by
  have h := likeInts_any l l a a' n c n' c' w hn hn' hm hm' hr hr'
  rw [beq_self_eq_true] at h
  exact h
theorem big_no (a : Option Addr) (n c : Nat) (w : World) (hn : n ≤ 4096) : Calls Tryz.prog 31 #[.slice a n c] w (Ret w (.bool false)) := by
  have h : ¬ (n : Int) > 4096 := by omega
  go_enter Tryz.func31, Tryz.ntmps31
  go_wp2
  go_ret
  exact .mk (by simp [*]) (Below.refl _ _)
theorem big_yes (a : Option Addr) (n c : Nat) (w : World) (hn : 4096 < n) (hm : n ≤ maxLen) : Calls Tryz.prog 31 #[.slice a n c] w (Ret w (.bool true)) := by
  unfold maxLen at hm
  have h : (n : Int) > 4096 := by omega
  go_enter Tryz.func31, Tryz.ntmps31
  go_wp2
  go_ret
  exact .mk (by simp [*]) (Below.refl _ _)
end Go.Proofs.YtklcaphkfdlipaaGreatDoor

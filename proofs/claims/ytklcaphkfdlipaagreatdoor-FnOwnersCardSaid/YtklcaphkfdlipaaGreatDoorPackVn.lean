import Derived.Test.YtklcaphkfdlipaaGreatDoorPackVa
import Derived.Laws.StructEq
import Derived.Test.YtklcaphkfdlipaaGreatDoorPackVc
/- Several of my texts, one behind the other: Bts, Like, LikeV. -/
/- Texts compared. -/
set_option linter.unusedSimpArgs false
set_option linter.unusedVariables false
namespace Go.Proofs.YtklcaphkfdlipaaGreatDoor
open Go.RowKit
theorem beq_bytes (a b : ByteArray) : (a == b) = decide (a = b) := by
  cases a; cases b
  rename_i x y
  show (x == y) = _
  by_cases h : x = y
  · subst h; simp
  · have h1 : (x == y) = false := by rw [beq_eq_false_iff_ne]; exact h
    rw [h1]; simp [h]
theorem toList_eq (a b : ByteArray) : (a.toList == b.toList) = decide (a = b) := by rw [← beq_toListBytes, beq_bytes]
end Go.Proofs.YtklcaphkfdlipaaGreatDoor

/- Comparisons and sums in the laws that draw: lists of numbers. -/
set_option linter.unusedSimpArgs false
set_option linter.unusedVariables false
namespace Go.Proofs.YtklcaphkfdlipaaGreatDoor
open Go.RowKit
theorem big_no (a : Option Addr) (n c : Nat) (w : World) (hn : n ≤ 4096) : Calls Tryz.prog 31 #[.slice a n c] w (Ret w (.bool false)) := by
  have h : ¬ (n : Int) > 4096 := by omega
  go_enter Tryz.func31, Tryz.ntmps31
  go_wp2
  go_ret
  exact .mk (by simp [*]) (Below.refl _ _)
theorem big_yes (a : Option Addr) (n c : Nat) (w : World) (hn : 4096 < n) (hm : n ≤ maxLen) : Calls Tryz.prog 31 #[.slice a n c] w (Ret w (.bool true)) := by
  unfold maxLen at hm
  have h : (n : Int) > 4096 := by omega
  go_enter Tryz.func31, Tryz.ntmps31
  go_wp2
  go_ret
  exact .mk (by simp [*]) (Below.refl _ _)
end Go.Proofs.YtklcaphkfdlipaaGreatDoor

/- Comparisons of texts in the laws that draw. -/
set_option linter.unusedSimpArgs false
set_option linter.unusedVariables false
namespace Go.Proofs.YtklcaphkfdlipaaGreatDoor
open Go.RowKit
set_option maxHeartbeats 1000000 in
theorem likeTexts_same (O : List ByteArray) (a a' : Option Addr) (n c n' c' : Nat) (w : World) (hn : O.length = n) (hn' : O.length = n') (hm : n ≤ 1048576) (hr : Row w a (strCells O)) (hr' : Row w a' (strCells O)) :
    Calls Tryz.prog 41 #[.slice a n c, .slice a' n' c'] w (Ret w (.bool true)) := by
  subst hn
  subst hn'
  replace hr := Lib.hid hr
  replace hr' := Lib.hid hr'
  go_enter Tryz.func41, Tryz.ntmps41
  go_wp2_with fail
  go_loopw [5] (fun i wr => ∃ k : Nat, k ≤ O.length ∧ i = .int .i64 k ∧ ∃ z : Later w, wr = z.w) (fun i _ => O.length - (intOf i).toNat)
  case atStart => exact ⟨0, Nat.zero_le _, rfl, ⟨_, Below.refl _ _⟩, rfl⟩
  case round =>
    obtain ⟨k, hk, rfl, z, rfl⟩ := hrel
    by_cases hlt : k < O.length
    · obtain ⟨b, o, rfl, hb, q⟩ := hr.out.str hlt
      obtain ⟨b', o', rfl, hb', q'⟩ := hr'.out.str hlt
      have hi1 : (k : Int) < (O.length : Int) := by omega
      have hzz := z.bel.size
      go_wp2_with fail
      go_quiet (fail)
      go_wp2_with fail
      go_roundw
      case rel => exact ⟨k + 1, by omega, by go_num, LaterC.mk bb⟩
      case measure => first | (simp [intOf]; done) | (simp [intOf]; omega) | omega
    · obtain rfl : k = O.length := by omega
      go_wp2_with fail
      go_ret
      exact .mk rfl bb
end Go.Proofs.YtklcaphkfdlipaaGreatDoor

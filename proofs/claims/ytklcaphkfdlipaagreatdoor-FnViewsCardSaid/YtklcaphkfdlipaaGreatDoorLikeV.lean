import Derived.Test.YtklcaphkfdlipaaGreatDoorLike
import Derived.Test.YtklcaphkfdlipaaGreatDoorPackVc
/- Comparisons of texts in the laws that draw. -/
set_option linter.unusedSimpArgs false
set_option linter.unusedVariables false
namespace Go.Proofs.YtklcaphkfdlipaaGreatDoor
open Go.RowKit
set_option maxHeartbeats 1000000 in
theorem likeTexts_same (O : List ByteArray) (a a' : Option Addr) (n c n' c' : Nat) (w : World) (hn : O.length = n) (hn' : O.length = n') (hm : n ≤ 1048576) (hr : Row w a (strCells O)) (hr' : Row w a' (strCells O)) :
    Calls Tryz.prog 41 #[.slice a n c, .slice a' n' c'] w (Ret w (.bool true)) := by
  subst hn
  subst hn'
  replace hr := Lib.hid hr
  replace hr' := Lib.hid hr'
  go_enter Tryz.func41, Tryz.ntmps41
  go_wp2_with fail
  go_loopw [5] (fun i wr => ∃ k : Nat, k ≤ O.length ∧ i = .int .i64 k ∧ ∃ z : Later w, wr = z.w) (fun i _ => O.length - (intOf i).toNat)
  case atStart => exact ⟨0, Nat.zero_le _, rfl, ⟨_, Below.refl _ _⟩, rfl⟩
  case round =>
    obtain ⟨k, hk, rfl, z, rfl⟩ := hrel
    by_cases hlt : k < O.length
    · obtain ⟨b, o, rfl, hb, q⟩ := hr.out.str hlt
      obtain ⟨b', o', rfl, hb', q'⟩ := hr'.out.str hlt
      have hi1 : (k : Int) < (O.length : Int) := by omega
      have hzz := z.bel.size
      go_wp2_with fail
      go_quiet (fail)
      go_wp2_with fail
      go_roundw
      case rel => exact ⟨k + 1, by omega, by go_num, LaterC.mk (by (repeat (first | (with_reducible first | exact Below.refl _ _ | assumption | refine Later.out _ ?_ | refine bel_alloc ?_ _ | refine bel_drew ?_ | refine bel_drewN ?_ _ | refine bel_set ?_ ?_ _ | refine After.out _ ?_ ?_) | (dsimp only; omega) | omega | (simp only [World.size_alloc, World.size_setCell, World.size_drew]; omega))))⟩
      case measure => first | (simp [intOf]; done) | (simp [intOf]; omega) | omega
    · obtain rfl : k = O.length := by omega
      go_wp2_with fail
      go_ret
      exact .mk rfl (by (repeat (first | (with_reducible first | exact Below.refl _ _ | assumption | refine Later.out _ ?_ | refine bel_alloc ?_ _ | refine bel_drew ?_ | refine bel_drewN ?_ _ | refine bel_set ?_ ?_ _ | refine After.out _ ?_ ?_) | (dsimp only; omega) | omega | (simp only [World.size_alloc, World.size_setCell, World.size_drew]; omega))))
end Go.Proofs.YtklcaphkfdlipaaGreatDoor

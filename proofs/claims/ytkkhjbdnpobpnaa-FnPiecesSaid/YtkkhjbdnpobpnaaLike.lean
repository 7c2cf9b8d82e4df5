import Derived.Test.YtkkhjbdnpobpnaaInts
/- Comparisons and sums in the laws that draw: lists of numbers. -/
set_option linter.unusedSimpArgs false
set_option linter.unusedVariables false
namespace Go.Proofs.Ytkkhjbdnpobpnaa
open Go.RowKit
theorem big_no (a : Option Addr) (n c : Nat) (w : World) (hn : n ≤ 4096) : Calls Try.prog 4 #[.slice a n c] w (Ret w (.bool false)) := by
  have h : ¬ (n : Int) > 4096 := by omega
  go_enter Try.func4, Try.ntmps4
  go_wp2
  go_ret
  exact .mk (by simp [*]) (Below.refl _ _)
theorem big_yes (a : Option Addr) (n c : Nat) (w : World) (hn : 4096 < n) (hm : n ≤ maxLen) : Calls Try.prog 4 #[.slice a n c] w (Ret w (.bool true)) := by
  unfold maxLen at hm
  have h : (n : Int) > 4096 := by omega
  go_enter Try.func4, Try.ntmps4
  go_wp2
  go_ret
  exact .mk (by simp [*]) (Below.refl _ _)
end Go.Proofs.Ytkkhjbdnpobpnaa

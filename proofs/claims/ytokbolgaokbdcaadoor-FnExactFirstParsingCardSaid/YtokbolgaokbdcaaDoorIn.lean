import Derived.Test.YtokbolgaokbdcaaDoorBase
/- Bounds. -/
set_option linter.unusedSimpArgs false
set_option linter.unusedVariables false
namespace Go.Proofs.YtokbolgaokbdcaaDoor
open Go.RowKit
def inB (x lo hi : Int) : Bool := decide (lo ≤ x) && decide (x ≤ hi)
theorem inB_iff {x lo hi : Int} : inB x lo hi = true ↔ lo ≤ x ∧ x ≤ hi := by simp [inB]
set_option maxHeartbeats 400000 in
theorem within_any (x lo hi : Int) (w : World) :
    Calls Tryd.prog 89 #[.int .i64 x, .int .i64 lo, .int .i64 hi] w (Ret w (.bool (inB x lo hi))) := by
  by_cases h1 : lo ≤ x
  · have H : inB x lo hi = decide (x ≤ hi) := by simp [inB, h1]
    have H' := Lib.hid H
    clear H
    go_enter Tryd.func89, Tryd.ntmps89
    go_wp2
    all_goals go_ret
    all_goals exact .mk (by simp [H'.out, *]) (Below.refl _ _)
  · have H : inB x lo hi = false := by simp [inB, h1]
    have H' := Lib.hid H
    clear H
    go_enter Tryd.func89, Tryd.ntmps89
    go_wp2
    all_goals go_ret
    all_goals exact .mk (by simp [H'.out]) (Below.refl _ _)
theorem within_b {x lo hi : Int} {b : Bool} (w : World) (h : inB x lo hi = b) : Calls Tryd.prog 89 #[.int .i64 x, .int .i64 lo, .int .i64 hi] w (Ret w (.bool b)) := by
  subst h; exact within_any _ _ _ _
set_option maxHeartbeats 400000 in
theorem l01In_any (x lo hi : Int) (w : World) :
    Calls Tryd.prog 88 #[.int .i64 x, .int .i64 lo, .int .i64 hi] w (Ret w (.bool (inB x lo hi))) := by
  by_cases h1 : lo ≤ x
  · have H : inB x lo hi = decide (x ≤ hi) := by simp [inB, h1]
    have H' := Lib.hid H
    clear H
    go_enter Tryd.func88, Tryd.ntmps88
    go_wp2
    all_goals go_ret
    all_goals exact .mk (by simp [H'.out, *]) (Below.refl _ _)
  · have H : inB x lo hi = false := by simp [inB, h1]
    have H' := Lib.hid H
    clear H
    go_enter Tryd.func88, Tryd.ntmps88
    go_wp2
    all_goals go_ret
    all_goals exact .mk (by simp [H'.out]) (Below.refl _ _)
theorem l01In_b {x lo hi : Int} {b : Bool} (w : World) (h : inB x lo hi = b) : Calls Tryd.prog 88 #[.int .i64 x, .int .i64 lo, .int .i64 hi] w (Ret w (.bool b)) := by
  subst h; exact l01In_any _ _ _ _

end Go.Proofs.YtokbolgaokbdcaaDoor

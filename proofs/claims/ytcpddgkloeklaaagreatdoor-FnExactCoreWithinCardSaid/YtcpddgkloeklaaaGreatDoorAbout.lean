import Derived.Test.YtcpddgkloeklaaaGreatDoorIdx
/- ClaimsAbout, both sides. -/
set_option linter.unusedSimpArgs false
set_option linter.unusedVariables false
namespace Go.Proofs.YtcpddgkloeklaaaGreatDoor
open Go.RowKit
theorem hasB_in (c : Clm) (y : Int) : hasB c y = inB y c.fr c.to := rfl
set_option maxHeartbeats 400000 in
theorem has_any (f t y : Int) (w : World) : Calls Tryz.prog 136 #[.agg #[.int .i64 f, .int .i64 t], .int .i64 y] w (Ret w (.bool (inB y f t))) := by
  go_enter Tryz.func136, Tryz.ntmps136
  go_wp2_with fail
  with_reducible refine (within_any _ _ _ _).mono ?_
  rintro e w' ⟨rfl, y1, rfl⟩
  have hsy1 := y1.bel.size
  (try simp only [World.size_alloc, World.size_setCell, World.size_drew] at hsy1)
  go_wp2_with fail
  go_ret
  exact .mk rfl (by (repeat (first | (with_reducible exact Below.refl _ _) | (with_reducible assumption) | (with_reducible refine Later.out _ ?_) | (with_reducible refine bel_alloc ?_ _) | (with_reducible refine bel_drew ?_) | (with_reducible refine bel_drewN ?_ _) | (with_reducible refine bel_set ?_ ?_ _) | (with_reducible refine After.out _ ?_ ?_) | (dsimp only; omega) | omega | (simp only [World.size_alloc, World.size_setCell, World.size_drew]; omega))))
theorem has_b {f t y : Int} {w : World} {b : Bool} (h : inB y f t = b) : Calls Tryz.prog 136 #[.agg #[.int .i64 f, .int .i64 t], .int .i64 y] w (Ret w (.bool b)) := by subst h; exact has_any _ _ _ _
/-- The claim is about a place, and its years have a year. -/
def aboutB (p : ByteArray) (y : Int) (c : Clm) : Bool := decide (c.place = p) && hasB c y
end Go.Proofs.YtcpddgkloeklaaaGreatDoor

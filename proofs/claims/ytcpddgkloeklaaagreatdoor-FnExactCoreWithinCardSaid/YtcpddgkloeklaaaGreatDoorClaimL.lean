import Derived.Test.YtcpddgkloeklaaaGreatDoorClaimB
import Derived.Test.YtcpddgkloeklaaaGreatDoorSizes
/- The law IsClaim; sizes and copies of claims. -/
set_option linter.unusedSimpArgs false
set_option linter.unusedVariables false
namespace Go.Proofs.YtcpddgkloeklaaaGreatDoor
open Go.RowKit
/-- How much a claim weighs for the laws. -/
def clmSz (c : Clm) : Int := c.src.size + c.place.size + c.val.size
theorem clmSz_nonneg (c : Clm) : 0 ≤ clmSz c := by unfold clmSz; omega
structure ClmMax (c : Clm) : Prop where
  s1 : c.src.size ≤ maxLen
  s2 : c.place.size ≤ maxLen
  s3 : c.val.size ≤ maxLen
section
variable (c : Clm) (left : Int) (w : World)
set_option maxHeartbeats 400000 in
theorem szClaim_any (hm : ClmMax c) (h3 : 0 ≤ left) (h4 : left ≤ 1048576) :
    Calls Tryz.prog 53 #[clmV c, .int .i64 left] w (Ret w (.int .i64 (szR (clmSz c) left))) := by
  obtain ⟨m1, m2, m3⟩ := hm
  unfold maxLen at m1 m2 m3
  by_cases c1 : left - c.src.size < 0
  · have X := Lib.hid (szR_no (S := clmSz c) (left := left) (by unfold clmSz; omega))
    go_enter Tryz.func53, Tryz.ntmps53
    go_wp2_with fail
    go_ret
    exact .mk (by rw [X.out]; rfl) (by (repeat (first | (with_reducible exact Below.refl _ _) | (with_reducible assumption) | (with_reducible refine Later.out _ ?_) | (with_reducible refine bel_alloc ?_ _) | (with_reducible refine bel_drew ?_) | (with_reducible refine bel_drewN ?_ _) | (with_reducible refine bel_set ?_ ?_ _) | (with_reducible refine After.out _ ?_ ?_) | (dsimp only; omega) | omega | (simp only [World.size_alloc, World.size_setCell, World.size_drew]; omega))))
  by_cases c2 : left - c.src.size - c.place.size < 0
  · have X := Lib.hid (szR_no (S := clmSz c) (left := left) (by unfold clmSz; omega))
    go_enter Tryz.func53, Tryz.ntmps53
    go_wp2_with fail
    go_ret
    exact .mk (by rw [X.out]; rfl) (by (repeat (first | (with_reducible exact Below.refl _ _) | (with_reducible assumption) | (with_reducible refine Later.out _ ?_) | (with_reducible refine bel_alloc ?_ _) | (with_reducible refine bel_drew ?_) | (with_reducible refine bel_drewN ?_ _) | (with_reducible refine bel_set ?_ ?_ _) | (with_reducible refine After.out _ ?_ ?_) | (dsimp only; omega) | omega | (simp only [World.size_alloc, World.size_setCell, World.size_drew]; omega))))
  by_cases c3 : left - c.src.size - c.place.size - c.val.size < 0
  · have X := Lib.hid (szR_no (S := clmSz c) (left := left) (by unfold clmSz; omega))
    go_enter Tryz.func53, Tryz.ntmps53
    go_wp2_with fail
    go_ret
    exact .mk (by rw [X.out]; rfl) (by (repeat (first | (with_reducible exact Below.refl _ _) | (with_reducible assumption) | (with_reducible refine Later.out _ ?_) | (with_reducible refine bel_alloc ?_ _) | (with_reducible refine bel_drew ?_) | (with_reducible refine bel_drewN ?_ _) | (with_reducible refine bel_set ?_ ?_ _) | (with_reducible refine After.out _ ?_ ?_) | (dsimp only; omega) | omega | (simp only [World.size_alloc, World.size_setCell, World.size_drew]; omega))))
  have X := Lib.hid (show szR (clmSz c) left = left - c.src.size - c.place.size - c.val.size by rw [szR_yes (by unfold clmSz; omega)]; unfold clmSz; omega)
  go_enter Tryz.func53, Tryz.ntmps53
  go_wp2_with fail
  go_ret
  exact .mk (by rw [X.out]; rfl) (by (repeat (first | (with_reducible exact Below.refl _ _) | (with_reducible assumption) | (with_reducible refine Later.out _ ?_) | (with_reducible refine bel_alloc ?_ _) | (with_reducible refine bel_drew ?_) | (with_reducible refine bel_drewN ?_ _) | (with_reducible refine bel_set ?_ ?_ _) | (with_reducible refine After.out _ ?_ ?_) | (dsimp only; omega) | omega | (simp only [World.size_alloc, World.size_setCell, World.size_drew]; omega))))
theorem toSpan_any (f t : Int) (w : World) : Calls Tryz.prog 96 #[.agg #[.int .i64 f, .int .i64 t]] w (Ret w (.agg #[.int .i64 f, .int .i64 t])) := by
  go_enter Tryz.func96, Tryz.ntmps96
  go_wp2_with fail
  go_returns
  refine .mk rfl ?_
  (repeat (first | (with_reducible exact Below.refl _ _) | (with_reducible assumption) | (with_reducible refine Later.out _ ?_) | (with_reducible refine bel_alloc ?_ _) | (with_reducible refine bel_drew ?_) | (with_reducible refine bel_drewN ?_ _) | (with_reducible refine bel_set ?_ ?_ _) | (with_reducible refine After.out _ ?_ ?_) | (dsimp only; omega) | omega | (simp only [World.size_alloc, World.size_setCell, World.size_drew]; omega)))
set_option maxHeartbeats 1000000 in
theorem toClaim_any : Calls Tryz.prog 56 #[clmV c] w (Ret w (clmV c)) := by
  go_enter Tryz.func56, Tryz.ntmps56
  go_wp2_with fail
  with_reducible refine (toSpan_any _ _ _).mono ?_
  rintro e w' ⟨rfl, y1, rfl⟩
  have hsy1 := y1.bel.size
  (try simp only [World.size_alloc, World.size_setCell, World.size_drew] at hsy1)
  go_wp2_with fail
  refine bodyPost_ret (v := clmV c) (by simp [results, Tryz.results56, go_sem, ↓IntWalk.iteOmega]; try rfl) rfl ?_
  refine .mk rfl ?_
  (repeat (first | (with_reducible exact Below.refl _ _) | (with_reducible assumption) | (with_reducible refine Later.out _ ?_) | (with_reducible refine bel_alloc ?_ _) | (with_reducible refine bel_drew ?_) | (with_reducible refine bel_drewN ?_ _) | (with_reducible refine bel_set ?_ ?_ _) | (with_reducible refine After.out _ ?_ ?_) | (dsimp only; omega) | omega | (simp only [World.size_alloc, World.size_setCell, World.size_drew]; omega)))
end
theorem clmOk_of {c : Clm} {k : Int} (h : ¬ (k - clmSz c < 0)) (hk : k ≤ 1048576) : ClmOk c := by
  unfold clmSz at h
  exact ⟨by omega, by omega, by omega⟩
end Go.Proofs.YtcpddgkloeklaaaGreatDoor

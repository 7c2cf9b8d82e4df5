import Derived.Test.YtfjlilpebhiogaaGreatDoorClaimT
import Derived.Test.YtfjlilpebhiogaaGreatDoorReadL
import Derived.Test.YtfjlilpebhiogaaGreatDoorRdN
import Derived.Test.YtfjlilpebhiogaaGreatDoorPackA
import Derived.Lib.AtoiErrMem
/- Reading numbers: both sides. -/
set_option linter.unusedSimpArgs false
set_option linter.unusedVariables false
namespace Go.Proofs.YtfjlilpebhiogaaGreatDoor
open Go.RowKit
set_option maxHeartbeats 1000000 in
theorem fromDot_any (s : ByteArray) (w : World) : Calls Tryz.prog 32 #[.string s] w (Ret w (.string (fromB s))) := by
  have ht : (s.toList == [46]) = decide (s = ⟨#[46]⟩) := by rw [← toList_eq, show (⟨#[46]⟩ : ByteArray).toList = [46] from by simp]
  by_cases h : s = ⟨#[46]⟩
  · rw [show fromB s = ByteArray.empty from if_pos h]
    rw [decide_eq_true h] at ht
    clear h
    go_enter Tryz.func32, Tryz.ntmps32
    go_wp2_with fail
    go_ret
    exact .mk rfl (by (repeat (first | (with_reducible exact Below.refl _ _) | (with_reducible assumption) | (with_reducible refine Later.out _ ?_) | (with_reducible refine bel_alloc ?_ _) | (with_reducible refine bel_drew ?_) | (with_reducible refine bel_drewN ?_ _) | (with_reducible refine bel_set ?_ ?_ _) | (with_reducible refine After.out _ ?_ ?_) | (dsimp only; omega) | omega | (simp only [World.size_alloc, World.size_setCell, World.size_drew]; omega))))
  · rw [show fromB s = s from if_neg h]
    rw [decide_eq_false h] at ht
    clear h
    go_enter Tryz.func32, Tryz.ntmps32
    go_wp2_with fail
    go_ret
    exact .mk rfl (by (repeat (first | (with_reducible exact Below.refl _ _) | (with_reducible assumption) | (with_reducible refine Later.out _ ?_) | (with_reducible refine bel_alloc ?_ _) | (with_reducible refine bel_drew ?_) | (with_reducible refine bel_drewN ?_ _) | (with_reducible refine bel_set ?_ ?_ _) | (with_reducible refine After.out _ ?_ ?_) | (dsimp only; omega) | omega | (simp only [World.size_alloc, World.size_setCell, World.size_drew]; omega))))
set_option maxHeartbeats 1000000 in
theorem sFrom_any (s : ByteArray) (w : World) : Calls Tryz.prog 36 #[.string s] w (Ret w (.string (fromB s))) := by
  have ht : (s.toList == [46]) = decide (s = ⟨#[46]⟩) := by rw [← toList_eq, show (⟨#[46]⟩ : ByteArray).toList = [46] from by simp]
  by_cases h : s = ⟨#[46]⟩
  · rw [show fromB s = ByteArray.empty from if_pos h]
    rw [decide_eq_true h] at ht
    clear h
    go_enter Tryz.func36, Tryz.ntmps36
    go_wp2_with fail
    go_ret
    exact .mk rfl (by (repeat (first | (with_reducible exact Below.refl _ _) | (with_reducible assumption) | (with_reducible refine Later.out _ ?_) | (with_reducible refine bel_alloc ?_ _) | (with_reducible refine bel_drew ?_) | (with_reducible refine bel_drewN ?_ _) | (with_reducible refine bel_set ?_ ?_ _) | (with_reducible refine After.out _ ?_ ?_) | (dsimp only; omega) | omega | (simp only [World.size_alloc, World.size_setCell, World.size_drew]; omega))))
  · rw [show fromB s = s from if_neg h]
    rw [decide_eq_false h] at ht
    clear h
    go_enter Tryz.func36, Tryz.ntmps36
    go_wp2_with fail
    go_ret
    exact .mk rfl (by (repeat (first | (with_reducible exact Below.refl _ _) | (with_reducible assumption) | (with_reducible refine Later.out _ ?_) | (with_reducible refine bel_alloc ?_ _) | (with_reducible refine bel_drew ?_) | (with_reducible refine bel_drewN ?_ _) | (with_reducible refine bel_set ?_ ?_ _) | (with_reducible refine After.out _ ?_ ?_) | (dsimp only; omega) | omega | (simp only [World.size_alloc, World.size_setCell, World.size_drew]; omega))))
end Go.Proofs.YtfjlilpebhiogaaGreatDoor

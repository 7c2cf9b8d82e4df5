import Derived.Test.YtfjlilpebhiogaaGreatDoorMaskB
import Derived.Test.YtfjlilpebhiogaaGreatDoorPackAa
/- Marks over slices of bools, empty masks. -/
set_option linter.unusedSimpArgs false
set_option linter.unusedVariables false
namespace Go.Proofs.YtfjlilpebhiogaaGreatDoor
open Go.RowKit
section
variable (x y W H : Int) (a : Option Addr) (n n' c lo hi : Nat) (k : Int) (xs : List Value) (w : World)
set_option maxHeartbeats 400000 in
theorem sEmpty_any (hn : W * H = n) (hm : n ≤ 1048576) :
    Calls Tryz.prog 54 #[.agg #[.int .i64 x, .int .i64 y, .int .i64 W, .int .i64 H, .slice a n' c]] w (RetOwn w 4 1 n (List.replicate n (.bool false)) fun v => .agg #[.int .i64 x, .int .i64 y, .int .i64 W, .int .i64 H, v]) := by
  have hmk := run_make_row' (P := Tryz.prog) 37 4 (.bool false) 1 Tryz.underlying37 info_bool rfl .i64 .i64 n (by omega) (by omega)
  go_enter Tryz.func54, Tryz.ntmps54
  go_wp2
  have l1 : -9223372036854775808 ≤ W * H := by omega
  have l2 : W * H ≤ 9223372036854775807 := by omega
  refine wp_region_plan [(0, true), (1, true), (2, true), (3, true), (4, true), (5, true), (6, true), (7, true), (8, true), (9, true), (10, true), (11, false), (12, true), (13, false)] (C := LaterBC (w.heap.size + 1) _) (by kernel_rfl) (by kernel_rfl) (by kernel_rfl) rfl (fun _ _ d _ _ h => by cases d <;> exact h) (LaterBC.mk ((Below.refl _ _).drew)) ?_
  first | (refine plan_quiet nth0 rfl ?_; intro KP hKP; go_big_quiet_op; go_big_quiet_on) | (refine plan_skip_q nth0 rfl rfl ?_; simp only [Act.put, List.setIfInBounds_toArray, List.set_cons_zero, List.set_cons_succ])
  first | (refine plan_quiet nth1 rfl ?_; intro KP hKP; go_big_quiet_op; go_big_quiet_on) | (refine plan_skip_q nth1 rfl rfl ?_; simp only [Act.put, List.setIfInBounds_toArray, List.set_cons_zero, List.set_cons_succ])
  first | (refine plan_quiet nth2 rfl ?_; intro KP hKP; go_big_quiet_op; go_big_quiet_on) | (refine plan_skip_q nth2 rfl rfl ?_; simp only [Act.put, List.setIfInBounds_toArray, List.set_cons_zero, List.set_cons_succ])
  first | (refine plan_quiet nth3 rfl ?_; intro KP hKP; go_big_quiet_op; go_big_quiet_on) | (refine plan_skip_q nth3 rfl rfl ?_; simp only [Act.put, List.setIfInBounds_toArray, List.set_cons_zero, List.set_cons_succ])
  first | (refine plan_quiet nth4 rfl ?_; intro KP hKP; go_big_quiet_op; go_big_quiet_on) | (refine plan_skip_q nth4 rfl rfl ?_; simp only [Act.put, List.setIfInBounds_toArray, List.set_cons_zero, List.set_cons_succ])
  first | (refine plan_quiet nth5 rfl ?_; intro KP hKP; go_big_quiet_op; go_big_quiet_on) | (refine plan_skip_q nth5 rfl rfl ?_; simp only [Act.put, List.setIfInBounds_toArray, List.set_cons_zero, List.set_cons_succ])
  first | (refine plan_quiet nth6 rfl ?_; intro KP hKP; go_big_quiet_op; go_big_quiet_on) | (refine plan_skip_q nth6 rfl rfl ?_; simp only [Act.put, List.setIfInBounds_toArray, List.set_cons_zero, List.set_cons_succ])
  first | (refine plan_quiet nth7 rfl ?_; intro KP hKP; go_big_quiet_op; go_big_quiet_on) | (refine plan_skip_q nth7 rfl rfl ?_; simp only [Act.put, List.setIfInBounds_toArray, List.set_cons_zero, List.set_cons_succ])
  first | (refine plan_quiet nth8 rfl ?_; intro KP hKP; go_big_quiet_op; go_big_quiet_on) | (refine plan_skip_q nth8 rfl rfl ?_; simp only [Act.put, List.setIfInBounds_toArray, List.set_cons_zero, List.set_cons_succ])
  first | (refine plan_quiet nth9 rfl ?_; intro KP hKP; go_big_quiet_op; go_big_quiet_on) | (refine plan_skip_q nth9 rfl rfl ?_; simp only [Act.put, List.setIfInBounds_toArray, List.set_cons_zero, List.set_cons_succ])
  first | (refine plan_quiet nth10 rfl ?_; intro KP hKP; go_big_quiet_op; go_big_quiet_on) | (refine plan_skip_q nth10 rfl rfl ?_; simp only [Act.put, List.setIfInBounds_toArray, List.set_cons_zero, List.set_cons_succ])
  first | (refine plan_loud nth11 rfl ?_; intro KP hKP; go_wp2_with fail; refine hKP _ _ (LaterBC.mk (by exact below_common ((Below.refl _ _).alloc (by simp only [World.size_alloc]; omega) _) (by (repeat (first | (with_reducible exact Below.refl _ _) | (with_reducible refine Below.drew ?_) | (with_reducible refine Below.alloc ?_ ?_ _) | (with_reducible refine Below.setCell ?_ ?_ _) | (with_reducible assumption) | (simp only [World.size_alloc, World.size_setCell, World.size_drew]; omega) | (dsimp only; omega) | omega))) (by simp only [World.size_alloc, World.size_setCell, World.size_drew]; omega))) ?_; clear hKP KP) | (refine plan_skip nth11 rfl rfl (LaterBC.mk (by exact below_common ((Below.refl _ _).alloc (by simp only [World.size_alloc]; omega) _) (by (repeat (first | (with_reducible exact Below.refl _ _) | (with_reducible refine Below.drew ?_) | (with_reducible refine Below.alloc ?_ ?_ _) | (with_reducible refine Below.setCell ?_ ?_ _) | (with_reducible assumption) | (simp only [World.size_alloc, World.size_setCell, World.size_drew]; omega) | (dsimp only; omega) | omega))) (by simp only [World.size_alloc, World.size_setCell, World.size_drew]; omega))) ?_; simp only [Act.put, List.setIfInBounds_toArray, List.set_cons_zero, List.set_cons_succ])
  first | (refine plan_quiet nth12 rfl ?_; intro KP hKP; go_big_quiet_op; go_big_quiet_on) | (refine plan_skip_q nth12 rfl rfl ?_; simp only [Act.put, List.setIfInBounds_toArray, List.set_cons_zero, List.set_cons_succ])
  first | (refine plan_loud nth13 rfl ?_; intro KP hKP; go_wp2_with fail; refine hKP _ _ (LaterBC.mk (by exact below_common ((Below.refl _ _).alloc (by simp only [World.size_alloc]; omega) _) (by (repeat (first | (with_reducible exact Below.refl _ _) | (with_reducible refine Below.drew ?_) | (with_reducible refine Below.alloc ?_ ?_ _) | (with_reducible refine Below.setCell ?_ ?_ _) | (with_reducible assumption) | (simp only [World.size_alloc, World.size_setCell, World.size_drew]; omega) | (dsimp only; omega) | omega))) (by simp only [World.size_alloc, World.size_setCell, World.size_drew]; omega))) ?_; clear hKP KP) | (refine plan_skip nth13 rfl rfl (LaterBC.mk (by exact below_common ((Below.refl _ _).alloc (by simp only [World.size_alloc]; omega) _) (by (repeat (first | (with_reducible exact Below.refl _ _) | (with_reducible refine Below.drew ?_) | (with_reducible refine Below.alloc ?_ ?_ _) | (with_reducible refine Below.setCell ?_ ?_ _) | (with_reducible assumption) | (simp only [World.size_alloc, World.size_setCell, World.size_drew]; omega) | (dsimp only; omega) | omega))) (by simp only [World.size_alloc, World.size_setCell, World.size_drew]; omega))) ?_; simp only [Act.put, List.setIfInBounds_toArray, List.set_cons_zero, List.set_cons_succ])
  refine plan_nil ?_
  go_wp2
  refine bodyPost_ret (by simp [results, Tryz.results54, go_sem, ↓IntWalk.iteOmega, *]; try rfl) rfl ?_
  refine RetOwn.mk _ rfl ?_ ?_
  · refine World.ownsRow.drew ?_
    have h := World.ownsRow_lit (base := w.heap.size) (e := 4) (size := 1) ((w.alloc (.cells #[.int .i64 x, .int .i64 y, .int .i64 W, .int .i64 H, .slice a n' c] 39)).alloc (.cells #[.int .i64 x, .int .i64 y, .int .i64 W, .int .i64 H, .slice (some ⟨w.heap.size + 1 + 1, 0, none⟩) n n] 39)) (madeCells #[Value.bool false] n) n (by simp only [World.size_alloc]; omega) (by unfold maxLen; omega) (by simp [size_madeCells])
    rw [toList_madeCells_one] at h
    simpa only [World.size_alloc] using h
  · (repeat (first | (with_reducible exact Below.refl _ _) | (with_reducible assumption) | (with_reducible refine Later.out _ ?_) | (with_reducible refine bel_alloc ?_ _) | (with_reducible refine bel_drew ?_) | (with_reducible refine bel_drewN ?_ _) | (with_reducible refine bel_set ?_ ?_ _) | (with_reducible refine After.out _ ?_ ?_) | (dsimp only; omega) | omega | (simp only [World.size_alloc, World.size_setCell, World.size_drew]; omega)))
end
end Go.Proofs.YtfjlilpebhiogaaGreatDoor

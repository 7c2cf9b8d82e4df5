import Derived.Test.YtiiekgmdbadalaaDoorMark
/- Marks over claims are read back. -/
set_option linter.unusedSimpArgs false
set_option linter.unusedVariables false
namespace Go.Proofs.YtiiekgmdbadalaaDoor
open Go.RowKit
set_option maxRecDepth 8000 in
set_option maxHeartbeats 4000000 in
theorem heldClaimS_any (a : Option Addr) (n c : Nat) (k : Int) (w : World) (h : Row w a (markCs k n)) (hm : n ≤ 1048576) (hk : 0 < k) (hk' : k ≤ 549755813888) :
    Calls Tryd.prog 57 #[.slice a n c, .int .i64 k] w (Ret w (.int .i64 (k + 7 * n))) := by
  have HO := Lib.hid h
  clear h
  go_enter Tryd.func57, Tryd.ntmps57
  go_wp2_with fail
  go_loopw [1, 5] (fun kk i wr => ∃ j : Nat, j ≤ n ∧ i = .int .i64 j ∧ kk = .int .i64 (k + 7 * j) ∧ ∃ z : Later w, wr = z.w) (fun _ i _ => n - (intOf i).toNat)
  case atStart => exact ⟨0, Nat.zero_le _, rfl, by simp, ⟨_, Below.refl _ _⟩, rfl⟩
  case round =>
    obtain ⟨j, hj, rfl, rfl, z, rfl⟩ := hrel
    have hzz := z.bel.size
    by_cases hlt : j < n
    · obtain ⟨b, o, rfl, h0⟩ := HO.out (j * 7 + 0) _ (markCs_get hlt (i := 0) rfl)
      have hb := World.block_lt_of_cell? w _ h0
      simp only at hb
      have key : ∀ i v, (markC (k + 7 * j))[i]? = some v → w.cell? ⟨b, o + j * 7 + i, none⟩ = some v := by
        intro i v hv
        obtain ⟨b', o', he, hc⟩ := HO.out (j * 7 + i) v (markCs_get hlt hv)
        cases he
        rw [Nat.add_assoc]; exact hc
      have q1 := key 1 _ rfl
      have q2 := key 2 _ rfl
      have q3 := key 3 _ rfl
      have q4 := key 4 _ rfl
      have q5 := key 5 _ rfl
      have q6 := key 6 _ rfl
      rw [Nat.add_zero] at h0
      obtain ⟨p, hp⟩ : ∃ p, k + 7 * (j : Int) = p := ⟨_, rfl⟩
      rw [hp] at h0 q1 q2 q3 q4 q5 q6 ⊢
      have hp1 : 0 < p := by omega
      have hp2 : p ≤ 549755813888 + 7340032 := by omega
      have HP2 := Lib.hid (show k + 7 * ((j + 1 : Nat) : Int) = p + 1 + 1 + 1 + 1 + 1 + 1 + 1 by omega)
      clear hp key
      have q0 : w.cell? ⟨b, o + j * 7, none⟩ = some (.string (mT p)) := h0
      clear h0
      go_wp2_with fail
      refine wp_region_plan [(0, true), (1, true), (2, true), (3, true), (4, true), (5, true), (6, false), (7, true)] (C := LaterC _) (by kernel_rfl) (by kernel_rfl) (by kernel_rfl) rfl (fun _ _ d _ _ h => by cases d <;> exact h) (LaterC.mk ((Below.refl _ _).drew)) ?_
      first | (refine plan_quiet nth0 rfl ?_; intro KP hKP; go_big_quiet_op; go_big_quiet_on) | (refine plan_skip_q nth0 rfl rfl ?_; simp only [Act.put, List.setIfInBounds_toArray, List.set_cons_zero, List.set_cons_succ])
      first | (refine plan_quiet nth1 rfl ?_; intro KP hKP; go_big_quiet_op; go_big_quiet_on) | (refine plan_skip_q nth1 rfl rfl ?_; simp only [Act.put, List.setIfInBounds_toArray, List.set_cons_zero, List.set_cons_succ])
      first | (refine plan_quiet nth2 rfl ?_; intro KP hKP; go_big_quiet_op; go_big_quiet_on) | (refine plan_skip_q nth2 rfl rfl ?_; simp only [Act.put, List.setIfInBounds_toArray, List.set_cons_zero, List.set_cons_succ])
      first | (refine plan_quiet nth3 rfl ?_; intro KP hKP; go_big_quiet_op; go_big_quiet_on) | (refine plan_skip_q nth3 rfl rfl ?_; simp only [Act.put, List.setIfInBounds_toArray, List.set_cons_zero, List.set_cons_succ])
      first | (refine plan_quiet nth4 rfl ?_; intro KP hKP; go_big_quiet_op; go_big_quiet_on) | (refine plan_skip_q nth4 rfl rfl ?_; simp only [Act.put, List.setIfInBounds_toArray, List.set_cons_zero, List.set_cons_succ])
      first | (refine plan_quiet nth5 rfl ?_; intro KP hKP; go_big_quiet_op; go_big_quiet_on) | (refine plan_skip_q nth5 rfl rfl ?_; simp only [Act.put, List.setIfInBounds_toArray, List.set_cons_zero, List.set_cons_succ])
      first | (refine plan_loud nth6 rfl ?_; intro KP hKP; go_wp2_with (first | (go_at_call 81; first | ((with_reducible refine (Calls.later (mText_any p _ hp1 (by omega))).mono ?_); rintro e w' ⟨rfl, xl, rfl⟩; have hsz := xl.bel.size; (try simp only [World.size_alloc, World.size_setCell, World.size_drew] at hsz); (try have hz0 : w.heap.size < xl.w.heap.size := (by omega)); (try have hz1 : w.heap.size + 1 < xl.w.heap.size := (by omega)); (try have hz2 : w.heap.size + 1 + 1 < xl.w.heap.size := (by omega))) | ((with_reducible refine (mText_any p _ hp1 (by omega)).mono ?_); rintro e w' ⟨rfl, xl, rfl⟩; have hsz := xl.bel.size; (try simp only [World.size_alloc, World.size_setCell, World.size_drew] at hsz); (try have hz0 : w.heap.size < xl.w.heap.size := (by omega)); (try have hz1 : w.heap.size + 1 < xl.w.heap.size := (by omega)); (try have hz2 : w.heap.size + 1 + 1 < xl.w.heap.size := (by omega))))); refine hKP _ _ (LaterC.mk (by (repeat (first | (with_reducible exact Below.refl _ _) | (with_reducible assumption) | (with_reducible refine Later.out _ ?_) | (with_reducible refine bel_alloc ?_ _) | (with_reducible refine bel_drew ?_) | (with_reducible refine bel_drewN ?_ _) | (with_reducible refine bel_set ?_ ?_ _) | (with_reducible refine After.out _ ?_ ?_) | (dsimp only; omega) | omega | (simp only [World.size_alloc, World.size_setCell, World.size_drew]; omega))))) ?_; clear hKP KP) | (refine plan_skip nth6 rfl rfl (LaterC.mk (by (repeat (first | (with_reducible exact Below.refl _ _) | (with_reducible assumption) | (with_reducible refine Later.out _ ?_) | (with_reducible refine bel_alloc ?_ _) | (with_reducible refine bel_drew ?_) | (with_reducible refine bel_drewN ?_ _) | (with_reducible refine bel_set ?_ ?_ _) | (with_reducible refine After.out _ ?_ ?_) | (dsimp only; omega) | omega | (simp only [World.size_alloc, World.size_setCell, World.size_drew]; omega))))) ?_; simp only [Act.put, List.setIfInBounds_toArray, List.set_cons_zero, List.set_cons_succ])
      first | (refine plan_quiet nth7 rfl ?_; intro KP hKP; go_big_quiet_op; go_big_quiet_on) | (refine plan_skip_q nth7 rfl rfl ?_; simp only [Act.put, List.setIfInBounds_toArray, List.set_cons_zero, List.set_cons_succ])
      refine plan_nil ?_
      go_wp2_with fail
      have hs1 := xl.bel.size
      refine wp_region_plan [(0, true), (1, true), (2, true), (3, true), (4, true), (5, true), (6, false), (7, true)] (C := LaterC _) (by kernel_rfl) (by kernel_rfl) (by kernel_rfl) rfl (fun _ _ d _ _ h => by cases d <;> exact h) (LaterC.mk ((Below.refl _ _).drew)) ?_
      first | (refine plan_quiet nth0 rfl ?_; intro KP hKP; go_big_quiet_op; go_big_quiet_on) | (refine plan_skip_q nth0 rfl rfl ?_; simp only [Act.put, List.setIfInBounds_toArray, List.set_cons_zero, List.set_cons_succ])
      first | (refine plan_quiet nth1 rfl ?_; intro KP hKP; go_big_quiet_op; go_big_quiet_on) | (refine plan_skip_q nth1 rfl rfl ?_; simp only [Act.put, List.setIfInBounds_toArray, List.set_cons_zero, List.set_cons_succ])
      first | (refine plan_quiet nth2 rfl ?_; intro KP hKP; go_big_quiet_op; go_big_quiet_on) | (refine plan_skip_q nth2 rfl rfl ?_; simp only [Act.put, List.setIfInBounds_toArray, List.set_cons_zero, List.set_cons_succ])
      first | (refine plan_quiet nth3 rfl ?_; intro KP hKP; go_big_quiet_op; go_big_quiet_on) | (refine plan_skip_q nth3 rfl rfl ?_; simp only [Act.put, List.setIfInBounds_toArray, List.set_cons_zero, List.set_cons_succ])
      first | (refine plan_quiet nth4 rfl ?_; intro KP hKP; go_big_quiet_op; go_big_quiet_on) | (refine plan_skip_q nth4 rfl rfl ?_; simp only [Act.put, List.setIfInBounds_toArray, List.set_cons_zero, List.set_cons_succ])
      first | (refine plan_quiet nth5 rfl ?_; intro KP hKP; go_big_quiet_op; go_big_quiet_on) | (refine plan_skip_q nth5 rfl rfl ?_; simp only [Act.put, List.setIfInBounds_toArray, List.set_cons_zero, List.set_cons_succ])
      first | (refine plan_loud nth6 rfl ?_; intro KP hKP; go_wp2_with (first | (go_at_call 81; (with_reducible refine (mText_any (p + 1 + 1) _ (by omega) (by omega)).mono ?_); rintro e w' ⟨rfl, xm, rfl⟩; have hsm := xm.bel.size; (try simp only [World.size_alloc, World.size_setCell, World.size_drew] at hsm))); refine hKP _ _ (LaterC.mk (by (repeat (first | (with_reducible exact Below.refl _ _) | (with_reducible assumption) | (with_reducible refine Later.out _ ?_) | (with_reducible refine bel_alloc ?_ _) | (with_reducible refine bel_drew ?_) | (with_reducible refine bel_drewN ?_ _) | (with_reducible refine bel_set ?_ ?_ _) | (with_reducible refine After.out _ ?_ ?_) | (dsimp only; omega) | omega | (simp only [World.size_alloc, World.size_setCell, World.size_drew]; omega))))) ?_; clear hKP KP) | (refine plan_skip nth6 rfl rfl (LaterC.mk (by (repeat (first | (with_reducible exact Below.refl _ _) | (with_reducible assumption) | (with_reducible refine Later.out _ ?_) | (with_reducible refine bel_alloc ?_ _) | (with_reducible refine bel_drew ?_) | (with_reducible refine bel_drewN ?_ _) | (with_reducible refine bel_set ?_ ?_ _) | (with_reducible refine After.out _ ?_ ?_) | (dsimp only; omega) | omega | (simp only [World.size_alloc, World.size_setCell, World.size_drew]; omega))))) ?_; simp only [Act.put, List.setIfInBounds_toArray, List.set_cons_zero, List.set_cons_succ])
      first | (refine plan_quiet nth7 rfl ?_; intro KP hKP; go_big_quiet_op; go_big_quiet_on) | (refine plan_skip_q nth7 rfl rfl ?_; simp only [Act.put, List.setIfInBounds_toArray, List.set_cons_zero, List.set_cons_succ])
      refine plan_nil ?_
      go_wp2_with fail
      refine wp_region_plan [(0, true), (1, true), (2, true), (3, true), (4, true), (5, true), (6, false), (7, true)] (C := LaterC _) (by kernel_rfl) (by kernel_rfl) (by kernel_rfl) rfl (fun _ _ d _ _ h => by cases d <;> exact h) (LaterC.mk ((Below.refl _ _).drew)) ?_
      first | (refine plan_quiet nth0 rfl ?_; intro KP hKP; go_big_quiet_op; go_big_quiet_on) | (refine plan_skip_q nth0 rfl rfl ?_; simp only [Act.put, List.setIfInBounds_toArray, List.set_cons_zero, List.set_cons_succ])
      first | (refine plan_quiet nth1 rfl ?_; intro KP hKP; go_big_quiet_op; go_big_quiet_on) | (refine plan_skip_q nth1 rfl rfl ?_; simp only [Act.put, List.setIfInBounds_toArray, List.set_cons_zero, List.set_cons_succ])
      first | (refine plan_quiet nth2 rfl ?_; intro KP hKP; go_big_quiet_op; go_big_quiet_on) | (refine plan_skip_q nth2 rfl rfl ?_; simp only [Act.put, List.setIfInBounds_toArray, List.set_cons_zero, List.set_cons_succ])
      first | (refine plan_quiet nth3 rfl ?_; intro KP hKP; go_big_quiet_op; go_big_quiet_on) | (refine plan_skip_q nth3 rfl rfl ?_; simp only [Act.put, List.setIfInBounds_toArray, List.set_cons_zero, List.set_cons_succ])
      first | (refine plan_quiet nth4 rfl ?_; intro KP hKP; go_big_quiet_op; go_big_quiet_on) | (refine plan_skip_q nth4 rfl rfl ?_; simp only [Act.put, List.setIfInBounds_toArray, List.set_cons_zero, List.set_cons_succ])
      first | (refine plan_quiet nth5 rfl ?_; intro KP hKP; go_big_quiet_op; go_big_quiet_on) | (refine plan_skip_q nth5 rfl rfl ?_; simp only [Act.put, List.setIfInBounds_toArray, List.set_cons_zero, List.set_cons_succ])
      first | (refine plan_loud nth6 rfl ?_; intro KP hKP; go_wp2_with (first | (go_at_call 81; (with_reducible refine (mText_any (p + 1 + 1 + 1) _ (by omega) (by omega)).mono ?_); rintro e w' ⟨rfl, xn, rfl⟩; have hsn := xn.bel.size; (try simp only [World.size_alloc, World.size_setCell, World.size_drew] at hsn))); refine hKP _ _ (LaterC.mk (by (repeat (first | (with_reducible exact Below.refl _ _) | (with_reducible assumption) | (with_reducible refine Later.out _ ?_) | (with_reducible refine bel_alloc ?_ _) | (with_reducible refine bel_drew ?_) | (with_reducible refine bel_drewN ?_ _) | (with_reducible refine bel_set ?_ ?_ _) | (with_reducible refine After.out _ ?_ ?_) | (dsimp only; omega) | omega | (simp only [World.size_alloc, World.size_setCell, World.size_drew]; omega))))) ?_; clear hKP KP) | (refine plan_skip nth6 rfl rfl (LaterC.mk (by (repeat (first | (with_reducible exact Below.refl _ _) | (with_reducible assumption) | (with_reducible refine Later.out _ ?_) | (with_reducible refine bel_alloc ?_ _) | (with_reducible refine bel_drew ?_) | (with_reducible refine bel_drewN ?_ _) | (with_reducible refine bel_set ?_ ?_ _) | (with_reducible refine After.out _ ?_ ?_) | (dsimp only; omega) | omega | (simp only [World.size_alloc, World.size_setCell, World.size_drew]; omega))))) ?_; simp only [Act.put, List.setIfInBounds_toArray, List.set_cons_zero, List.set_cons_succ])
      first | (refine plan_quiet nth7 rfl ?_; intro KP hKP; go_big_quiet_op; go_big_quiet_on) | (refine plan_skip_q nth7 rfl rfl ?_; simp only [Act.put, List.setIfInBounds_toArray, List.set_cons_zero, List.set_cons_succ])
      refine plan_nil ?_
      go_wp2_with fail
      go_roundw
      case rel => exact ⟨j + 1, by omega, by go_num, by rw [HP2.out], LaterC.mk (by (repeat (first | (with_reducible exact Below.refl _ _) | (with_reducible assumption) | (with_reducible refine Later.out _ ?_) | (with_reducible refine bel_alloc ?_ _) | (with_reducible refine bel_drew ?_) | (with_reducible refine bel_drewN ?_ _) | (with_reducible refine bel_set ?_ ?_ _) | (with_reducible refine After.out _ ?_ ?_) | (dsimp only; omega) | omega | (simp only [World.size_alloc, World.size_setCell, World.size_drew]; omega))))⟩
      case measure => simp [intOf]; omega
    · obtain rfl : j = n := by omega
      go_wp2_with fail
      go_ret
      exact .mk rfl (by (repeat (first | (with_reducible exact Below.refl _ _) | (with_reducible assumption) | (with_reducible refine Later.out _ ?_) | (with_reducible refine bel_alloc ?_ _) | (with_reducible refine bel_drew ?_) | (with_reducible refine bel_drewN ?_ _) | (with_reducible refine bel_set ?_ ?_ _) | (with_reducible refine After.out _ ?_ ?_) | (dsimp only; omega) | omega | (simp only [World.size_alloc, World.size_setCell, World.size_drew]; omega))))
end Go.Proofs.YtiiekgmdbadalaaDoor

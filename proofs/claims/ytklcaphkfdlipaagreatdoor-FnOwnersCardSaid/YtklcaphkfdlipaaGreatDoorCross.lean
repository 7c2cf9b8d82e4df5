import Derived.Test.YtklcaphkfdlipaaGreatDoorPackVa
import Derived.Test.YtklcaphkfdlipaaGreatDoorPts
/- Do two segments cross: both sides. -/
set_option linter.unusedSimpArgs false
set_option linter.unusedVariables false
namespace Go.Proofs.YtklcaphkfdlipaaGreatDoor
open Go.RowKit
def crossS (a b c d : Pt) : Bool := decide (signZ (turnZ a b c) * signZ (turnZ a b d) < 0)
def crossB (a b c d : Pt) : Bool := isOnB a b c || isOnB a b d || isOnB c d a || isOnB c d b || (crossS a b c d && crossS c d a b)
section
variable (a b c d : Pt) (w : World)
set_option maxRecDepth 4000 in
set_option maxHeartbeats 4000000 in
theorem cross_any (ha : PtB a) (hb : PtB b) (hc : PtB c) (hd : PtB d) : Calls Tryz.prog 178 #[ptV a, ptV b, ptV c, ptV d] w (Ret w (.bool (crossB a b c d))) := by
  cases o0 : isOnB a b c
  rotate_left
  · have X := Lib.hid (show crossB a b c d = true by simp [crossB, o0])
    go_enter Tryz.func178, Tryz.ntmps178
    go_wp2_with fail
    with_reducible refine (isOn_b ha hb hc o0).mono ?_
    rintro e w' ⟨rfl, y0, rfl⟩
    have hsy0 := y0.bel.size
    (try simp only [World.size_alloc, World.size_setCell, World.size_drew] at hsy0)
    go_wp2_with fail
    go_ret
    exact .mk (by rw [X.out]; rfl) bb
  cases o1 : isOnB a b d
  rotate_left
  · have X := Lib.hid (show crossB a b c d = true by simp [crossB, o0, o1])
    go_enter Tryz.func178, Tryz.ntmps178
    go_wp2_with fail
    with_reducible refine (isOn_b ha hb hc o0).mono ?_
    rintro e w' ⟨rfl, y0, rfl⟩
    have hsy0 := y0.bel.size
    (try simp only [World.size_alloc, World.size_setCell, World.size_drew] at hsy0)
    go_wp2_with fail
    with_reducible refine (isOn_b ha hb hd o1).mono ?_
    rintro e w' ⟨rfl, y1, rfl⟩
    have hsy1 := y1.bel.size
    (try simp only [World.size_alloc, World.size_setCell, World.size_drew] at hsy1)
    go_wp2_with fail
    go_ret
    exact .mk (by rw [X.out]; rfl) bb
  cases o2 : isOnB c d a
  rotate_left
  · have X := Lib.hid (show crossB a b c d = true by simp [crossB, o0, o1, o2])
    go_enter Tryz.func178, Tryz.ntmps178
    go_wp2_with fail
    with_reducible refine (isOn_b ha hb hc o0).mono ?_
    rintro e w' ⟨rfl, y0, rfl⟩
    have hsy0 := y0.bel.size
    (try simp only [World.size_alloc, World.size_setCell, World.size_drew] at hsy0)
    go_wp2_with fail
    with_reducible refine (isOn_b ha hb hd o1).mono ?_
    rintro e w' ⟨rfl, y1, rfl⟩
    have hsy1 := y1.bel.size
    (try simp only [World.size_alloc, World.size_setCell, World.size_drew] at hsy1)
    go_wp2_with fail
    with_reducible refine (isOn_b hc hd ha o2).mono ?_
    rintro e w' ⟨rfl, y2, rfl⟩
    have hsy2 := y2.bel.size
    (try simp only [World.size_alloc, World.size_setCell, World.size_drew] at hsy2)
    go_wp2_with fail
    go_ret
    exact .mk (by rw [X.out]; rfl) bb
  cases o3 : isOnB c d b
  rotate_left
  · have X := Lib.hid (show crossB a b c d = true by simp [crossB, o0, o1, o2, o3])
    go_enter Tryz.func178, Tryz.ntmps178
    go_wp2_with fail
    with_reducible refine (isOn_b ha hb hc o0).mono ?_
    rintro e w' ⟨rfl, y0, rfl⟩
    have hsy0 := y0.bel.size
    (try simp only [World.size_alloc, World.size_setCell, World.size_drew] at hsy0)
    go_wp2_with fail
    with_reducible refine (isOn_b ha hb hd o1).mono ?_
    rintro e w' ⟨rfl, y1, rfl⟩
    have hsy1 := y1.bel.size
    (try simp only [World.size_alloc, World.size_setCell, World.size_drew] at hsy1)
    go_wp2_with fail
    with_reducible refine (isOn_b hc hd ha o2).mono ?_
    rintro e w' ⟨rfl, y2, rfl⟩
    have hsy2 := y2.bel.size
    (try simp only [World.size_alloc, World.size_setCell, World.size_drew] at hsy2)
    go_wp2_with fail
    with_reducible refine (isOn_b hc hd hb o3).mono ?_
    rintro e w' ⟨rfl, y3, rfl⟩
    have hsy3 := y3.bel.size
    (try simp only [World.size_alloc, World.size_setCell, World.size_drew] at hsy3)
    go_wp2_with fail
    go_ret
    exact .mk (by rw [X.out]; rfl) bb
  have E : crossB a b c d = (crossS a b c d && crossS c d a b) := by simp [crossB, o0, o1, o2, o3]
  have b1 := sign_mul_bd (turnZ a b c) (turnZ a b d)
  have b2 := sign_mul_bd (turnZ c d a) (turnZ c d b)
  unfold crossS at E
  have T0 := fun w => turn_any a b c w ha hb hc
  have T1 := fun w => turn_any a b d w ha hb hd
  have T2 := fun w => turn_any c d a w hc hd ha
  have T3 := fun w => turn_any c d b w hc hd hb
  generalize crossB a b c d = B at E ⊢
  generalize turnZ a b c = t0 at E b1 T0
  generalize turnZ a b d = t1 at E b1 T1
  generalize turnZ c d a = t2 at E b2 T2
  generalize turnZ c d b = t3 at E b2 T3
  have S0 := fun w => sign_any w t0
  have S1 := fun w => sign_any w t1
  have S2 := fun w => sign_any w t2
  have S3 := fun w => sign_any w t3
  generalize signZ t0 = s0 at E b1 S0
  generalize signZ t1 = s1 at E b1 S1
  generalize signZ t2 = s2 at E b2 S2
  generalize signZ t3 = s3 at E b2 S3
  obtain ⟨b1, b3⟩ := b1
  obtain ⟨b2, b4⟩ := b2
  replace T0 := Lib.hid T0
  replace S0 := Lib.hid S0
  replace T1 := Lib.hid T1
  replace S1 := Lib.hid S1
  replace T2 := Lib.hid T2
  replace S2 := Lib.hid S2
  replace T3 := Lib.hid T3
  replace S3 := Lib.hid S3
  have O := Lib.hid (And.intro o0 (And.intro o1 (And.intro o2 o3)))
  clear o0 o1 o2 o3
  by_cases q : s0 * s1 < 0
  · have q1 : decide (s0 * s1 < 0) = true := by simpa using q
    have X := Lib.hid (show B = decide (s2 * s3 < 0) by rw [E, q1, Bool.true_and])
    clear E
    go_enter Tryz.func178, Tryz.ntmps178
    go_wp2_with fail
    with_reducible refine (isOn_b ha hb hc (O.out.1)).mono ?_
    rintro e w' ⟨rfl, y0, rfl⟩
    have hsy0 := y0.bel.size
    (try simp only [World.size_alloc, World.size_setCell, World.size_drew] at hsy0)
    go_wp2_with fail
    with_reducible refine (isOn_b ha hb hd (O.out.2.1)).mono ?_
    rintro e w' ⟨rfl, y1, rfl⟩
    have hsy1 := y1.bel.size
    (try simp only [World.size_alloc, World.size_setCell, World.size_drew] at hsy1)
    go_wp2_with fail
    with_reducible refine (isOn_b hc hd ha (O.out.2.2.1)).mono ?_
    rintro e w' ⟨rfl, y2, rfl⟩
    have hsy2 := y2.bel.size
    (try simp only [World.size_alloc, World.size_setCell, World.size_drew] at hsy2)
    go_wp2_with fail
    with_reducible refine (isOn_b hc hd hb (O.out.2.2.2)).mono ?_
    rintro e w' ⟨rfl, y3, rfl⟩
    have hsy3 := y3.bel.size
    (try simp only [World.size_alloc, World.size_setCell, World.size_drew] at hsy3)
    go_wp2_with fail
    refine wp_region_plan [(0, true), (1, true), (2, true), (5, true), (6, true), (7, true), (3, false), (4, false), (8, false), (9, false), (10, true), (11, true), (12, true), (13, true), (14, true), (15, true), (18, true), (19, true), (20, true), (16, false), (17, false), (21, false), (22, false), (23, true), (24, true), (25, true), (26, true)] (C := LaterC _) (by kernel_rfl) (by kernel_rfl) (by kernel_rfl) rfl (fun _ _ d _ _ h => by cases d <;> exact h) (LaterC.mk ((Below.refl _ _).drew)) ?_
    first | (refine plan_quiet nth0 rfl ?_; intro KP hKP; go_big_quiet_op; go_big_quiet_on) | (refine plan_skip_q nth0 rfl rfl ?_; simp only [Act.put, List.setIfInBounds_toArray, List.set_cons_zero, List.set_cons_succ])
    first | (refine plan_quiet nth1 rfl ?_; intro KP hKP; go_big_quiet_op; go_big_quiet_on) | (refine plan_skip_q nth1 rfl rfl ?_; simp only [Act.put, List.setIfInBounds_toArray, List.set_cons_zero, List.set_cons_succ])
    first | (refine plan_quiet nth2 rfl ?_; intro KP hKP; go_big_quiet_op; go_big_quiet_on) | (refine plan_skip_q nth2 rfl rfl ?_; simp only [Act.put, List.setIfInBounds_toArray, List.set_cons_zero, List.set_cons_succ])
    first | (refine plan_quiet nth5 rfl ?_; intro KP hKP; go_big_quiet_op; go_big_quiet_on) | (refine plan_skip_q nth5 rfl rfl ?_; simp only [Act.put, List.setIfInBounds_toArray, List.set_cons_zero, List.set_cons_succ])
    first | (refine plan_quiet nth6 rfl ?_; intro KP hKP; go_big_quiet_op; go_big_quiet_on) | (refine plan_skip_q nth6 rfl rfl ?_; simp only [Act.put, List.setIfInBounds_toArray, List.set_cons_zero, List.set_cons_succ])
    first | (refine plan_quiet nth7 rfl ?_; intro KP hKP; go_big_quiet_op; go_big_quiet_on) | (refine plan_skip_q nth7 rfl rfl ?_; simp only [Act.put, List.setIfInBounds_toArray, List.set_cons_zero, List.set_cons_succ])
    first | (refine plan_loud nth3 rfl ?_; intro KP hKP; go_wp2_with (first | (go_at_call 135; (first | (with_reducible refine (T0.out _).mono ?_) | (with_reducible refine (T1.out _).mono ?_) | (with_reducible refine (T2.out _).mono ?_) | (with_reducible refine (T3.out _).mono ?_)); rintro e w' ⟨rfl, xl, rfl⟩; have hsz := xl.bel.size; (try simp only [World.size_alloc, World.size_setCell, World.size_drew] at hsz); (try have hz0 : w.heap.size < xl.w.heap.size := (by omega)); (try have hz1 : w.heap.size + 1 < xl.w.heap.size := (by omega)); (try have hz2 : w.heap.size + 1 + 1 < xl.w.heap.size := (by omega))) | (go_at_call 195; (first | (with_reducible refine (S0.out _).mono ?_) | (with_reducible refine (S1.out _).mono ?_) | (with_reducible refine (S2.out _).mono ?_) | (with_reducible refine (S3.out _).mono ?_)); rintro e w' ⟨rfl, xl, rfl⟩; have hsz := xl.bel.size; (try simp only [World.size_alloc, World.size_setCell, World.size_drew] at hsz); (try have hz0 : w.heap.size < xl.w.heap.size := (by omega)); (try have hz1 : w.heap.size + 1 < xl.w.heap.size := (by omega)); (try have hz2 : w.heap.size + 1 + 1 < xl.w.heap.size := (by omega)))); refine hKP _ _ (LaterC.mk bb) ?_; clear hKP KP) | (refine plan_skip nth3 rfl rfl (LaterC.mk bb) ?_; simp only [Act.put, List.setIfInBounds_toArray, List.set_cons_zero, List.set_cons_succ])
    first | (refine plan_loud nth4 rfl ?_; intro KP hKP; go_wp2_with (first | (go_at_call 135; (first | (with_reducible refine (T0.out _).mono ?_) | (with_reducible refine (T1.out _).mono ?_) | (with_reducible refine (T2.out _).mono ?_) | (with_reducible refine (T3.out _).mono ?_)); rintro e w' ⟨rfl, xl, rfl⟩; have hsz := xl.bel.size; (try simp only [World.size_alloc, World.size_setCell, World.size_drew] at hsz); (try have hz0 : w.heap.size < xl.w.heap.size := (by omega)); (try have hz1 : w.heap.size + 1 < xl.w.heap.size := (by omega)); (try have hz2 : w.heap.size + 1 + 1 < xl.w.heap.size := (by omega))) | (go_at_call 195; (first | (with_reducible refine (S0.out _).mono ?_) | (with_reducible refine (S1.out _).mono ?_) | (with_reducible refine (S2.out _).mono ?_) | (with_reducible refine (S3.out _).mono ?_)); rintro e w' ⟨rfl, xl, rfl⟩; have hsz := xl.bel.size; (try simp only [World.size_alloc, World.size_setCell, World.size_drew] at hsz); (try have hz0 : w.heap.size < xl.w.heap.size := (by omega)); (try have hz1 : w.heap.size + 1 < xl.w.heap.size := (by omega)); (try have hz2 : w.heap.size + 1 + 1 < xl.w.heap.size := (by omega)))); refine hKP _ _ (LaterC.mk bb) ?_; clear hKP KP) | (refine plan_skip nth4 rfl rfl (LaterC.mk bb) ?_; simp only [Act.put, List.setIfInBounds_toArray, List.set_cons_zero, List.set_cons_succ])
    first | (refine plan_loud nth8 rfl ?_; intro KP hKP; go_wp2_with (first | (go_at_call 135; (first | (with_reducible refine (T0.out _).mono ?_) | (with_reducible refine (T1.out _).mono ?_) | (with_reducible refine (T2.out _).mono ?_) | (with_reducible refine (T3.out _).mono ?_)); rintro e w' ⟨rfl, xl, rfl⟩; have hsz := xl.bel.size; (try simp only [World.size_alloc, World.size_setCell, World.size_drew] at hsz); (try have hz0 : w.heap.size < xl.w.heap.size := (by omega)); (try have hz1 : w.heap.size + 1 < xl.w.heap.size := (by omega)); (try have hz2 : w.heap.size + 1 + 1 < xl.w.heap.size := (by omega))) | (go_at_call 195; (first | (with_reducible refine (S0.out _).mono ?_) | (with_reducible refine (S1.out _).mono ?_) | (with_reducible refine (S2.out _).mono ?_) | (with_reducible refine (S3.out _).mono ?_)); rintro e w' ⟨rfl, xl, rfl⟩; have hsz := xl.bel.size; (try simp only [World.size_alloc, World.size_setCell, World.size_drew] at hsz); (try have hz0 : w.heap.size < xl.w.heap.size := (by omega)); (try have hz1 : w.heap.size + 1 < xl.w.heap.size := (by omega)); (try have hz2 : w.heap.size + 1 + 1 < xl.w.heap.size := (by omega)))); refine hKP _ _ (LaterC.mk bb) ?_; clear hKP KP) | (refine plan_skip nth8 rfl rfl (LaterC.mk bb) ?_; simp only [Act.put, List.setIfInBounds_toArray, List.set_cons_zero, List.set_cons_succ])
    first | (refine plan_loud nth9 rfl ?_; intro KP hKP; go_wp2_with (first | (go_at_call 135; (first | (with_reducible refine (T0.out _).mono ?_) | (with_reducible refine (T1.out _).mono ?_) | (with_reducible refine (T2.out _).mono ?_) | (with_reducible refine (T3.out _).mono ?_)); rintro e w' ⟨rfl, xl, rfl⟩; have hsz := xl.bel.size; (try simp only [World.size_alloc, World.size_setCell, World.size_drew] at hsz); (try have hz0 : w.heap.size < xl.w.heap.size := (by omega)); (try have hz1 : w.heap.size + 1 < xl.w.heap.size := (by omega)); (try have hz2 : w.heap.size + 1 + 1 < xl.w.heap.size := (by omega))) | (go_at_call 195; (first | (with_reducible refine (S0.out _).mono ?_) | (with_reducible refine (S1.out _).mono ?_) | (with_reducible refine (S2.out _).mono ?_) | (with_reducible refine (S3.out _).mono ?_)); rintro e w' ⟨rfl, xl, rfl⟩; have hsz := xl.bel.size; (try simp only [World.size_alloc, World.size_setCell, World.size_drew] at hsz); (try have hz0 : w.heap.size < xl.w.heap.size := (by omega)); (try have hz1 : w.heap.size + 1 < xl.w.heap.size := (by omega)); (try have hz2 : w.heap.size + 1 + 1 < xl.w.heap.size := (by omega)))); refine hKP _ _ (LaterC.mk bb) ?_; clear hKP KP) | (refine plan_skip nth9 rfl rfl (LaterC.mk bb) ?_; simp only [Act.put, List.setIfInBounds_toArray, List.set_cons_zero, List.set_cons_succ])
    first | (refine plan_quiet nth10 rfl ?_; intro KP hKP; go_big_quiet_op; go_big_quiet_on) | (refine plan_skip_q nth10 rfl rfl ?_; simp only [Act.put, List.setIfInBounds_toArray, List.set_cons_zero, List.set_cons_succ])
    first | (refine plan_quiet nth11 rfl ?_; intro KP hKP; go_big_quiet_op; go_big_quiet_on) | (refine plan_skip_q nth11 rfl rfl ?_; simp only [Act.put, List.setIfInBounds_toArray, List.set_cons_zero, List.set_cons_succ])
    first | (refine plan_quiet nth12 rfl ?_; intro KP hKP; go_big_quiet_op; go_big_quiet_on) | (refine plan_skip_q nth12 rfl rfl ?_; simp only [Act.put, List.setIfInBounds_toArray, List.set_cons_zero, List.set_cons_succ])
    first | (refine plan_quiet nth13 rfl ?_; intro KP hKP; go_big_quiet_op; go_big_quiet_on) | (refine plan_skip_q nth13 rfl rfl ?_; simp only [Act.put, List.setIfInBounds_toArray, List.set_cons_zero, List.set_cons_succ])
    first | (refine plan_quiet nth14 rfl ?_; intro KP hKP; go_big_quiet_op; go_big_quiet_on) | (refine plan_skip_q nth14 rfl rfl ?_; simp only [Act.put, List.setIfInBounds_toArray, List.set_cons_zero, List.set_cons_succ])
    first | (refine plan_quiet nth15 rfl ?_; intro KP hKP; go_big_quiet_op; go_big_quiet_on) | (refine plan_skip_q nth15 rfl rfl ?_; simp only [Act.put, List.setIfInBounds_toArray, List.set_cons_zero, List.set_cons_succ])
    first | (refine plan_quiet nth18 rfl ?_; intro KP hKP; go_big_quiet_op; go_big_quiet_on) | (refine plan_skip_q nth18 rfl rfl ?_; simp only [Act.put, List.setIfInBounds_toArray, List.set_cons_zero, List.set_cons_succ])
    first | (refine plan_quiet nth19 rfl ?_; intro KP hKP; go_big_quiet_op; go_big_quiet_on) | (refine plan_skip_q nth19 rfl rfl ?_; simp only [Act.put, List.setIfInBounds_toArray, List.set_cons_zero, List.set_cons_succ])
    first | (refine plan_quiet nth20 rfl ?_; intro KP hKP; go_big_quiet_op; go_big_quiet_on) | (refine plan_skip_q nth20 rfl rfl ?_; simp only [Act.put, List.setIfInBounds_toArray, List.set_cons_zero, List.set_cons_succ])
    first | (refine plan_loud nth16 rfl ?_; intro KP hKP; go_wp2_with (first | (go_at_call 135; (first | (with_reducible refine (T0.out _).mono ?_) | (with_reducible refine (T1.out _).mono ?_) | (with_reducible refine (T2.out _).mono ?_) | (with_reducible refine (T3.out _).mono ?_)); rintro e w' ⟨rfl, xl, rfl⟩; have hsz := xl.bel.size; (try simp only [World.size_alloc, World.size_setCell, World.size_drew] at hsz); (try have hz0 : w.heap.size < xl.w.heap.size := (by omega)); (try have hz1 : w.heap.size + 1 < xl.w.heap.size := (by omega)); (try have hz2 : w.heap.size + 1 + 1 < xl.w.heap.size := (by omega))) | (go_at_call 195; (first | (with_reducible refine (S0.out _).mono ?_) | (with_reducible refine (S1.out _).mono ?_) | (with_reducible refine (S2.out _).mono ?_) | (with_reducible refine (S3.out _).mono ?_)); rintro e w' ⟨rfl, xl, rfl⟩; have hsz := xl.bel.size; (try simp only [World.size_alloc, World.size_setCell, World.size_drew] at hsz); (try have hz0 : w.heap.size < xl.w.heap.size := (by omega)); (try have hz1 : w.heap.size + 1 < xl.w.heap.size := (by omega)); (try have hz2 : w.heap.size + 1 + 1 < xl.w.heap.size := (by omega)))); refine hKP _ _ (LaterC.mk bb) ?_; clear hKP KP) | (refine plan_skip nth16 rfl rfl (LaterC.mk bb) ?_; simp only [Act.put, List.setIfInBounds_toArray, List.set_cons_zero, List.set_cons_succ])
    first | (refine plan_loud nth17 rfl ?_; intro KP hKP; go_wp2_with (first | (go_at_call 135; (first | (with_reducible refine (T0.out _).mono ?_) | (with_reducible refine (T1.out _).mono ?_) | (with_reducible refine (T2.out _).mono ?_) | (with_reducible refine (T3.out _).mono ?_)); rintro e w' ⟨rfl, xl, rfl⟩; have hsz := xl.bel.size; (try simp only [World.size_alloc, World.size_setCell, World.size_drew] at hsz); (try have hz0 : w.heap.size < xl.w.heap.size := (by omega)); (try have hz1 : w.heap.size + 1 < xl.w.heap.size := (by omega)); (try have hz2 : w.heap.size + 1 + 1 < xl.w.heap.size := (by omega))) | (go_at_call 195; (first | (with_reducible refine (S0.out _).mono ?_) | (with_reducible refine (S1.out _).mono ?_) | (with_reducible refine (S2.out _).mono ?_) | (with_reducible refine (S3.out _).mono ?_)); rintro e w' ⟨rfl, xl, rfl⟩; have hsz := xl.bel.size; (try simp only [World.size_alloc, World.size_setCell, World.size_drew] at hsz); (try have hz0 : w.heap.size < xl.w.heap.size := (by omega)); (try have hz1 : w.heap.size + 1 < xl.w.heap.size := (by omega)); (try have hz2 : w.heap.size + 1 + 1 < xl.w.heap.size := (by omega)))); refine hKP _ _ (LaterC.mk bb) ?_; clear hKP KP) | (refine plan_skip nth17 rfl rfl (LaterC.mk bb) ?_; simp only [Act.put, List.setIfInBounds_toArray, List.set_cons_zero, List.set_cons_succ])
    first | (refine plan_loud nth21 rfl ?_; intro KP hKP; go_wp2_with (first | (go_at_call 135; (first | (with_reducible refine (T0.out _).mono ?_) | (with_reducible refine (T1.out _).mono ?_) | (with_reducible refine (T2.out _).mono ?_) | (with_reducible refine (T3.out _).mono ?_)); rintro e w' ⟨rfl, xl, rfl⟩; have hsz := xl.bel.size; (try simp only [World.size_alloc, World.size_setCell, World.size_drew] at hsz); (try have hz0 : w.heap.size < xl.w.heap.size := (by omega)); (try have hz1 : w.heap.size + 1 < xl.w.heap.size := (by omega)); (try have hz2 : w.heap.size + 1 + 1 < xl.w.heap.size := (by omega))) | (go_at_call 195; (first | (with_reducible refine (S0.out _).mono ?_) | (with_reducible refine (S1.out _).mono ?_) | (with_reducible refine (S2.out _).mono ?_) | (with_reducible refine (S3.out _).mono ?_)); rintro e w' ⟨rfl, xl, rfl⟩; have hsz := xl.bel.size; (try simp only [World.size_alloc, World.size_setCell, World.size_drew] at hsz); (try have hz0 : w.heap.size < xl.w.heap.size := (by omega)); (try have hz1 : w.heap.size + 1 < xl.w.heap.size := (by omega)); (try have hz2 : w.heap.size + 1 + 1 < xl.w.heap.size := (by omega)))); refine hKP _ _ (LaterC.mk bb) ?_; clear hKP KP) | (refine plan_skip nth21 rfl rfl (LaterC.mk bb) ?_; simp only [Act.put, List.setIfInBounds_toArray, List.set_cons_zero, List.set_cons_succ])
    first | (refine plan_loud nth22 rfl ?_; intro KP hKP; go_wp2_with (first | (go_at_call 135; (first | (with_reducible refine (T0.out _).mono ?_) | (with_reducible refine (T1.out _).mono ?_) | (with_reducible refine (T2.out _).mono ?_) | (with_reducible refine (T3.out _).mono ?_)); rintro e w' ⟨rfl, xl, rfl⟩; have hsz := xl.bel.size; (try simp only [World.size_alloc, World.size_setCell, World.size_drew] at hsz); (try have hz0 : w.heap.size < xl.w.heap.size := (by omega)); (try have hz1 : w.heap.size + 1 < xl.w.heap.size := (by omega)); (try have hz2 : w.heap.size + 1 + 1 < xl.w.heap.size := (by omega))) | (go_at_call 195; (first | (with_reducible refine (S0.out _).mono ?_) | (with_reducible refine (S1.out _).mono ?_) | (with_reducible refine (S2.out _).mono ?_) | (with_reducible refine (S3.out _).mono ?_)); rintro e w' ⟨rfl, xl, rfl⟩; have hsz := xl.bel.size; (try simp only [World.size_alloc, World.size_setCell, World.size_drew] at hsz); (try have hz0 : w.heap.size < xl.w.heap.size := (by omega)); (try have hz1 : w.heap.size + 1 < xl.w.heap.size := (by omega)); (try have hz2 : w.heap.size + 1 + 1 < xl.w.heap.size := (by omega)))); refine hKP _ _ (LaterC.mk bb) ?_; clear hKP KP) | (refine plan_skip nth22 rfl rfl (LaterC.mk bb) ?_; simp only [Act.put, List.setIfInBounds_toArray, List.set_cons_zero, List.set_cons_succ])
    first | (refine plan_quiet nth23 rfl ?_; intro KP hKP; go_big_quiet_op; go_big_quiet_on) | (refine plan_skip_q nth23 rfl rfl ?_; simp only [Act.put, List.setIfInBounds_toArray, List.set_cons_zero, List.set_cons_succ])
    first | (refine plan_quiet nth24 rfl ?_; intro KP hKP; go_big_quiet_op; go_big_quiet_on) | (refine plan_skip_q nth24 rfl rfl ?_; simp only [Act.put, List.setIfInBounds_toArray, List.set_cons_zero, List.set_cons_succ])
    first | (refine plan_quiet nth25 rfl ?_; intro KP hKP; go_big_quiet_op; go_big_quiet_on) | (refine plan_skip_q nth25 rfl rfl ?_; simp only [Act.put, List.setIfInBounds_toArray, List.set_cons_zero, List.set_cons_succ])
    first | (refine plan_quiet nth26 rfl ?_; intro KP hKP; go_big_quiet_op; go_big_quiet_on) | (refine plan_skip_q nth26 rfl rfl ?_; simp only [Act.put, List.setIfInBounds_toArray, List.set_cons_zero, List.set_cons_succ])
    refine plan_nil ?_
    go_wp2_with fail
    go_ret
    exact .mk (by rw [X.out]; rfl) bb
  · have q1 : decide (s0 * s1 < 0) = false := by simpa using q
    have X := Lib.hid (show B = false by rw [E, q1, Bool.false_and])
    clear E
    go_enter Tryz.func178, Tryz.ntmps178
    go_wp2_with fail
    with_reducible refine (isOn_b ha hb hc (O.out.1)).mono ?_
    rintro e w' ⟨rfl, y0, rfl⟩
    have hsy0 := y0.bel.size
    (try simp only [World.size_alloc, World.size_setCell, World.size_drew] at hsy0)
    go_wp2_with fail
    with_reducible refine (isOn_b ha hb hd (O.out.2.1)).mono ?_
    rintro e w' ⟨rfl, y1, rfl⟩
    have hsy1 := y1.bel.size
    (try simp only [World.size_alloc, World.size_setCell, World.size_drew] at hsy1)
    go_wp2_with fail
    with_reducible refine (isOn_b hc hd ha (O.out.2.2.1)).mono ?_
    rintro e w' ⟨rfl, y2, rfl⟩
    have hsy2 := y2.bel.size
    (try simp only [World.size_alloc, World.size_setCell, World.size_drew] at hsy2)
    go_wp2_with fail
    with_reducible refine (isOn_b hc hd hb (O.out.2.2.2)).mono ?_
    rintro e w' ⟨rfl, y3, rfl⟩
    have hsy3 := y3.bel.size
    (try simp only [World.size_alloc, World.size_setCell, World.size_drew] at hsy3)
    go_wp2_with fail
    refine wp_region_plan [(0, true), (1, true), (2, true), (5, true), (6, true), (7, true), (3, false), (4, false), (8, false), (9, false), (10, true), (11, true), (12, true), (13, true), (14, true), (15, true), (18, true), (19, true), (20, true), (16, false), (17, false), (21, false), (22, false), (23, true), (24, true), (25, true), (26, true)] (C := LaterC _) (by kernel_rfl) (by kernel_rfl) (by kernel_rfl) rfl (fun _ _ d _ _ h => by cases d <;> exact h) (LaterC.mk ((Below.refl _ _).drew)) ?_
    first | (refine plan_quiet nth0 rfl ?_; intro KP hKP; go_big_quiet_op; go_big_quiet_on) | (refine plan_skip_q nth0 rfl rfl ?_; simp only [Act.put, List.setIfInBounds_toArray, List.set_cons_zero, List.set_cons_succ])
    first | (refine plan_quiet nth1 rfl ?_; intro KP hKP; go_big_quiet_op; go_big_quiet_on) | (refine plan_skip_q nth1 rfl rfl ?_; simp only [Act.put, List.setIfInBounds_toArray, List.set_cons_zero, List.set_cons_succ])
    first | (refine plan_quiet nth2 rfl ?_; intro KP hKP; go_big_quiet_op; go_big_quiet_on) | (refine plan_skip_q nth2 rfl rfl ?_; simp only [Act.put, List.setIfInBounds_toArray, List.set_cons_zero, List.set_cons_succ])
    first | (refine plan_quiet nth5 rfl ?_; intro KP hKP; go_big_quiet_op; go_big_quiet_on) | (refine plan_skip_q nth5 rfl rfl ?_; simp only [Act.put, List.setIfInBounds_toArray, List.set_cons_zero, List.set_cons_succ])
    first | (refine plan_quiet nth6 rfl ?_; intro KP hKP; go_big_quiet_op; go_big_quiet_on) | (refine plan_skip_q nth6 rfl rfl ?_; simp only [Act.put, List.setIfInBounds_toArray, List.set_cons_zero, List.set_cons_succ])
    first | (refine plan_quiet nth7 rfl ?_; intro KP hKP; go_big_quiet_op; go_big_quiet_on) | (refine plan_skip_q nth7 rfl rfl ?_; simp only [Act.put, List.setIfInBounds_toArray, List.set_cons_zero, List.set_cons_succ])
    first | (refine plan_loud nth3 rfl ?_; intro KP hKP; go_wp2_with (first | (go_at_call 135; (first | (with_reducible refine (T0.out _).mono ?_) | (with_reducible refine (T1.out _).mono ?_) | (with_reducible refine (T2.out _).mono ?_) | (with_reducible refine (T3.out _).mono ?_)); rintro e w' ⟨rfl, xl, rfl⟩; have hsz := xl.bel.size; (try simp only [World.size_alloc, World.size_setCell, World.size_drew] at hsz); (try have hz0 : w.heap.size < xl.w.heap.size := (by omega)); (try have hz1 : w.heap.size + 1 < xl.w.heap.size := (by omega)); (try have hz2 : w.heap.size + 1 + 1 < xl.w.heap.size := (by omega))) | (go_at_call 195; (first | (with_reducible refine (S0.out _).mono ?_) | (with_reducible refine (S1.out _).mono ?_) | (with_reducible refine (S2.out _).mono ?_) | (with_reducible refine (S3.out _).mono ?_)); rintro e w' ⟨rfl, xl, rfl⟩; have hsz := xl.bel.size; (try simp only [World.size_alloc, World.size_setCell, World.size_drew] at hsz); (try have hz0 : w.heap.size < xl.w.heap.size := (by omega)); (try have hz1 : w.heap.size + 1 < xl.w.heap.size := (by omega)); (try have hz2 : w.heap.size + 1 + 1 < xl.w.heap.size := (by omega)))); refine hKP _ _ (LaterC.mk bb) ?_; clear hKP KP) | (refine plan_skip nth3 rfl rfl (LaterC.mk bb) ?_; simp only [Act.put, List.setIfInBounds_toArray, List.set_cons_zero, List.set_cons_succ])
    first | (refine plan_loud nth4 rfl ?_; intro KP hKP; go_wp2_with (first | (go_at_call 135; (first | (with_reducible refine (T0.out _).mono ?_) | (with_reducible refine (T1.out _).mono ?_) | (with_reducible refine (T2.out _).mono ?_) | (with_reducible refine (T3.out _).mono ?_)); rintro e w' ⟨rfl, xl, rfl⟩; have hsz := xl.bel.size; (try simp only [World.size_alloc, World.size_setCell, World.size_drew] at hsz); (try have hz0 : w.heap.size < xl.w.heap.size := (by omega)); (try have hz1 : w.heap.size + 1 < xl.w.heap.size := (by omega)); (try have hz2 : w.heap.size + 1 + 1 < xl.w.heap.size := (by omega))) | (go_at_call 195; (first | (with_reducible refine (S0.out _).mono ?_) | (with_reducible refine (S1.out _).mono ?_) | (with_reducible refine (S2.out _).mono ?_) | (with_reducible refine (S3.out _).mono ?_)); rintro e w' ⟨rfl, xl, rfl⟩; have hsz := xl.bel.size; (try simp only [World.size_alloc, World.size_setCell, World.size_drew] at hsz); (try have hz0 : w.heap.size < xl.w.heap.size := (by omega)); (try have hz1 : w.heap.size + 1 < xl.w.heap.size := (by omega)); (try have hz2 : w.heap.size + 1 + 1 < xl.w.heap.size := (by omega)))); refine hKP _ _ (LaterC.mk bb) ?_; clear hKP KP) | (refine plan_skip nth4 rfl rfl (LaterC.mk bb) ?_; simp only [Act.put, List.setIfInBounds_toArray, List.set_cons_zero, List.set_cons_succ])
    first | (refine plan_loud nth8 rfl ?_; intro KP hKP; go_wp2_with (first | (go_at_call 135; (first | (with_reducible refine (T0.out _).mono ?_) | (with_reducible refine (T1.out _).mono ?_) | (with_reducible refine (T2.out _).mono ?_) | (with_reducible refine (T3.out _).mono ?_)); rintro e w' ⟨rfl, xl, rfl⟩; have hsz := xl.bel.size; (try simp only [World.size_alloc, World.size_setCell, World.size_drew] at hsz); (try have hz0 : w.heap.size < xl.w.heap.size := (by omega)); (try have hz1 : w.heap.size + 1 < xl.w.heap.size := (by omega)); (try have hz2 : w.heap.size + 1 + 1 < xl.w.heap.size := (by omega))) | (go_at_call 195; (first | (with_reducible refine (S0.out _).mono ?_) | (with_reducible refine (S1.out _).mono ?_) | (with_reducible refine (S2.out _).mono ?_) | (with_reducible refine (S3.out _).mono ?_)); rintro e w' ⟨rfl, xl, rfl⟩; have hsz := xl.bel.size; (try simp only [World.size_alloc, World.size_setCell, World.size_drew] at hsz); (try have hz0 : w.heap.size < xl.w.heap.size := (by omega)); (try have hz1 : w.heap.size + 1 < xl.w.heap.size := (by omega)); (try have hz2 : w.heap.size + 1 + 1 < xl.w.heap.size := (by omega)))); refine hKP _ _ (LaterC.mk bb) ?_; clear hKP KP) | (refine plan_skip nth8 rfl rfl (LaterC.mk bb) ?_; simp only [Act.put, List.setIfInBounds_toArray, List.set_cons_zero, List.set_cons_succ])
    first | (refine plan_loud nth9 rfl ?_; intro KP hKP; go_wp2_with (first | (go_at_call 135; (first | (with_reducible refine (T0.out _).mono ?_) | (with_reducible refine (T1.out _).mono ?_) | (with_reducible refine (T2.out _).mono ?_) | (with_reducible refine (T3.out _).mono ?_)); rintro e w' ⟨rfl, xl, rfl⟩; have hsz := xl.bel.size; (try simp only [World.size_alloc, World.size_setCell, World.size_drew] at hsz); (try have hz0 : w.heap.size < xl.w.heap.size := (by omega)); (try have hz1 : w.heap.size + 1 < xl.w.heap.size := (by omega)); (try have hz2 : w.heap.size + 1 + 1 < xl.w.heap.size := (by omega))) | (go_at_call 195; (first | (with_reducible refine (S0.out _).mono ?_) | (with_reducible refine (S1.out _).mono ?_) | (with_reducible refine (S2.out _).mono ?_) | (with_reducible refine (S3.out _).mono ?_)); rintro e w' ⟨rfl, xl, rfl⟩; have hsz := xl.bel.size; (try simp only [World.size_alloc, World.size_setCell, World.size_drew] at hsz); (try have hz0 : w.heap.size < xl.w.heap.size := (by omega)); (try have hz1 : w.heap.size + 1 < xl.w.heap.size := (by omega)); (try have hz2 : w.heap.size + 1 + 1 < xl.w.heap.size := (by omega)))); refine hKP _ _ (LaterC.mk bb) ?_; clear hKP KP) | (refine plan_skip nth9 rfl rfl (LaterC.mk bb) ?_; simp only [Act.put, List.setIfInBounds_toArray, List.set_cons_zero, List.set_cons_succ])
    first | (refine plan_quiet nth10 rfl ?_; intro KP hKP; go_big_quiet_op; go_big_quiet_on) | (refine plan_skip_q nth10 rfl rfl ?_; simp only [Act.put, List.setIfInBounds_toArray, List.set_cons_zero, List.set_cons_succ])
    first | (refine plan_quiet nth11 rfl ?_; intro KP hKP; go_big_quiet_op; go_big_quiet_on) | (refine plan_skip_q nth11 rfl rfl ?_; simp only [Act.put, List.setIfInBounds_toArray, List.set_cons_zero, List.set_cons_succ])
    first | (refine plan_quiet nth12 rfl ?_; intro KP hKP; go_big_quiet_op; go_big_quiet_on) | (refine plan_skip_q nth12 rfl rfl ?_; simp only [Act.put, List.setIfInBounds_toArray, List.set_cons_zero, List.set_cons_succ])
    first | (refine plan_quiet nth13 rfl ?_; intro KP hKP; go_big_quiet_op; go_big_quiet_on) | (refine plan_skip_q nth13 rfl rfl ?_; simp only [Act.put, List.setIfInBounds_toArray, List.set_cons_zero, List.set_cons_succ])
    first | (refine plan_quiet nth14 rfl ?_; intro KP hKP; go_big_quiet_op; go_big_quiet_on) | (refine plan_skip_q nth14 rfl rfl ?_; simp only [Act.put, List.setIfInBounds_toArray, List.set_cons_zero, List.set_cons_succ])
    first | (refine plan_quiet nth15 rfl ?_; intro KP hKP; go_big_quiet_op; go_big_quiet_on) | (refine plan_skip_q nth15 rfl rfl ?_; simp only [Act.put, List.setIfInBounds_toArray, List.set_cons_zero, List.set_cons_succ])
    first | (refine plan_quiet nth18 rfl ?_; intro KP hKP; go_big_quiet_op; go_big_quiet_on) | (refine plan_skip_q nth18 rfl rfl ?_; simp only [Act.put, List.setIfInBounds_toArray, List.set_cons_zero, List.set_cons_succ])
    first | (refine plan_quiet nth19 rfl ?_; intro KP hKP; go_big_quiet_op; go_big_quiet_on) | (refine plan_skip_q nth19 rfl rfl ?_; simp only [Act.put, List.setIfInBounds_toArray, List.set_cons_zero, List.set_cons_succ])
    first | (refine plan_quiet nth20 rfl ?_; intro KP hKP; go_big_quiet_op; go_big_quiet_on) | (refine plan_skip_q nth20 rfl rfl ?_; simp only [Act.put, List.setIfInBounds_toArray, List.set_cons_zero, List.set_cons_succ])
    first | (refine plan_loud nth16 rfl ?_; intro KP hKP; go_wp2_with (first | (go_at_call 135; (first | (with_reducible refine (T0.out _).mono ?_) | (with_reducible refine (T1.out _).mono ?_) | (with_reducible refine (T2.out _).mono ?_) | (with_reducible refine (T3.out _).mono ?_)); rintro e w' ⟨rfl, xl, rfl⟩; have hsz := xl.bel.size; (try simp only [World.size_alloc, World.size_setCell, World.size_drew] at hsz); (try have hz0 : w.heap.size < xl.w.heap.size := (by omega)); (try have hz1 : w.heap.size + 1 < xl.w.heap.size := (by omega)); (try have hz2 : w.heap.size + 1 + 1 < xl.w.heap.size := (by omega))) | (go_at_call 195; (first | (with_reducible refine (S0.out _).mono ?_) | (with_reducible refine (S1.out _).mono ?_) | (with_reducible refine (S2.out _).mono ?_) | (with_reducible refine (S3.out _).mono ?_)); rintro e w' ⟨rfl, xl, rfl⟩; have hsz := xl.bel.size; (try simp only [World.size_alloc, World.size_setCell, World.size_drew] at hsz); (try have hz0 : w.heap.size < xl.w.heap.size := (by omega)); (try have hz1 : w.heap.size + 1 < xl.w.heap.size := (by omega)); (try have hz2 : w.heap.size + 1 + 1 < xl.w.heap.size := (by omega)))); refine hKP _ _ (LaterC.mk bb) ?_; clear hKP KP) | (refine plan_skip nth16 rfl rfl (LaterC.mk bb) ?_; simp only [Act.put, List.setIfInBounds_toArray, List.set_cons_zero, List.set_cons_succ])
    first | (refine plan_loud nth17 rfl ?_; intro KP hKP; go_wp2_with (first | (go_at_call 135; (first | (with_reducible refine (T0.out _).mono ?_) | (with_reducible refine (T1.out _).mono ?_) | (with_reducible refine (T2.out _).mono ?_) | (with_reducible refine (T3.out _).mono ?_)); rintro e w' ⟨rfl, xl, rfl⟩; have hsz := xl.bel.size; (try simp only [World.size_alloc, World.size_setCell, World.size_drew] at hsz); (try have hz0 : w.heap.size < xl.w.heap.size := (by omega)); (try have hz1 : w.heap.size + 1 < xl.w.heap.size := (by omega)); (try have hz2 : w.heap.size + 1 + 1 < xl.w.heap.size := (by omega))) | (go_at_call 195; (first | (with_reducible refine (S0.out _).mono ?_) | (with_reducible refine (S1.out _).mono ?_) | (with_reducible refine (S2.out _).mono ?_) | (with_reducible refine (S3.out _).mono ?_)); rintro e w' ⟨rfl, xl, rfl⟩; have hsz := xl.bel.size; (try simp only [World.size_alloc, World.size_setCell, World.size_drew] at hsz); (try have hz0 : w.heap.size < xl.w.heap.size := (by omega)); (try have hz1 : w.heap.size + 1 < xl.w.heap.size := (by omega)); (try have hz2 : w.heap.size + 1 + 1 < xl.w.heap.size := (by omega)))); refine hKP _ _ (LaterC.mk bb) ?_; clear hKP KP) | (refine plan_skip nth17 rfl rfl (LaterC.mk bb) ?_; simp only [Act.put, List.setIfInBounds_toArray, List.set_cons_zero, List.set_cons_succ])
    first | (refine plan_loud nth21 rfl ?_; intro KP hKP; go_wp2_with (first | (go_at_call 135; (first | (with_reducible refine (T0.out _).mono ?_) | (with_reducible refine (T1.out _).mono ?_) | (with_reducible refine (T2.out _).mono ?_) | (with_reducible refine (T3.out _).mono ?_)); rintro e w' ⟨rfl, xl, rfl⟩; have hsz := xl.bel.size; (try simp only [World.size_alloc, World.size_setCell, World.size_drew] at hsz); (try have hz0 : w.heap.size < xl.w.heap.size := (by omega)); (try have hz1 : w.heap.size + 1 < xl.w.heap.size := (by omega)); (try have hz2 : w.heap.size + 1 + 1 < xl.w.heap.size := (by omega))) | (go_at_call 195; (first | (with_reducible refine (S0.out _).mono ?_) | (with_reducible refine (S1.out _).mono ?_) | (with_reducible refine (S2.out _).mono ?_) | (with_reducible refine (S3.out _).mono ?_)); rintro e w' ⟨rfl, xl, rfl⟩; have hsz := xl.bel.size; (try simp only [World.size_alloc, World.size_setCell, World.size_drew] at hsz); (try have hz0 : w.heap.size < xl.w.heap.size := (by omega)); (try have hz1 : w.heap.size + 1 < xl.w.heap.size := (by omega)); (try have hz2 : w.heap.size + 1 + 1 < xl.w.heap.size := (by omega)))); refine hKP _ _ (LaterC.mk bb) ?_; clear hKP KP) | (refine plan_skip nth21 rfl rfl (LaterC.mk bb) ?_; simp only [Act.put, List.setIfInBounds_toArray, List.set_cons_zero, List.set_cons_succ])
    first | (refine plan_loud nth22 rfl ?_; intro KP hKP; go_wp2_with (first | (go_at_call 135; (first | (with_reducible refine (T0.out _).mono ?_) | (with_reducible refine (T1.out _).mono ?_) | (with_reducible refine (T2.out _).mono ?_) | (with_reducible refine (T3.out _).mono ?_)); rintro e w' ⟨rfl, xl, rfl⟩; have hsz := xl.bel.size; (try simp only [World.size_alloc, World.size_setCell, World.size_drew] at hsz); (try have hz0 : w.heap.size < xl.w.heap.size := (by omega)); (try have hz1 : w.heap.size + 1 < xl.w.heap.size := (by omega)); (try have hz2 : w.heap.size + 1 + 1 < xl.w.heap.size := (by omega))) | (go_at_call 195; (first | (with_reducible refine (S0.out _).mono ?_) | (with_reducible refine (S1.out _).mono ?_) | (with_reducible refine (S2.out _).mono ?_) | (with_reducible refine (S3.out _).mono ?_)); rintro e w' ⟨rfl, xl, rfl⟩; have hsz := xl.bel.size; (try simp only [World.size_alloc, World.size_setCell, World.size_drew] at hsz); (try have hz0 : w.heap.size < xl.w.heap.size := (by omega)); (try have hz1 : w.heap.size + 1 < xl.w.heap.size := (by omega)); (try have hz2 : w.heap.size + 1 + 1 < xl.w.heap.size := (by omega)))); refine hKP _ _ (LaterC.mk bb) ?_; clear hKP KP) | (refine plan_skip nth22 rfl rfl (LaterC.mk bb) ?_; simp only [Act.put, List.setIfInBounds_toArray, List.set_cons_zero, List.set_cons_succ])
    first | (refine plan_quiet nth23 rfl ?_; intro KP hKP; go_big_quiet_op; go_big_quiet_on) | (refine plan_skip_q nth23 rfl rfl ?_; simp only [Act.put, List.setIfInBounds_toArray, List.set_cons_zero, List.set_cons_succ])
    first | (refine plan_quiet nth24 rfl ?_; intro KP hKP; go_big_quiet_op; go_big_quiet_on) | (refine plan_skip_q nth24 rfl rfl ?_; simp only [Act.put, List.setIfInBounds_toArray, List.set_cons_zero, List.set_cons_succ])
    first | (refine plan_quiet nth25 rfl ?_; intro KP hKP; go_big_quiet_op; go_big_quiet_on) | (refine plan_skip_q nth25 rfl rfl ?_; simp only [Act.put, List.setIfInBounds_toArray, List.set_cons_zero, List.set_cons_succ])
    first | (refine plan_quiet nth26 rfl ?_; intro KP hKP; go_big_quiet_op; go_big_quiet_on) | (refine plan_skip_q nth26 rfl rfl ?_; simp only [Act.put, List.setIfInBounds_toArray, List.set_cons_zero, List.set_cons_succ])
    refine plan_nil ?_
    go_wp2_with fail
    go_ret
    exact .mk (by rw [X.out]; rfl) bb
set_option maxRecDepth 4000 in
set_option maxHeartbeats 4000000 in
theorem sCross_any (ha : PtB a) (hb : PtB b) (hc : PtB c) (hd : PtB d) : Calls Tryz.prog 160 #[ptV a, ptV b, ptV c, ptV d] w (Ret w (.bool (crossB a b c d))) := by
  cases o0 : isOnB a b c
  rotate_left
  · have X := Lib.hid (show crossB a b c d = true by simp [crossB, o0])
    go_enter Tryz.func160, Tryz.ntmps160
    go_wp2_with fail
    with_reducible refine (sOn_b ha hb hc o0).mono ?_
    rintro e w' ⟨rfl, y0, rfl⟩
    have hsy0 := y0.bel.size
    (try simp only [World.size_alloc, World.size_setCell, World.size_drew] at hsy0)
    go_wp2_with fail
    go_ret
    exact .mk (by rw [X.out]; rfl) bb
  cases o1 : isOnB a b d
  rotate_left
  · have X := Lib.hid (show crossB a b c d = true by simp [crossB, o0, o1])
    go_enter Tryz.func160, Tryz.ntmps160
    go_wp2_with fail
    with_reducible refine (sOn_b ha hb hc o0).mono ?_
    rintro e w' ⟨rfl, y0, rfl⟩
    have hsy0 := y0.bel.size
    (try simp only [World.size_alloc, World.size_setCell, World.size_drew] at hsy0)
    go_wp2_with fail
    with_reducible refine (sOn_b ha hb hd o1).mono ?_
    rintro e w' ⟨rfl, y1, rfl⟩
    have hsy1 := y1.bel.size
    (try simp only [World.size_alloc, World.size_setCell, World.size_drew] at hsy1)
    go_wp2_with fail
    go_ret
    exact .mk (by rw [X.out]; rfl) bb
  cases o2 : isOnB c d a
  rotate_left
  · have X := Lib.hid (show crossB a b c d = true by simp [crossB, o0, o1, o2])
    go_enter Tryz.func160, Tryz.ntmps160
    go_wp2_with fail
    with_reducible refine (sOn_b ha hb hc o0).mono ?_
    rintro e w' ⟨rfl, y0, rfl⟩
    have hsy0 := y0.bel.size
    (try simp only [World.size_alloc, World.size_setCell, World.size_drew] at hsy0)
    go_wp2_with fail
    with_reducible refine (sOn_b ha hb hd o1).mono ?_
    rintro e w' ⟨rfl, y1, rfl⟩
    have hsy1 := y1.bel.size
    (try simp only [World.size_alloc, World.size_setCell, World.size_drew] at hsy1)
    go_wp2_with fail
    with_reducible refine (sOn_b hc hd ha o2).mono ?_
    rintro e w' ⟨rfl, y2, rfl⟩
    have hsy2 := y2.bel.size
    (try simp only [World.size_alloc, World.size_setCell, World.size_drew] at hsy2)
    go_wp2_with fail
    go_ret
    exact .mk (by rw [X.out]; rfl) bb
  cases o3 : isOnB c d b
  rotate_left
  · have X := Lib.hid (show crossB a b c d = true by simp [crossB, o0, o1, o2, o3])
    go_enter Tryz.func160, Tryz.ntmps160
    go_wp2_with fail
    with_reducible refine (sOn_b ha hb hc o0).mono ?_
    rintro e w' ⟨rfl, y0, rfl⟩
    have hsy0 := y0.bel.size
    (try simp only [World.size_alloc, World.size_setCell, World.size_drew] at hsy0)
    go_wp2_with fail
    with_reducible refine (sOn_b ha hb hd o1).mono ?_
    rintro e w' ⟨rfl, y1, rfl⟩
    have hsy1 := y1.bel.size
    (try simp only [World.size_alloc, World.size_setCell, World.size_drew] at hsy1)
    go_wp2_with fail
    with_reducible refine (sOn_b hc hd ha o2).mono ?_
    rintro e w' ⟨rfl, y2, rfl⟩
    have hsy2 := y2.bel.size
    (try simp only [World.size_alloc, World.size_setCell, World.size_drew] at hsy2)
    go_wp2_with fail
    with_reducible refine (sOn_b hc hd hb o3).mono ?_
    rintro e w' ⟨rfl, y3, rfl⟩
    have hsy3 := y3.bel.size
    (try simp only [World.size_alloc, World.size_setCell, World.size_drew] at hsy3)
    go_wp2_with fail
    go_ret
    exact .mk (by rw [X.out]; rfl) bb
  have E : crossB a b c d = (crossS a b c d && crossS c d a b) := by simp [crossB, o0, o1, o2, o3]
  have b1 := sign_mul_bd (turnZ a b c) (turnZ a b d)
  have b2 := sign_mul_bd (turnZ c d a) (turnZ c d b)
  unfold crossS at E
  have T0 := fun w => sTurn_any a b c w ha hb hc
  have T1 := fun w => sTurn_any a b d w ha hb hd
  have T2 := fun w => sTurn_any c d a w hc hd ha
  have T3 := fun w => sTurn_any c d b w hc hd hb
  generalize crossB a b c d = B at E ⊢
  generalize turnZ a b c = t0 at E b1 T0
  generalize turnZ a b d = t1 at E b1 T1
  generalize turnZ c d a = t2 at E b2 T2
  generalize turnZ c d b = t3 at E b2 T3
  have S0 := fun w => sSign_any w t0
  have S1 := fun w => sSign_any w t1
  have S2 := fun w => sSign_any w t2
  have S3 := fun w => sSign_any w t3
  generalize signZ t0 = s0 at E b1 S0
  generalize signZ t1 = s1 at E b1 S1
  generalize signZ t2 = s2 at E b2 S2
  generalize signZ t3 = s3 at E b2 S3
  obtain ⟨b1, b3⟩ := b1
  obtain ⟨b2, b4⟩ := b2
  replace T0 := Lib.hid T0
  replace S0 := Lib.hid S0
  replace T1 := Lib.hid T1
  replace S1 := Lib.hid S1
  replace T2 := Lib.hid T2
  replace S2 := Lib.hid S2
  replace T3 := Lib.hid T3
  replace S3 := Lib.hid S3
  have O := Lib.hid (And.intro o0 (And.intro o1 (And.intro o2 o3)))
  clear o0 o1 o2 o3
  by_cases q : s0 * s1 < 0
  · have q1 : decide (s0 * s1 < 0) = true := by simpa using q
    have X := Lib.hid (show B = decide (s2 * s3 < 0) by rw [E, q1, Bool.true_and])
    clear E
    go_enter Tryz.func160, Tryz.ntmps160
    go_wp2_with fail
    with_reducible refine (sOn_b ha hb hc (O.out.1)).mono ?_
    rintro e w' ⟨rfl, y0, rfl⟩
    have hsy0 := y0.bel.size
    (try simp only [World.size_alloc, World.size_setCell, World.size_drew] at hsy0)
    go_wp2_with fail
    with_reducible refine (sOn_b ha hb hd (O.out.2.1)).mono ?_
    rintro e w' ⟨rfl, y1, rfl⟩
    have hsy1 := y1.bel.size
    (try simp only [World.size_alloc, World.size_setCell, World.size_drew] at hsy1)
    go_wp2_with fail
    with_reducible refine (sOn_b hc hd ha (O.out.2.2.1)).mono ?_
    rintro e w' ⟨rfl, y2, rfl⟩
    have hsy2 := y2.bel.size
    (try simp only [World.size_alloc, World.size_setCell, World.size_drew] at hsy2)
    go_wp2_with fail
    with_reducible refine (sOn_b hc hd hb (O.out.2.2.2)).mono ?_
    rintro e w' ⟨rfl, y3, rfl⟩
    have hsy3 := y3.bel.size
    (try simp only [World.size_alloc, World.size_setCell, World.size_drew] at hsy3)
    go_wp2_with fail
    refine wp_region_plan [(0, true), (1, true), (2, true), (5, true), (6, true), (7, true), (3, false), (4, false), (8, false), (9, false), (10, true), (11, true), (12, true), (13, true), (14, true), (15, true), (18, true), (19, true), (20, true), (16, false), (17, false), (21, false), (22, false), (23, true), (24, true), (25, true), (26, true)] (C := LaterC _) (by kernel_rfl) (by kernel_rfl) (by kernel_rfl) rfl (fun _ _ d _ _ h => by cases d <;> exact h) (LaterC.mk ((Below.refl _ _).drew)) ?_
    first | (refine plan_quiet nth0 rfl ?_; intro KP hKP; go_big_quiet_op; go_big_quiet_on) | (refine plan_skip_q nth0 rfl rfl ?_; simp only [Act.put, List.setIfInBounds_toArray, List.set_cons_zero, List.set_cons_succ])
    first | (refine plan_quiet nth1 rfl ?_; intro KP hKP; go_big_quiet_op; go_big_quiet_on) | (refine plan_skip_q nth1 rfl rfl ?_; simp only [Act.put, List.setIfInBounds_toArray, List.set_cons_zero, List.set_cons_succ])
    first | (refine plan_quiet nth2 rfl ?_; intro KP hKP; go_big_quiet_op; go_big_quiet_on) | (refine plan_skip_q nth2 rfl rfl ?_; simp only [Act.put, List.setIfInBounds_toArray, List.set_cons_zero, List.set_cons_succ])
    first | (refine plan_quiet nth5 rfl ?_; intro KP hKP; go_big_quiet_op; go_big_quiet_on) | (refine plan_skip_q nth5 rfl rfl ?_; simp only [Act.put, List.setIfInBounds_toArray, List.set_cons_zero, List.set_cons_succ])
    first | (refine plan_quiet nth6 rfl ?_; intro KP hKP; go_big_quiet_op; go_big_quiet_on) | (refine plan_skip_q nth6 rfl rfl ?_; simp only [Act.put, List.setIfInBounds_toArray, List.set_cons_zero, List.set_cons_succ])
    first | (refine plan_quiet nth7 rfl ?_; intro KP hKP; go_big_quiet_op; go_big_quiet_on) | (refine plan_skip_q nth7 rfl rfl ?_; simp only [Act.put, List.setIfInBounds_toArray, List.set_cons_zero, List.set_cons_succ])
    first | (refine plan_loud nth3 rfl ?_; intro KP hKP; go_wp2_with (first | (go_at_call 137; (first | (with_reducible refine (T0.out _).mono ?_) | (with_reducible refine (T1.out _).mono ?_) | (with_reducible refine (T2.out _).mono ?_) | (with_reducible refine (T3.out _).mono ?_)); rintro e w' ⟨rfl, xl, rfl⟩; have hsz := xl.bel.size; (try simp only [World.size_alloc, World.size_setCell, World.size_drew] at hsz); (try have hz0 : w.heap.size < xl.w.heap.size := (by omega)); (try have hz1 : w.heap.size + 1 < xl.w.heap.size := (by omega)); (try have hz2 : w.heap.size + 1 + 1 < xl.w.heap.size := (by omega))) | (go_at_call 181; (first | (with_reducible refine (S0.out _).mono ?_) | (with_reducible refine (S1.out _).mono ?_) | (with_reducible refine (S2.out _).mono ?_) | (with_reducible refine (S3.out _).mono ?_)); rintro e w' ⟨rfl, xl, rfl⟩; have hsz := xl.bel.size; (try simp only [World.size_alloc, World.size_setCell, World.size_drew] at hsz); (try have hz0 : w.heap.size < xl.w.heap.size := (by omega)); (try have hz1 : w.heap.size + 1 < xl.w.heap.size := (by omega)); (try have hz2 : w.heap.size + 1 + 1 < xl.w.heap.size := (by omega)))); refine hKP _ _ (LaterC.mk bb) ?_; clear hKP KP) | (refine plan_skip nth3 rfl rfl (LaterC.mk bb) ?_; simp only [Act.put, List.setIfInBounds_toArray, List.set_cons_zero, List.set_cons_succ])
    first | (refine plan_loud nth4 rfl ?_; intro KP hKP; go_wp2_with (first | (go_at_call 137; (first | (with_reducible refine (T0.out _).mono ?_) | (with_reducible refine (T1.out _).mono ?_) | (with_reducible refine (T2.out _).mono ?_) | (with_reducible refine (T3.out _).mono ?_)); rintro e w' ⟨rfl, xl, rfl⟩; have hsz := xl.bel.size; (try simp only [World.size_alloc, World.size_setCell, World.size_drew] at hsz); (try have hz0 : w.heap.size < xl.w.heap.size := (by omega)); (try have hz1 : w.heap.size + 1 < xl.w.heap.size := (by omega)); (try have hz2 : w.heap.size + 1 + 1 < xl.w.heap.size := (by omega))) | (go_at_call 181; (first | (with_reducible refine (S0.out _).mono ?_) | (with_reducible refine (S1.out _).mono ?_) | (with_reducible refine (S2.out _).mono ?_) | (with_reducible refine (S3.out _).mono ?_)); rintro e w' ⟨rfl, xl, rfl⟩; have hsz := xl.bel.size; (try simp only [World.size_alloc, World.size_setCell, World.size_drew] at hsz); (try have hz0 : w.heap.size < xl.w.heap.size := (by omega)); (try have hz1 : w.heap.size + 1 < xl.w.heap.size := (by omega)); (try have hz2 : w.heap.size + 1 + 1 < xl.w.heap.size := (by omega)))); refine hKP _ _ (LaterC.mk bb) ?_; clear hKP KP) | (refine plan_skip nth4 rfl rfl (LaterC.mk bb) ?_; simp only [Act.put, List.setIfInBounds_toArray, List.set_cons_zero, List.set_cons_succ])
    first | (refine plan_loud nth8 rfl ?_; intro KP hKP; go_wp2_with (first | (go_at_call 137; (first | (with_reducible refine (T0.out _).mono ?_) | (with_reducible refine (T1.out _).mono ?_) | (with_reducible refine (T2.out _).mono ?_) | (with_reducible refine (T3.out _).mono ?_)); rintro e w' ⟨rfl, xl, rfl⟩; have hsz := xl.bel.size; (try simp only [World.size_alloc, World.size_setCell, World.size_drew] at hsz); (try have hz0 : w.heap.size < xl.w.heap.size := (by omega)); (try have hz1 : w.heap.size + 1 < xl.w.heap.size := (by omega)); (try have hz2 : w.heap.size + 1 + 1 < xl.w.heap.size := (by omega))) | (go_at_call 181; (first | (with_reducible refine (S0.out _).mono ?_) | (with_reducible refine (S1.out _).mono ?_) | (with_reducible refine (S2.out _).mono ?_) | (with_reducible refine (S3.out _).mono ?_)); rintro e w' ⟨rfl, xl, rfl⟩; have hsz := xl.bel.size; (try simp only [World.size_alloc, World.size_setCell, World.size_drew] at hsz); (try have hz0 : w.heap.size < xl.w.heap.size := (by omega)); (try have hz1 : w.heap.size + 1 < xl.w.heap.size := (by omega)); (try have hz2 : w.heap.size + 1 + 1 < xl.w.heap.size := (by omega)))); refine hKP _ _ (LaterC.mk bb) ?_; clear hKP KP) | (refine plan_skip nth8 rfl rfl (LaterC.mk bb) ?_; simp only [Act.put, List.setIfInBounds_toArray, List.set_cons_zero, List.set_cons_succ])
    first | (refine plan_loud nth9 rfl ?_; intro KP hKP; go_wp2_with (first | (go_at_call 137; (first | (with_reducible refine (T0.out _).mono ?_) | (with_reducible refine (T1.out _).mono ?_) | (with_reducible refine (T2.out _).mono ?_) | (with_reducible refine (T3.out _).mono ?_)); rintro e w' ⟨rfl, xl, rfl⟩; have hsz := xl.bel.size; (try simp only [World.size_alloc, World.size_setCell, World.size_drew] at hsz); (try have hz0 : w.heap.size < xl.w.heap.size := (by omega)); (try have hz1 : w.heap.size + 1 < xl.w.heap.size := (by omega)); (try have hz2 : w.heap.size + 1 + 1 < xl.w.heap.size := (by omega))) | (go_at_call 181; (first | (with_reducible refine (S0.out _).mono ?_) | (with_reducible refine (S1.out _).mono ?_) | (with_reducible refine (S2.out _).mono ?_) | (with_reducible refine (S3.out _).mono ?_)); rintro e w' ⟨rfl, xl, rfl⟩; have hsz := xl.bel.size; (try simp only [World.size_alloc, World.size_setCell, World.size_drew] at hsz); (try have hz0 : w.heap.size < xl.w.heap.size := (by omega)); (try have hz1 : w.heap.size + 1 < xl.w.heap.size := (by omega)); (try have hz2 : w.heap.size + 1 + 1 < xl.w.heap.size := (by omega)))); refine hKP _ _ (LaterC.mk bb) ?_; clear hKP KP) | (refine plan_skip nth9 rfl rfl (LaterC.mk bb) ?_; simp only [Act.put, List.setIfInBounds_toArray, List.set_cons_zero, List.set_cons_succ])
    first | (refine plan_quiet nth10 rfl ?_; intro KP hKP; go_big_quiet_op; go_big_quiet_on) | (refine plan_skip_q nth10 rfl rfl ?_; simp only [Act.put, List.setIfInBounds_toArray, List.set_cons_zero, List.set_cons_succ])
    first | (refine plan_quiet nth11 rfl ?_; intro KP hKP; go_big_quiet_op; go_big_quiet_on) | (refine plan_skip_q nth11 rfl rfl ?_; simp only [Act.put, List.setIfInBounds_toArray, List.set_cons_zero, List.set_cons_succ])
    first | (refine plan_quiet nth12 rfl ?_; intro KP hKP; go_big_quiet_op; go_big_quiet_on) | (refine plan_skip_q nth12 rfl rfl ?_; simp only [Act.put, List.setIfInBounds_toArray, List.set_cons_zero, List.set_cons_succ])
    first | (refine plan_quiet nth13 rfl ?_; intro KP hKP; go_big_quiet_op; go_big_quiet_on) | (refine plan_skip_q nth13 rfl rfl ?_; simp only [Act.put, List.setIfInBounds_toArray, List.set_cons_zero, List.set_cons_succ])
    first | (refine plan_quiet nth14 rfl ?_; intro KP hKP; go_big_quiet_op; go_big_quiet_on) | (refine plan_skip_q nth14 rfl rfl ?_; simp only [Act.put, List.setIfInBounds_toArray, List.set_cons_zero, List.set_cons_succ])
    first | (refine plan_quiet nth15 rfl ?_; intro KP hKP; go_big_quiet_op; go_big_quiet_on) | (refine plan_skip_q nth15 rfl rfl ?_; simp only [Act.put, List.setIfInBounds_toArray, List.set_cons_zero, List.set_cons_succ])
    first | (refine plan_quiet nth18 rfl ?_; intro KP hKP; go_big_quiet_op; go_big_quiet_on) | (refine plan_skip_q nth18 rfl rfl ?_; simp only [Act.put, List.setIfInBounds_toArray, List.set_cons_zero, List.set_cons_succ])
    first | (refine plan_quiet nth19 rfl ?_; intro KP hKP; go_big_quiet_op; go_big_quiet_on) | (refine plan_skip_q nth19 rfl rfl ?_; simp only [Act.put, List.setIfInBounds_toArray, List.set_cons_zero, List.set_cons_succ])
    first | (refine plan_quiet nth20 rfl ?_; intro KP hKP; go_big_quiet_op; go_big_quiet_on) | (refine plan_skip_q nth20 rfl rfl ?_; simp only [Act.put, List.setIfInBounds_toArray, List.set_cons_zero, List.set_cons_succ])
    first | (refine plan_loud nth16 rfl ?_; intro KP hKP; go_wp2_with (first | (go_at_call 137; (first | (with_reducible refine (T0.out _).mono ?_) | (with_reducible refine (T1.out _).mono ?_) | (with_reducible refine (T2.out _).mono ?_) | (with_reducible refine (T3.out _).mono ?_)); rintro e w' ⟨rfl, xl, rfl⟩; have hsz := xl.bel.size; (try simp only [World.size_alloc, World.size_setCell, World.size_drew] at hsz); (try have hz0 : w.heap.size < xl.w.heap.size := (by omega)); (try have hz1 : w.heap.size + 1 < xl.w.heap.size := (by omega)); (try have hz2 : w.heap.size + 1 + 1 < xl.w.heap.size := (by omega))) | (go_at_call 181; (first | (with_reducible refine (S0.out _).mono ?_) | (with_reducible refine (S1.out _).mono ?_) | (with_reducible refine (S2.out _).mono ?_) | (with_reducible refine (S3.out _).mono ?_)); rintro e w' ⟨rfl, xl, rfl⟩; have hsz := xl.bel.size; (try simp only [World.size_alloc, World.size_setCell, World.size_drew] at hsz); (try have hz0 : w.heap.size < xl.w.heap.size := (by omega)); (try have hz1 : w.heap.size + 1 < xl.w.heap.size := (by omega)); (try have hz2 : w.heap.size + 1 + 1 < xl.w.heap.size := (by omega)))); refine hKP _ _ (LaterC.mk bb) ?_; clear hKP KP) | (refine plan_skip nth16 rfl rfl (LaterC.mk bb) ?_; simp only [Act.put, List.setIfInBounds_toArray, List.set_cons_zero, List.set_cons_succ])
    first | (refine plan_loud nth17 rfl ?_; intro KP hKP; go_wp2_with (first | (go_at_call 137; (first | (with_reducible refine (T0.out _).mono ?_) | (with_reducible refine (T1.out _).mono ?_) | (with_reducible refine (T2.out _).mono ?_) | (with_reducible refine (T3.out _).mono ?_)); rintro e w' ⟨rfl, xl, rfl⟩; have hsz := xl.bel.size; (try simp only [World.size_alloc, World.size_setCell, World.size_drew] at hsz); (try have hz0 : w.heap.size < xl.w.heap.size := (by omega)); (try have hz1 : w.heap.size + 1 < xl.w.heap.size := (by omega)); (try have hz2 : w.heap.size + 1 + 1 < xl.w.heap.size := (by omega))) | (go_at_call 181; (first | (with_reducible refine (S0.out _).mono ?_) | (with_reducible refine (S1.out _).mono ?_) | (with_reducible refine (S2.out _).mono ?_) | (with_reducible refine (S3.out _).mono ?_)); rintro e w' ⟨rfl, xl, rfl⟩; have hsz := xl.bel.size; (try simp only [World.size_alloc, World.size_setCell, World.size_drew] at hsz); (try have hz0 : w.heap.size < xl.w.heap.size := (by omega)); (try have hz1 : w.heap.size + 1 < xl.w.heap.size := (by omega)); (try have hz2 : w.heap.size + 1 + 1 < xl.w.heap.size := (by omega)))); refine hKP _ _ (LaterC.mk bb) ?_; clear hKP KP) | (refine plan_skip nth17 rfl rfl (LaterC.mk bb) ?_; simp only [Act.put, List.setIfInBounds_toArray, List.set_cons_zero, List.set_cons_succ])
    first | (refine plan_loud nth21 rfl ?_; intro KP hKP; go_wp2_with (first | (go_at_call 137; (first | (with_reducible refine (T0.out _).mono ?_) | (with_reducible refine (T1.out _).mono ?_) | (with_reducible refine (T2.out _).mono ?_) | (with_reducible refine (T3.out _).mono ?_)); rintro e w' ⟨rfl, xl, rfl⟩; have hsz := xl.bel.size; (try simp only [World.size_alloc, World.size_setCell, World.size_drew] at hsz); (try have hz0 : w.heap.size < xl.w.heap.size := (by omega)); (try have hz1 : w.heap.size + 1 < xl.w.heap.size := (by omega)); (try have hz2 : w.heap.size + 1 + 1 < xl.w.heap.size := (by omega))) | (go_at_call 181; (first | (with_reducible refine (S0.out _).mono ?_) | (with_reducible refine (S1.out _).mono ?_) | (with_reducible refine (S2.out _).mono ?_) | (with_reducible refine (S3.out _).mono ?_)); rintro e w' ⟨rfl, xl, rfl⟩; have hsz := xl.bel.size; (try simp only [World.size_alloc, World.size_setCell, World.size_drew] at hsz); (try have hz0 : w.heap.size < xl.w.heap.size := (by omega)); (try have hz1 : w.heap.size + 1 < xl.w.heap.size := (by omega)); (try have hz2 : w.heap.size + 1 + 1 < xl.w.heap.size := (by omega)))); refine hKP _ _ (LaterC.mk bb) ?_; clear hKP KP) | (refine plan_skip nth21 rfl rfl (LaterC.mk bb) ?_; simp only [Act.put, List.setIfInBounds_toArray, List.set_cons_zero, List.set_cons_succ])
    first | (refine plan_loud nth22 rfl ?_; intro KP hKP; go_wp2_with (first | (go_at_call 137; (first | (with_reducible refine (T0.out _).mono ?_) | (with_reducible refine (T1.out _).mono ?_) | (with_reducible refine (T2.out _).mono ?_) | (with_reducible refine (T3.out _).mono ?_)); rintro e w' ⟨rfl, xl, rfl⟩; have hsz := xl.bel.size; (try simp only [World.size_alloc, World.size_setCell, World.size_drew] at hsz); (try have hz0 : w.heap.size < xl.w.heap.size := (by omega)); (try have hz1 : w.heap.size + 1 < xl.w.heap.size := (by omega)); (try have hz2 : w.heap.size + 1 + 1 < xl.w.heap.size := (by omega))) | (go_at_call 181; (first | (with_reducible refine (S0.out _).mono ?_) | (with_reducible refine (S1.out _).mono ?_) | (with_reducible refine (S2.out _).mono ?_) | (with_reducible refine (S3.out _).mono ?_)); rintro e w' ⟨rfl, xl, rfl⟩; have hsz := xl.bel.size; (try simp only [World.size_alloc, World.size_setCell, World.size_drew] at hsz); (try have hz0 : w.heap.size < xl.w.heap.size := (by omega)); (try have hz1 : w.heap.size + 1 < xl.w.heap.size := (by omega)); (try have hz2 : w.heap.size + 1 + 1 < xl.w.heap.size := (by omega)))); refine hKP _ _ (LaterC.mk bb) ?_; clear hKP KP) | (refine plan_skip nth22 rfl rfl (LaterC.mk bb) ?_; simp only [Act.put, List.setIfInBounds_toArray, List.set_cons_zero, List.set_cons_succ])
    first | (refine plan_quiet nth23 rfl ?_; intro KP hKP; go_big_quiet_op; go_big_quiet_on) | (refine plan_skip_q nth23 rfl rfl ?_; simp only [Act.put, List.setIfInBounds_toArray, List.set_cons_zero, List.set_cons_succ])
    first | (refine plan_quiet nth24 rfl ?_; intro KP hKP; go_big_quiet_op; go_big_quiet_on) | (refine plan_skip_q nth24 rfl rfl ?_; simp only [Act.put, List.setIfInBounds_toArray, List.set_cons_zero, List.set_cons_succ])
    first | (refine plan_quiet nth25 rfl ?_; intro KP hKP; go_big_quiet_op; go_big_quiet_on) | (refine plan_skip_q nth25 rfl rfl ?_; simp only [Act.put, List.setIfInBounds_toArray, List.set_cons_zero, List.set_cons_succ])
    first | (refine plan_quiet nth26 rfl ?_; intro KP hKP; go_big_quiet_op; go_big_quiet_on) | (refine plan_skip_q nth26 rfl rfl ?_; simp only [Act.put, List.setIfInBounds_toArray, List.set_cons_zero, List.set_cons_succ])
    refine plan_nil ?_
    go_wp2_with fail
    go_ret
    exact .mk (by rw [X.out]; rfl) bb
  · have q1 : decide (s0 * s1 < 0) = false := by simpa using q
    have X := Lib.hid (show B = false by rw [E, q1, Bool.false_and])
    clear E
    go_enter Tryz.func160, Tryz.ntmps160
    go_wp2_with fail
    with_reducible refine (sOn_b ha hb hc (O.out.1)).mono ?_
    rintro e w' ⟨rfl, y0, rfl⟩
    have hsy0 := y0.bel.size
    (try simp only [World.size_alloc, World.size_setCell, World.size_drew] at hsy0)
    go_wp2_with fail
    with_reducible refine (sOn_b ha hb hd (O.out.2.1)).mono ?_
    rintro e w' ⟨rfl, y1, rfl⟩
    have hsy1 := y1.bel.size
    (try simp only [World.size_alloc, World.size_setCell, World.size_drew] at hsy1)
    go_wp2_with fail
    with_reducible refine (sOn_b hc hd ha (O.out.2.2.1)).mono ?_
    rintro e w' ⟨rfl, y2, rfl⟩
    have hsy2 := y2.bel.size
    (try simp only [World.size_alloc, World.size_setCell, World.size_drew] at hsy2)
    go_wp2_with fail
    with_reducible refine (sOn_b hc hd hb (O.out.2.2.2)).mono ?_
    rintro e w' ⟨rfl, y3, rfl⟩
    have hsy3 := y3.bel.size
    (try simp only [World.size_alloc, World.size_setCell, World.size_drew] at hsy3)
    go_wp2_with fail
    refine wp_region_plan [(0, true), (1, true), (2, true), (5, true), (6, true), (7, true), (3, false), (4, false), (8, false), (9, false), (10, true), (11, true), (12, true), (13, true), (14, true), (15, true), (18, true), (19, true), (20, true), (16, false), (17, false), (21, false), (22, false), (23, true), (24, true), (25, true), (26, true)] (C := LaterC _) (by kernel_rfl) (by kernel_rfl) (by kernel_rfl) rfl (fun _ _ d _ _ h => by cases d <;> exact h) (LaterC.mk ((Below.refl _ _).drew)) ?_
    first | (refine plan_quiet nth0 rfl ?_; intro KP hKP; go_big_quiet_op; go_big_quiet_on) | (refine plan_skip_q nth0 rfl rfl ?_; simp only [Act.put, List.setIfInBounds_toArray, List.set_cons_zero, List.set_cons_succ])
    first | (refine plan_quiet nth1 rfl ?_; intro KP hKP; go_big_quiet_op; go_big_quiet_on) | (refine plan_skip_q nth1 rfl rfl ?_; simp only [Act.put, List.setIfInBounds_toArray, List.set_cons_zero, List.set_cons_succ])
    first | (refine plan_quiet nth2 rfl ?_; intro KP hKP; go_big_quiet_op; go_big_quiet_on) | (refine plan_skip_q nth2 rfl rfl ?_; simp only [Act.put, List.setIfInBounds_toArray, List.set_cons_zero, List.set_cons_succ])
    first | (refine plan_quiet nth5 rfl ?_; intro KP hKP; go_big_quiet_op; go_big_quiet_on) | (refine plan_skip_q nth5 rfl rfl ?_; simp only [Act.put, List.setIfInBounds_toArray, List.set_cons_zero, List.set_cons_succ])
    first | (refine plan_quiet nth6 rfl ?_; intro KP hKP; go_big_quiet_op; go_big_quiet_on) | (refine plan_skip_q nth6 rfl rfl ?_; simp only [Act.put, List.setIfInBounds_toArray, List.set_cons_zero, List.set_cons_succ])
    first | (refine plan_quiet nth7 rfl ?_; intro KP hKP; go_big_quiet_op; go_big_quiet_on) | (refine plan_skip_q nth7 rfl rfl ?_; simp only [Act.put, List.setIfInBounds_toArray, List.set_cons_zero, List.set_cons_succ])
    first | (refine plan_loud nth3 rfl ?_; intro KP hKP; go_wp2_with (first | (go_at_call 137; (first | (with_reducible refine (T0.out _).mono ?_) | (with_reducible refine (T1.out _).mono ?_) | (with_reducible refine (T2.out _).mono ?_) | (with_reducible refine (T3.out _).mono ?_)); rintro e w' ⟨rfl, xl, rfl⟩; have hsz := xl.bel.size; (try simp only [World.size_alloc, World.size_setCell, World.size_drew] at hsz); (try have hz0 : w.heap.size < xl.w.heap.size := (by omega)); (try have hz1 : w.heap.size + 1 < xl.w.heap.size := (by omega)); (try have hz2 : w.heap.size + 1 + 1 < xl.w.heap.size := (by omega))) | (go_at_call 181; (first | (with_reducible refine (S0.out _).mono ?_) | (with_reducible refine (S1.out _).mono ?_) | (with_reducible refine (S2.out _).mono ?_) | (with_reducible refine (S3.out _).mono ?_)); rintro e w' ⟨rfl, xl, rfl⟩; have hsz := xl.bel.size; (try simp only [World.size_alloc, World.size_setCell, World.size_drew] at hsz); (try have hz0 : w.heap.size < xl.w.heap.size := (by omega)); (try have hz1 : w.heap.size + 1 < xl.w.heap.size := (by omega)); (try have hz2 : w.heap.size + 1 + 1 < xl.w.heap.size := (by omega)))); refine hKP _ _ (LaterC.mk bb) ?_; clear hKP KP) | (refine plan_skip nth3 rfl rfl (LaterC.mk bb) ?_; simp only [Act.put, List.setIfInBounds_toArray, List.set_cons_zero, List.set_cons_succ])
    first | (refine plan_loud nth4 rfl ?_; intro KP hKP; go_wp2_with (first | (go_at_call 137; (first | (with_reducible refine (T0.out _).mono ?_) | (with_reducible refine (T1.out _).mono ?_) | (with_reducible refine (T2.out _).mono ?_) | (with_reducible refine (T3.out _).mono ?_)); rintro e w' ⟨rfl, xl, rfl⟩; have hsz := xl.bel.size; (try simp only [World.size_alloc, World.size_setCell, World.size_drew] at hsz); (try have hz0 : w.heap.size < xl.w.heap.size := (by omega)); (try have hz1 : w.heap.size + 1 < xl.w.heap.size := (by omega)); (try have hz2 : w.heap.size + 1 + 1 < xl.w.heap.size := (by omega))) | (go_at_call 181; (first | (with_reducible refine (S0.out _).mono ?_) | (with_reducible refine (S1.out _).mono ?_) | (with_reducible refine (S2.out _).mono ?_) | (with_reducible refine (S3.out _).mono ?_)); rintro e w' ⟨rfl, xl, rfl⟩; have hsz := xl.bel.size; (try simp only [World.size_alloc, World.size_setCell, World.size_drew] at hsz); (try have hz0 : w.heap.size < xl.w.heap.size := (by omega)); (try have hz1 : w.heap.size + 1 < xl.w.heap.size := (by omega)); (try have hz2 : w.heap.size + 1 + 1 < xl.w.heap.size := (by omega)))); refine hKP _ _ (LaterC.mk bb) ?_; clear hKP KP) | (refine plan_skip nth4 rfl rfl (LaterC.mk bb) ?_; simp only [Act.put, List.setIfInBounds_toArray, List.set_cons_zero, List.set_cons_succ])
    first | (refine plan_loud nth8 rfl ?_; intro KP hKP; go_wp2_with (first | (go_at_call 137; (first | (with_reducible refine (T0.out _).mono ?_) | (with_reducible refine (T1.out _).mono ?_) | (with_reducible refine (T2.out _).mono ?_) | (with_reducible refine (T3.out _).mono ?_)); rintro e w' ⟨rfl, xl, rfl⟩; have hsz := xl.bel.size; (try simp only [World.size_alloc, World.size_setCell, World.size_drew] at hsz); (try have hz0 : w.heap.size < xl.w.heap.size := (by omega)); (try have hz1 : w.heap.size + 1 < xl.w.heap.size := (by omega)); (try have hz2 : w.heap.size + 1 + 1 < xl.w.heap.size := (by omega))) | (go_at_call 181; (first | (with_reducible refine (S0.out _).mono ?_) | (with_reducible refine (S1.out _).mono ?_) | (with_reducible refine (S2.out _).mono ?_) | (with_reducible refine (S3.out _).mono ?_)); rintro e w' ⟨rfl, xl, rfl⟩; have hsz := xl.bel.size; (try simp only [World.size_alloc, World.size_setCell, World.size_drew] at hsz); (try have hz0 : w.heap.size < xl.w.heap.size := (by omega)); (try have hz1 : w.heap.size + 1 < xl.w.heap.size := (by omega)); (try have hz2 : w.heap.size + 1 + 1 < xl.w.heap.size := (by omega)))); refine hKP _ _ (LaterC.mk bb) ?_; clear hKP KP) | (refine plan_skip nth8 rfl rfl (LaterC.mk bb) ?_; simp only [Act.put, List.setIfInBounds_toArray, List.set_cons_zero, List.set_cons_succ])
    first | (refine plan_loud nth9 rfl ?_; intro KP hKP; go_wp2_with (first | (go_at_call 137; (first | (with_reducible refine (T0.out _).mono ?_) | (with_reducible refine (T1.out _).mono ?_) | (with_reducible refine (T2.out _).mono ?_) | (with_reducible refine (T3.out _).mono ?_)); rintro e w' ⟨rfl, xl, rfl⟩; have hsz := xl.bel.size; (try simp only [World.size_alloc, World.size_setCell, World.size_drew] at hsz); (try have hz0 : w.heap.size < xl.w.heap.size := (by omega)); (try have hz1 : w.heap.size + 1 < xl.w.heap.size := (by omega)); (try have hz2 : w.heap.size + 1 + 1 < xl.w.heap.size := (by omega))) | (go_at_call 181; (first | (with_reducible refine (S0.out _).mono ?_) | (with_reducible refine (S1.out _).mono ?_) | (with_reducible refine (S2.out _).mono ?_) | (with_reducible refine (S3.out _).mono ?_)); rintro e w' ⟨rfl, xl, rfl⟩; have hsz := xl.bel.size; (try simp only [World.size_alloc, World.size_setCell, World.size_drew] at hsz); (try have hz0 : w.heap.size < xl.w.heap.size := (by omega)); (try have hz1 : w.heap.size + 1 < xl.w.heap.size := (by omega)); (try have hz2 : w.heap.size + 1 + 1 < xl.w.heap.size := (by omega)))); refine hKP _ _ (LaterC.mk bb) ?_; clear hKP KP) | (refine plan_skip nth9 rfl rfl (LaterC.mk bb) ?_; simp only [Act.put, List.setIfInBounds_toArray, List.set_cons_zero, List.set_cons_succ])
    first | (refine plan_quiet nth10 rfl ?_; intro KP hKP; go_big_quiet_op; go_big_quiet_on) | (refine plan_skip_q nth10 rfl rfl ?_; simp only [Act.put, List.setIfInBounds_toArray, List.set_cons_zero, List.set_cons_succ])
    first | (refine plan_quiet nth11 rfl ?_; intro KP hKP; go_big_quiet_op; go_big_quiet_on) | (refine plan_skip_q nth11 rfl rfl ?_; simp only [Act.put, List.setIfInBounds_toArray, List.set_cons_zero, List.set_cons_succ])
    first | (refine plan_quiet nth12 rfl ?_; intro KP hKP; go_big_quiet_op; go_big_quiet_on) | (refine plan_skip_q nth12 rfl rfl ?_; simp only [Act.put, List.setIfInBounds_toArray, List.set_cons_zero, List.set_cons_succ])
    first | (refine plan_quiet nth13 rfl ?_; intro KP hKP; go_big_quiet_op; go_big_quiet_on) | (refine plan_skip_q nth13 rfl rfl ?_; simp only [Act.put, List.setIfInBounds_toArray, List.set_cons_zero, List.set_cons_succ])
    first | (refine plan_quiet nth14 rfl ?_; intro KP hKP; go_big_quiet_op; go_big_quiet_on) | (refine plan_skip_q nth14 rfl rfl ?_; simp only [Act.put, List.setIfInBounds_toArray, List.set_cons_zero, List.set_cons_succ])
    first | (refine plan_quiet nth15 rfl ?_; intro KP hKP; go_big_quiet_op; go_big_quiet_on) | (refine plan_skip_q nth15 rfl rfl ?_; simp only [Act.put, List.setIfInBounds_toArray, List.set_cons_zero, List.set_cons_succ])
    first | (refine plan_quiet nth18 rfl ?_; intro KP hKP; go_big_quiet_op; go_big_quiet_on) | (refine plan_skip_q nth18 rfl rfl ?_; simp only [Act.put, List.setIfInBounds_toArray, List.set_cons_zero, List.set_cons_succ])
    first | (refine plan_quiet nth19 rfl ?_; intro KP hKP; go_big_quiet_op; go_big_quiet_on) | (refine plan_skip_q nth19 rfl rfl ?_; simp only [Act.put, List.setIfInBounds_toArray, List.set_cons_zero, List.set_cons_succ])
    first | (refine plan_quiet nth20 rfl ?_; intro KP hKP; go_big_quiet_op; go_big_quiet_on) | (refine plan_skip_q nth20 rfl rfl ?_; simp only [Act.put, List.setIfInBounds_toArray, List.set_cons_zero, List.set_cons_succ])
    first | (refine plan_loud nth16 rfl ?_; intro KP hKP; go_wp2_with (first | (go_at_call 137; (first | (with_reducible refine (T0.out _).mono ?_) | (with_reducible refine (T1.out _).mono ?_) | (with_reducible refine (T2.out _).mono ?_) | (with_reducible refine (T3.out _).mono ?_)); rintro e w' ⟨rfl, xl, rfl⟩; have hsz := xl.bel.size; (try simp only [World.size_alloc, World.size_setCell, World.size_drew] at hsz); (try have hz0 : w.heap.size < xl.w.heap.size := (by omega)); (try have hz1 : w.heap.size + 1 < xl.w.heap.size := (by omega)); (try have hz2 : w.heap.size + 1 + 1 < xl.w.heap.size := (by omega))) | (go_at_call 181; (first | (with_reducible refine (S0.out _).mono ?_) | (with_reducible refine (S1.out _).mono ?_) | (with_reducible refine (S2.out _).mono ?_) | (with_reducible refine (S3.out _).mono ?_)); rintro e w' ⟨rfl, xl, rfl⟩; have hsz := xl.bel.size; (try simp only [World.size_alloc, World.size_setCell, World.size_drew] at hsz); (try have hz0 : w.heap.size < xl.w.heap.size := (by omega)); (try have hz1 : w.heap.size + 1 < xl.w.heap.size := (by omega)); (try have hz2 : w.heap.size + 1 + 1 < xl.w.heap.size := (by omega)))); refine hKP _ _ (LaterC.mk bb) ?_; clear hKP KP) | (refine plan_skip nth16 rfl rfl (LaterC.mk bb) ?_; simp only [Act.put, List.setIfInBounds_toArray, List.set_cons_zero, List.set_cons_succ])
    first | (refine plan_loud nth17 rfl ?_; intro KP hKP; go_wp2_with (first | (go_at_call 137; (first | (with_reducible refine (T0.out _).mono ?_) | (with_reducible refine (T1.out _).mono ?_) | (with_reducible refine (T2.out _).mono ?_) | (with_reducible refine (T3.out _).mono ?_)); rintro e w' ⟨rfl, xl, rfl⟩; have hsz := xl.bel.size; (try simp only [World.size_alloc, World.size_setCell, World.size_drew] at hsz); (try have hz0 : w.heap.size < xl.w.heap.size := (by omega)); (try have hz1 : w.heap.size + 1 < xl.w.heap.size := (by omega)); (try have hz2 : w.heap.size + 1 + 1 < xl.w.heap.size := (by omega))) | (go_at_call 181; (first | (with_reducible refine (S0.out _).mono ?_) | (with_reducible refine (S1.out _).mono ?_) | (with_reducible refine (S2.out _).mono ?_) | (with_reducible refine (S3.out _).mono ?_)); rintro e w' ⟨rfl, xl, rfl⟩; have hsz := xl.bel.size; (try simp only [World.size_alloc, World.size_setCell, World.size_drew] at hsz); (try have hz0 : w.heap.size < xl.w.heap.size := (by omega)); (try have hz1 : w.heap.size + 1 < xl.w.heap.size := (by omega)); (try have hz2 : w.heap.size + 1 + 1 < xl.w.heap.size := (by omega)))); refine hKP _ _ (LaterC.mk bb) ?_; clear hKP KP) | (refine plan_skip nth17 rfl rfl (LaterC.mk bb) ?_; simp only [Act.put, List.setIfInBounds_toArray, List.set_cons_zero, List.set_cons_succ])
    first | (refine plan_loud nth21 rfl ?_; intro KP hKP; go_wp2_with (first | (go_at_call 137; (first | (with_reducible refine (T0.out _).mono ?_) | (with_reducible refine (T1.out _).mono ?_) | (with_reducible refine (T2.out _).mono ?_) | (with_reducible refine (T3.out _).mono ?_)); rintro e w' ⟨rfl, xl, rfl⟩; have hsz := xl.bel.size; (try simp only [World.size_alloc, World.size_setCell, World.size_drew] at hsz); (try have hz0 : w.heap.size < xl.w.heap.size := (by omega)); (try have hz1 : w.heap.size + 1 < xl.w.heap.size := (by omega)); (try have hz2 : w.heap.size + 1 + 1 < xl.w.heap.size := (by omega))) | (go_at_call 181; (first | (with_reducible refine (S0.out _).mono ?_) | (with_reducible refine (S1.out _).mono ?_) | (with_reducible refine (S2.out _).mono ?_) | (with_reducible refine (S3.out _).mono ?_)); rintro e w' ⟨rfl, xl, rfl⟩; have hsz := xl.bel.size; (try simp only [World.size_alloc, World.size_setCell, World.size_drew] at hsz); (try have hz0 : w.heap.size < xl.w.heap.size := (by omega)); (try have hz1 : w.heap.size + 1 < xl.w.heap.size := (by omega)); (try have hz2 : w.heap.size + 1 + 1 < xl.w.heap.size := (by omega)))); refine hKP _ _ (LaterC.mk bb) ?_; clear hKP KP) | (refine plan_skip nth21 rfl rfl (LaterC.mk bb) ?_; simp only [Act.put, List.setIfInBounds_toArray, List.set_cons_zero, List.set_cons_succ])
    first | (refine plan_loud nth22 rfl ?_; intro KP hKP; go_wp2_with (first | (go_at_call 137; (first | (with_reducible refine (T0.out _).mono ?_) | (with_reducible refine (T1.out _).mono ?_) | (with_reducible refine (T2.out _).mono ?_) | (with_reducible refine (T3.out _).mono ?_)); rintro e w' ⟨rfl, xl, rfl⟩; have hsz := xl.bel.size; (try simp only [World.size_alloc, World.size_setCell, World.size_drew] at hsz); (try have hz0 : w.heap.size < xl.w.heap.size := (by omega)); (try have hz1 : w.heap.size + 1 < xl.w.heap.size := (by omega)); (try have hz2 : w.heap.size + 1 + 1 < xl.w.heap.size := (by omega))) | (go_at_call 181; (first | (with_reducible refine (S0.out _).mono ?_) | (with_reducible refine (S1.out _).mono ?_) | (with_reducible refine (S2.out _).mono ?_) | (with_reducible refine (S3.out _).mono ?_)); rintro e w' ⟨rfl, xl, rfl⟩; have hsz := xl.bel.size; (try simp only [World.size_alloc, World.size_setCell, World.size_drew] at hsz); (try have hz0 : w.heap.size < xl.w.heap.size := (by omega)); (try have hz1 : w.heap.size + 1 < xl.w.heap.size := (by omega)); (try have hz2 : w.heap.size + 1 + 1 < xl.w.heap.size := (by omega)))); refine hKP _ _ (LaterC.mk bb) ?_; clear hKP KP) | (refine plan_skip nth22 rfl rfl (LaterC.mk bb) ?_; simp only [Act.put, List.setIfInBounds_toArray, List.set_cons_zero, List.set_cons_succ])
    first | (refine plan_quiet nth23 rfl ?_; intro KP hKP; go_big_quiet_op; go_big_quiet_on) | (refine plan_skip_q nth23 rfl rfl ?_; simp only [Act.put, List.setIfInBounds_toArray, List.set_cons_zero, List.set_cons_succ])
    first | (refine plan_quiet nth24 rfl ?_; intro KP hKP; go_big_quiet_op; go_big_quiet_on) | (refine plan_skip_q nth24 rfl rfl ?_; simp only [Act.put, List.setIfInBounds_toArray, List.set_cons_zero, List.set_cons_succ])
    first | (refine plan_quiet nth25 rfl ?_; intro KP hKP; go_big_quiet_op; go_big_quiet_on) | (refine plan_skip_q nth25 rfl rfl ?_; simp only [Act.put, List.setIfInBounds_toArray, List.set_cons_zero, List.set_cons_succ])
    first | (refine plan_quiet nth26 rfl ?_; intro KP hKP; go_big_quiet_op; go_big_quiet_on) | (refine plan_skip_q nth26 rfl rfl ?_; simp only [Act.put, List.setIfInBounds_toArray, List.set_cons_zero, List.set_cons_succ])
    refine plan_nil ?_
    go_wp2_with fail
    go_ret
    exact .mk (by rw [X.out]; rfl) bb
end
end Go.Proofs.YtklcaphkfdlipaaGreatDoor

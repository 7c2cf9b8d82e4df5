import Derived.Test.YtflcfdiochohgaaGreatDoorPackA
/- When two claims contradict each other: both sides. -/
set_option linter.unusedSimpArgs false
set_option linter.unusedVariables false
namespace Go.Proofs.YtflcfdiochohgaaGreatDoor
open Go.RowKit
section
variable (c d : Clm) (w : World)
theorem meetsB_0 {c d : Clm} (h : ¬ c.fr ≤ d.to) : meetsB c d = false := by simp [meetsB, h]
theorem meetsB_1 {c d : Clm} (h : c.fr ≤ d.to) : meetsB c d = decide (d.fr ≤ c.to) := by simp [meetsB, h]
set_option maxHeartbeats 400000 in
theorem meets_any : Calls Tryz.prog 160 #[.agg #[.int .i64 c.fr, .int .i64 c.to], .agg #[.int .i64 d.fr, .int .i64 d.to]] w (Ret w (.bool (meetsB c d))) := by
  by_cases h : c.fr ≤ d.to
  · have X := Lib.hid (meetsB_1 h)
    go_enter Tryz.func160, Tryz.ntmps160
    go_wp2_with fail
    go_ret
    exact .mk (by rw [X.out]; rfl) (by (repeat (first | (with_reducible exact Below.refl _ _) | (with_reducible assumption) | (with_reducible refine Later.out _ ?_) | (with_reducible refine bel_alloc ?_ _) | (with_reducible refine bel_drew ?_) | (with_reducible refine bel_drewN ?_ _) | (with_reducible refine bel_set ?_ ?_ _) | (with_reducible refine After.out _ ?_ ?_) | (dsimp only; omega) | omega | (simp only [World.size_alloc, World.size_setCell, World.size_drew]; omega))))
  · have X := Lib.hid (meetsB_0 h)
    go_enter Tryz.func160, Tryz.ntmps160
    go_wp2_with fail
    go_ret
    exact .mk (by rw [X.out]; rfl) (by (repeat (first | (with_reducible exact Below.refl _ _) | (with_reducible assumption) | (with_reducible refine Later.out _ ?_) | (with_reducible refine bel_alloc ?_ _) | (with_reducible refine bel_drew ?_) | (with_reducible refine bel_drewN ?_ _) | (with_reducible refine bel_set ?_ ?_ _) | (with_reducible refine After.out _ ?_ ?_) | (dsimp only; omega) | omega | (simp only [World.size_alloc, World.size_setCell, World.size_drew]; omega))))
theorem meets_b {c d w} {b : Bool} (h : meetsB c d = b) : Calls Tryz.prog 160 #[.agg #[.int .i64 c.fr, .int .i64 c.to], .agg #[.int .i64 d.fr, .int .i64 d.to]] w (Ret w (.bool b)) := by subst h; exact meets_any _ _ _
set_option maxHeartbeats 400000 in
theorem sMeets_any : Calls Tryz.prog 165 #[.agg #[.int .i64 c.fr, .int .i64 c.to], .agg #[.int .i64 d.fr, .int .i64 d.to]] w (Ret w (.bool (meetsB c d))) := by
  by_cases h : c.fr ≤ d.to
  · have X := Lib.hid (meetsB_1 h)
    go_enter Tryz.func165, Tryz.ntmps165
    go_wp2_with fail
    go_ret
    exact .mk (by rw [X.out]; rfl) (by (repeat (first | (with_reducible exact Below.refl _ _) | (with_reducible assumption) | (with_reducible refine Later.out _ ?_) | (with_reducible refine bel_alloc ?_ _) | (with_reducible refine bel_drew ?_) | (with_reducible refine bel_drewN ?_ _) | (with_reducible refine bel_set ?_ ?_ _) | (with_reducible refine After.out _ ?_ ?_) | (dsimp only; omega) | omega | (simp only [World.size_alloc, World.size_setCell, World.size_drew]; omega))))
  · have X := Lib.hid (meetsB_0 h)
    go_enter Tryz.func165, Tryz.ntmps165
    go_wp2_with fail
    go_ret
    exact .mk (by rw [X.out]; rfl) (by (repeat (first | (with_reducible exact Below.refl _ _) | (with_reducible assumption) | (with_reducible refine Later.out _ ?_) | (with_reducible refine bel_alloc ?_ _) | (with_reducible refine bel_drew ?_) | (with_reducible refine bel_drewN ?_ _) | (with_reducible refine bel_set ?_ ?_ _) | (with_reducible refine After.out _ ?_ ?_) | (dsimp only; omega) | omega | (simp only [World.size_alloc, World.size_setCell, World.size_drew]; omega))))
theorem sMeets_b {c d w} {b : Bool} (h : meetsB c d = b) : Calls Tryz.prog 165 #[.agg #[.int .i64 c.fr, .int .i64 c.to], .agg #[.int .i64 d.fr, .int .i64 d.to]] w (Ret w (.bool b)) := by subst h; exact sMeets_any _ _ _
set_option maxHeartbeats 1000000 in
theorem isWithout_any : Calls Tryz.prog 161 #[clmV c, clmV d] w (Ret w (.bool (withoutB c d))) := by
  by_cases h1 : c.kind = 1
  · have e1 : (c.kind == 1) = true := by simp [h1]
    by_cases h2 : d.kind = 3
    · have e2 : (d.kind == 3) = true := by simp [h2]
      have X := Lib.hid (show withoutB c d = (d.place.toList == c.val.toList) by simp [withoutB, h1, h2, toList_eq])
      clear h1 h2
      go_enter Tryz.func161, Tryz.ntmps161
      go_wp2_with fail
      go_ret
      exact .mk (by rw [X.out]; rfl) (by (repeat (first | (with_reducible exact Below.refl _ _) | (with_reducible assumption) | (with_reducible refine Later.out _ ?_) | (with_reducible refine bel_alloc ?_ _) | (with_reducible refine bel_drew ?_) | (with_reducible refine bel_drewN ?_ _) | (with_reducible refine bel_set ?_ ?_ _) | (with_reducible refine After.out _ ?_ ?_) | (dsimp only; omega) | omega | (simp only [World.size_alloc, World.size_setCell, World.size_drew]; omega))))
    · have e2 : (d.kind == 3) = false := by simp [h2]
      have X := Lib.hid (show withoutB c d = false by simp [withoutB, h2])
      clear h1 h2
      go_enter Tryz.func161, Tryz.ntmps161
      go_wp2_with fail
      go_ret
      exact .mk (by rw [X.out]; rfl) (by (repeat (first | (with_reducible exact Below.refl _ _) | (with_reducible assumption) | (with_reducible refine Later.out _ ?_) | (with_reducible refine bel_alloc ?_ _) | (with_reducible refine bel_drew ?_) | (with_reducible refine bel_drewN ?_ _) | (with_reducible refine bel_set ?_ ?_ _) | (with_reducible refine After.out _ ?_ ?_) | (dsimp only; omega) | omega | (simp only [World.size_alloc, World.size_setCell, World.size_drew]; omega))))
  · have e1 : (c.kind == 1) = false := by simp [h1]
    have X := Lib.hid (show withoutB c d = false by simp [withoutB, h1])
    clear h1
    go_enter Tryz.func161, Tryz.ntmps161
    go_wp2_with fail
    go_ret
    exact .mk (by rw [X.out]; rfl) (by (repeat (first | (with_reducible exact Below.refl _ _) | (with_reducible assumption) | (with_reducible refine Later.out _ ?_) | (with_reducible refine bel_alloc ?_ _) | (with_reducible refine bel_drew ?_) | (with_reducible refine bel_drewN ?_ _) | (with_reducible refine bel_set ?_ ?_ _) | (with_reducible refine After.out _ ?_ ?_) | (dsimp only; omega) | omega | (simp only [World.size_alloc, World.size_setCell, World.size_drew]; omega))))
theorem isWithout_b {c d w} {b : Bool} (h : withoutB c d = b) : Calls Tryz.prog 161 #[clmV c, clmV d] w (Ret w (.bool b)) := by subst h; exact isWithout_any _ _ _
theorem kindB (k m : Int) : (k = m ∧ (k == m) = true) ∨ (k ≠ m ∧ (k == m) = false) := by
  by_cases h : k = m
  · exact .inl ⟨h, by simp [h]⟩
  · exact .inr ⟨h, by simp [h]⟩
theorem beq_comm_toList {a b : ByteArray} {x : Bool} (h : (a.toList == b.toList) = x) : (b.toList == a.toList) = x := by
  rw [← h, toList_eq, toList_eq, Bool.eq_iff_iff]; simp [eq_comm]
set_option maxHeartbeats 40000000 in
theorem contradicts_any : Calls Tryz.prog 83 #[clmV c, clmV d] w (Ret w (.bool (contraB c d))) := by
  cases hm : meetsB c d
  · have X := Lib.hid (show contraB c d = false by simp [contraB, hm])
    (try clear e)
    go_enter Tryz.func83, Tryz.ntmps83
    go_wp2_with fail
    with_reducible refine (meets_b hm).mono ?_
    rintro e w' ⟨rfl, y1, rfl⟩
    have hsy1 := y1.bel.size
    (try simp only [World.size_alloc, World.size_setCell, World.size_drew] at hsy1)
    go_wp2_with fail
    go_ret
    exact .mk (by rw [X.out]; rfl) (by (repeat (first | (with_reducible exact Below.refl _ _) | (with_reducible assumption) | (with_reducible refine Later.out _ ?_) | (with_reducible refine bel_alloc ?_ _) | (with_reducible refine bel_drew ?_) | (with_reducible refine bel_drewN ?_ _) | (with_reducible refine bel_set ?_ ?_ _) | (with_reducible refine After.out _ ?_ ?_) | (dsimp only; omega) | omega | (simp only [World.size_alloc, World.size_setCell, World.size_drew]; omega))))
  cases h1 : withoutB c d
  rotate_left
  · have X := Lib.hid (show contraB c d = true by simp [contraB, hm, h1])
    (try clear e)
    go_enter Tryz.func83, Tryz.ntmps83
    go_wp2_with fail
    with_reducible refine (meets_b hm).mono ?_
    rintro e w' ⟨rfl, y1, rfl⟩
    have hsy1 := y1.bel.size
    (try simp only [World.size_alloc, World.size_setCell, World.size_drew] at hsy1)
    go_wp2_with fail
    with_reducible refine (isWithout_b h1).mono ?_
    rintro e w' ⟨rfl, y2, rfl⟩
    have hsy2 := y2.bel.size
    (try simp only [World.size_alloc, World.size_setCell, World.size_drew] at hsy2)
    go_wp2_with fail
    go_ret
    exact .mk (by rw [X.out]; rfl) (by (repeat (first | (with_reducible exact Below.refl _ _) | (with_reducible assumption) | (with_reducible refine Later.out _ ?_) | (with_reducible refine bel_alloc ?_ _) | (with_reducible refine bel_drew ?_) | (with_reducible refine bel_drewN ?_ _) | (with_reducible refine bel_set ?_ ?_ _) | (with_reducible refine After.out _ ?_ ?_) | (dsimp only; omega) | omega | (simp only [World.size_alloc, World.size_setCell, World.size_drew]; omega))))
  cases h2 : withoutB d c
  rotate_left
  · have X := Lib.hid (show contraB c d = true by simp [contraB, hm, h1, h2])
    (try clear e)
    go_enter Tryz.func83, Tryz.ntmps83
    go_wp2_with fail
    with_reducible refine (meets_b hm).mono ?_
    rintro e w' ⟨rfl, y1, rfl⟩
    have hsy1 := y1.bel.size
    (try simp only [World.size_alloc, World.size_setCell, World.size_drew] at hsy1)
    go_wp2_with fail
    with_reducible refine (isWithout_b h1).mono ?_
    rintro e w' ⟨rfl, y2, rfl⟩
    have hsy2 := y2.bel.size
    (try simp only [World.size_alloc, World.size_setCell, World.size_drew] at hsy2)
    go_wp2_with fail
    with_reducible refine (isWithout_b h2).mono ?_
    rintro e w' ⟨rfl, y3, rfl⟩
    have hsy3 := y3.bel.size
    (try simp only [World.size_alloc, World.size_setCell, World.size_drew] at hsy3)
    go_wp2_with fail
    go_ret
    exact .mk (by rw [X.out]; rfl) (by (repeat (first | (with_reducible exact Below.refl _ _) | (with_reducible assumption) | (with_reducible refine Later.out _ ?_) | (with_reducible refine bel_alloc ?_ _) | (with_reducible refine bel_drew ?_) | (with_reducible refine bel_drewN ?_ _) | (with_reducible refine bel_set ?_ ?_ _) | (with_reducible refine After.out _ ?_ ?_) | (dsimp only; omega) | omega | (simp only [World.size_alloc, World.size_setCell, World.size_drew]; omega))))
  rcases sameB c.place d.place with ⟨p, p1⟩ | ⟨p, p1⟩
  rotate_left
  · have X := Lib.hid (show contraB c d = false by simp [contraB, hm, h1, h2, p])
    clear p
    (try clear e)
    go_enter Tryz.func83, Tryz.ntmps83
    go_wp2_with fail
    with_reducible refine (meets_b hm).mono ?_
    rintro e w' ⟨rfl, y1, rfl⟩
    have hsy1 := y1.bel.size
    (try simp only [World.size_alloc, World.size_setCell, World.size_drew] at hsy1)
    go_wp2_with fail
    with_reducible refine (isWithout_b h1).mono ?_
    rintro e w' ⟨rfl, y2, rfl⟩
    have hsy2 := y2.bel.size
    (try simp only [World.size_alloc, World.size_setCell, World.size_drew] at hsy2)
    go_wp2_with fail
    with_reducible refine (isWithout_b h2).mono ?_
    rintro e w' ⟨rfl, y3, rfl⟩
    have hsy3 := y3.bel.size
    (try simp only [World.size_alloc, World.size_setCell, World.size_drew] at hsy3)
    go_wp2_with fail
    go_ret
    exact .mk (by rw [X.out]; rfl) (by (repeat (first | (with_reducible exact Below.refl _ _) | (with_reducible assumption) | (with_reducible refine Later.out _ ?_) | (with_reducible refine bel_alloc ?_ _) | (with_reducible refine bel_drew ?_) | (with_reducible refine bel_drewN ?_ _) | (with_reducible refine bel_set ?_ ?_ _) | (with_reducible refine After.out _ ?_ ?_) | (dsimp only; omega) | omega | (simp only [World.size_alloc, World.size_setCell, World.size_drew]; omega))))
  rcases kindB c.kind 3 with ⟨k, k1⟩ | ⟨k, k1⟩
  · rcases kindB d.kind 3 with ⟨l, l1⟩ | ⟨l, l1⟩
    · have q1 : (c.kind == d.kind) = true := by simp [k, l]
      have q0 : (c.kind == 0) = false := by simp [k]
      have q2 : (c.kind == 1) = false := by simp [k]
      · have X := Lib.hid (show contraB c d = false by simp [contraB, hm, h1, h2, p, k, l])
        clear p k l
        (try clear e)
        go_enter Tryz.func83, Tryz.ntmps83
        go_wp2_with fail
        with_reducible refine (meets_b hm).mono ?_
        rintro e w' ⟨rfl, y1, rfl⟩
        have hsy1 := y1.bel.size
        (try simp only [World.size_alloc, World.size_setCell, World.size_drew] at hsy1)
        go_wp2_with fail
        with_reducible refine (isWithout_b h1).mono ?_
        rintro e w' ⟨rfl, y2, rfl⟩
        have hsy2 := y2.bel.size
        (try simp only [World.size_alloc, World.size_setCell, World.size_drew] at hsy2)
        go_wp2_with fail
        with_reducible refine (isWithout_b h2).mono ?_
        rintro e w' ⟨rfl, y3, rfl⟩
        have hsy3 := y3.bel.size
        (try simp only [World.size_alloc, World.size_setCell, World.size_drew] at hsy3)
        go_wp2_with fail
        go_ret
        exact .mk (by rw [X.out]; rfl) (by (repeat (first | (with_reducible exact Below.refl _ _) | (with_reducible assumption) | (with_reducible refine Later.out _ ?_) | (with_reducible refine bel_alloc ?_ _) | (with_reducible refine bel_drew ?_) | (with_reducible refine bel_drewN ?_ _) | (with_reducible refine bel_set ?_ ?_ _) | (with_reducible refine After.out _ ?_ ?_) | (dsimp only; omega) | omega | (simp only [World.size_alloc, World.size_setCell, World.size_drew]; omega))))
    · have X := Lib.hid (show contraB c d = true by simp [contraB, hm, h1, h2, p, k, l])
      clear p k l
      (try clear e)
      go_enter Tryz.func83, Tryz.ntmps83
      go_wp2_with fail
      with_reducible refine (meets_b hm).mono ?_
      rintro e w' ⟨rfl, y1, rfl⟩
      have hsy1 := y1.bel.size
      (try simp only [World.size_alloc, World.size_setCell, World.size_drew] at hsy1)
      go_wp2_with fail
      with_reducible refine (isWithout_b h1).mono ?_
      rintro e w' ⟨rfl, y2, rfl⟩
      have hsy2 := y2.bel.size
      (try simp only [World.size_alloc, World.size_setCell, World.size_drew] at hsy2)
      go_wp2_with fail
      with_reducible refine (isWithout_b h2).mono ?_
      rintro e w' ⟨rfl, y3, rfl⟩
      have hsy3 := y3.bel.size
      (try simp only [World.size_alloc, World.size_setCell, World.size_drew] at hsy3)
      go_wp2_with fail
      go_ret
      exact .mk (by rw [X.out]; rfl) (by (repeat (first | (with_reducible exact Below.refl _ _) | (with_reducible assumption) | (with_reducible refine Later.out _ ?_) | (with_reducible refine bel_alloc ?_ _) | (with_reducible refine bel_drew ?_) | (with_reducible refine bel_drewN ?_ _) | (with_reducible refine bel_set ?_ ?_ _) | (with_reducible refine After.out _ ?_ ?_) | (dsimp only; omega) | omega | (simp only [World.size_alloc, World.size_setCell, World.size_drew]; omega))))
  · rcases kindB d.kind 3 with ⟨l, l1⟩ | ⟨l, l1⟩
    · have X := Lib.hid (show contraB c d = true by simp [contraB, hm, h1, h2, p, k, l])
      clear p k l
      (try clear e)
      go_enter Tryz.func83, Tryz.ntmps83
      go_wp2_with fail
      with_reducible refine (meets_b hm).mono ?_
      rintro e w' ⟨rfl, y1, rfl⟩
      have hsy1 := y1.bel.size
      (try simp only [World.size_alloc, World.size_setCell, World.size_drew] at hsy1)
      go_wp2_with fail
      with_reducible refine (isWithout_b h1).mono ?_
      rintro e w' ⟨rfl, y2, rfl⟩
      have hsy2 := y2.bel.size
      (try simp only [World.size_alloc, World.size_setCell, World.size_drew] at hsy2)
      go_wp2_with fail
      with_reducible refine (isWithout_b h2).mono ?_
      rintro e w' ⟨rfl, y3, rfl⟩
      have hsy3 := y3.bel.size
      (try simp only [World.size_alloc, World.size_setCell, World.size_drew] at hsy3)
      go_wp2_with fail
      go_ret
      exact .mk (by rw [X.out]; rfl) (by (repeat (first | (with_reducible exact Below.refl _ _) | (with_reducible assumption) | (with_reducible refine Later.out _ ?_) | (with_reducible refine bel_alloc ?_ _) | (with_reducible refine bel_drew ?_) | (with_reducible refine bel_drewN ?_ _) | (with_reducible refine bel_set ?_ ?_ _) | (with_reducible refine After.out _ ?_ ?_) | (dsimp only; omega) | omega | (simp only [World.size_alloc, World.size_setCell, World.size_drew]; omega))))
    · rcases kindB c.kind d.kind with ⟨e, e1⟩ | ⟨e, e1⟩
      rotate_left
      · have X := Lib.hid (show contraB c d = false by simp [contraB, hm, h1, h2, p, k, l, e])
        clear p k l e
        (try clear e)
        go_enter Tryz.func83, Tryz.ntmps83
        go_wp2_with fail
        with_reducible refine (meets_b hm).mono ?_
        rintro e w' ⟨rfl, y1, rfl⟩
        have hsy1 := y1.bel.size
        (try simp only [World.size_alloc, World.size_setCell, World.size_drew] at hsy1)
        go_wp2_with fail
        with_reducible refine (isWithout_b h1).mono ?_
        rintro e w' ⟨rfl, y2, rfl⟩
        have hsy2 := y2.bel.size
        (try simp only [World.size_alloc, World.size_setCell, World.size_drew] at hsy2)
        go_wp2_with fail
        with_reducible refine (isWithout_b h2).mono ?_
        rintro e w' ⟨rfl, y3, rfl⟩
        have hsy3 := y3.bel.size
        (try simp only [World.size_alloc, World.size_setCell, World.size_drew] at hsy3)
        go_wp2_with fail
        go_ret
        exact .mk (by rw [X.out]; rfl) (by (repeat (first | (with_reducible exact Below.refl _ _) | (with_reducible assumption) | (with_reducible refine Later.out _ ?_) | (with_reducible refine bel_alloc ?_ _) | (with_reducible refine bel_drew ?_) | (with_reducible refine bel_drewN ?_ _) | (with_reducible refine bel_set ?_ ?_ _) | (with_reducible refine After.out _ ?_ ?_) | (dsimp only; omega) | omega | (simp only [World.size_alloc, World.size_setCell, World.size_drew]; omega))))
      rcases kindB c.kind 0 with ⟨z, z1⟩ | ⟨z, z1⟩
      · have e2 := e
        rw [z] at e2
        rcases sameB c.val d.val with ⟨v, v1⟩ | ⟨v, v1⟩
        · have X := Lib.hid (show contraB c d = false by simp [contraB, hm, h1, h2, p, z, e2.symm, v])
          clear p z v
          clear e2
          (try clear e)
          go_enter Tryz.func83, Tryz.ntmps83
          go_wp2_with fail
          with_reducible refine (meets_b hm).mono ?_
          rintro e w' ⟨rfl, y1, rfl⟩
          have hsy1 := y1.bel.size
          (try simp only [World.size_alloc, World.size_setCell, World.size_drew] at hsy1)
          go_wp2_with fail
          with_reducible refine (isWithout_b h1).mono ?_
          rintro e w' ⟨rfl, y2, rfl⟩
          have hsy2 := y2.bel.size
          (try simp only [World.size_alloc, World.size_setCell, World.size_drew] at hsy2)
          go_wp2_with fail
          with_reducible refine (isWithout_b h2).mono ?_
          rintro e w' ⟨rfl, y3, rfl⟩
          have hsy3 := y3.bel.size
          (try simp only [World.size_alloc, World.size_setCell, World.size_drew] at hsy3)
          go_wp2_with fail
          go_ret
          exact .mk (by rw [X.out]; rfl) (by (repeat (first | (with_reducible exact Below.refl _ _) | (with_reducible assumption) | (with_reducible refine Later.out _ ?_) | (with_reducible refine bel_alloc ?_ _) | (with_reducible refine bel_drew ?_) | (with_reducible refine bel_drewN ?_ _) | (with_reducible refine bel_set ?_ ?_ _) | (with_reducible refine After.out _ ?_ ?_) | (dsimp only; omega) | omega | (simp only [World.size_alloc, World.size_setCell, World.size_drew]; omega))))
        · have X := Lib.hid (show contraB c d = true by simp [contraB, hm, h1, h2, p, z, e2.symm, v])
          clear p z v
          clear e2
          (try clear e)
          go_enter Tryz.func83, Tryz.ntmps83
          go_wp2_with fail
          with_reducible refine (meets_b hm).mono ?_
          rintro e w' ⟨rfl, y1, rfl⟩
          have hsy1 := y1.bel.size
          (try simp only [World.size_alloc, World.size_setCell, World.size_drew] at hsy1)
          go_wp2_with fail
          with_reducible refine (isWithout_b h1).mono ?_
          rintro e w' ⟨rfl, y2, rfl⟩
          have hsy2 := y2.bel.size
          (try simp only [World.size_alloc, World.size_setCell, World.size_drew] at hsy2)
          go_wp2_with fail
          with_reducible refine (isWithout_b h2).mono ?_
          rintro e w' ⟨rfl, y3, rfl⟩
          have hsy3 := y3.bel.size
          (try simp only [World.size_alloc, World.size_setCell, World.size_drew] at hsy3)
          go_wp2_with fail
          go_ret
          exact .mk (by rw [X.out]; rfl) (by (repeat (first | (with_reducible exact Below.refl _ _) | (with_reducible assumption) | (with_reducible refine Later.out _ ?_) | (with_reducible refine bel_alloc ?_ _) | (with_reducible refine bel_drew ?_) | (with_reducible refine bel_drewN ?_ _) | (with_reducible refine bel_set ?_ ?_ _) | (with_reducible refine After.out _ ?_ ?_) | (dsimp only; omega) | omega | (simp only [World.size_alloc, World.size_setCell, World.size_drew]; omega))))
      · rcases kindB c.kind 1 with ⟨u, u1⟩ | ⟨u, u1⟩
        · have e2 := e
          rw [u] at e2
          rcases sameB c.val d.val with ⟨v, v1⟩ | ⟨v, v1⟩
          · have X := Lib.hid (show contraB c d = false by simp [contraB, hm, h1, h2, p, u, e2.symm, v])
            clear p u v
            clear e2
            (try clear e)
            go_enter Tryz.func83, Tryz.ntmps83
            go_wp2_with fail
            with_reducible refine (meets_b hm).mono ?_
            rintro e w' ⟨rfl, y1, rfl⟩
            have hsy1 := y1.bel.size
            (try simp only [World.size_alloc, World.size_setCell, World.size_drew] at hsy1)
            go_wp2_with fail
            with_reducible refine (isWithout_b h1).mono ?_
            rintro e w' ⟨rfl, y2, rfl⟩
            have hsy2 := y2.bel.size
            (try simp only [World.size_alloc, World.size_setCell, World.size_drew] at hsy2)
            go_wp2_with fail
            with_reducible refine (isWithout_b h2).mono ?_
            rintro e w' ⟨rfl, y3, rfl⟩
            have hsy3 := y3.bel.size
            (try simp only [World.size_alloc, World.size_setCell, World.size_drew] at hsy3)
            go_wp2_with fail
            go_ret
            exact .mk (by rw [X.out]; rfl) (by (repeat (first | (with_reducible exact Below.refl _ _) | (with_reducible assumption) | (with_reducible refine Later.out _ ?_) | (with_reducible refine bel_alloc ?_ _) | (with_reducible refine bel_drew ?_) | (with_reducible refine bel_drewN ?_ _) | (with_reducible refine bel_set ?_ ?_ _) | (with_reducible refine After.out _ ?_ ?_) | (dsimp only; omega) | omega | (simp only [World.size_alloc, World.size_setCell, World.size_drew]; omega))))
          · have X := Lib.hid (show contraB c d = true by simp [contraB, hm, h1, h2, p, u, e2.symm, v])
            clear p u v
            clear e2
            (try clear e)
            go_enter Tryz.func83, Tryz.ntmps83
            go_wp2_with fail
            with_reducible refine (meets_b hm).mono ?_
            rintro e w' ⟨rfl, y1, rfl⟩
            have hsy1 := y1.bel.size
            (try simp only [World.size_alloc, World.size_setCell, World.size_drew] at hsy1)
            go_wp2_with fail
            with_reducible refine (isWithout_b h1).mono ?_
            rintro e w' ⟨rfl, y2, rfl⟩
            have hsy2 := y2.bel.size
            (try simp only [World.size_alloc, World.size_setCell, World.size_drew] at hsy2)
            go_wp2_with fail
            with_reducible refine (isWithout_b h2).mono ?_
            rintro e w' ⟨rfl, y3, rfl⟩
            have hsy3 := y3.bel.size
            (try simp only [World.size_alloc, World.size_setCell, World.size_drew] at hsy3)
            go_wp2_with fail
            go_ret
            exact .mk (by rw [X.out]; rfl) (by (repeat (first | (with_reducible exact Below.refl _ _) | (with_reducible assumption) | (with_reducible refine Later.out _ ?_) | (with_reducible refine bel_alloc ?_ _) | (with_reducible refine bel_drew ?_) | (with_reducible refine bel_drewN ?_ _) | (with_reducible refine bel_set ?_ ?_ _) | (with_reducible refine After.out _ ?_ ?_) | (dsimp only; omega) | omega | (simp only [World.size_alloc, World.size_setCell, World.size_drew]; omega))))
        · have X := Lib.hid (show contraB c d = false by simp [contraB, hm, h1, h2, p, k, l, z, u])
          clear p k l z u
          (try clear e)
          go_enter Tryz.func83, Tryz.ntmps83
          go_wp2_with fail
          with_reducible refine (meets_b hm).mono ?_
          rintro e w' ⟨rfl, y1, rfl⟩
          have hsy1 := y1.bel.size
          (try simp only [World.size_alloc, World.size_setCell, World.size_drew] at hsy1)
          go_wp2_with fail
          with_reducible refine (isWithout_b h1).mono ?_
          rintro e w' ⟨rfl, y2, rfl⟩
          have hsy2 := y2.bel.size
          (try simp only [World.size_alloc, World.size_setCell, World.size_drew] at hsy2)
          go_wp2_with fail
          with_reducible refine (isWithout_b h2).mono ?_
          rintro e w' ⟨rfl, y3, rfl⟩
          have hsy3 := y3.bel.size
          (try simp only [World.size_alloc, World.size_setCell, World.size_drew] at hsy3)
          go_wp2_with fail
          go_ret
          exact .mk (by rw [X.out]; rfl) (by (repeat (first | (with_reducible exact Below.refl _ _) | (with_reducible assumption) | (with_reducible refine Later.out _ ?_) | (with_reducible refine bel_alloc ?_ _) | (with_reducible refine bel_drew ?_) | (with_reducible refine bel_drewN ?_ _) | (with_reducible refine bel_set ?_ ?_ _) | (with_reducible refine After.out _ ?_ ?_) | (dsimp only; omega) | omega | (simp only [World.size_alloc, World.size_setCell, World.size_drew]; omega))))
set_option maxHeartbeats 40000000 in
theorem sContradict_any : Calls Tryz.prog 85 #[clmV c, clmV d] w (Ret w (.bool (contraB c d))) := by
  cases hm : meetsB c d
  · have X := Lib.hid (show contraB c d = false by simp [contraB, hm])
    (try clear e)
    go_enter Tryz.func85, Tryz.ntmps85
    go_wp2_with fail
    with_reducible refine (sMeets_b hm).mono ?_
    rintro e w' ⟨rfl, y1, rfl⟩
    have hsy1 := y1.bel.size
    (try simp only [World.size_alloc, World.size_setCell, World.size_drew] at hsy1)
    go_wp2_with fail
    go_ret
    exact .mk (by rw [X.out]; rfl) (by (repeat (first | (with_reducible exact Below.refl _ _) | (with_reducible assumption) | (with_reducible refine Later.out _ ?_) | (with_reducible refine bel_alloc ?_ _) | (with_reducible refine bel_drew ?_) | (with_reducible refine bel_drewN ?_ _) | (with_reducible refine bel_set ?_ ?_ _) | (with_reducible refine After.out _ ?_ ?_) | (dsimp only; omega) | omega | (simp only [World.size_alloc, World.size_setCell, World.size_drew]; omega))))
  rcases kindB c.kind 1 with ⟨k, k1⟩ | ⟨k, k1⟩
  · have k3 : (c.kind == 3) = false := by simp [k]
    rcases kindB d.kind 1 with ⟨l, l1⟩ | ⟨l, l1⟩
    · have l3 : (d.kind == 3) = false := by simp [l]
      have h1 : withoutB c d = false := by simp [withoutB, k, l]
      have h2 : withoutB d c = false := by simp [withoutB, k, l]
      rcases sameB c.place d.place with ⟨p, p1⟩ | ⟨p, p1⟩
      rotate_left
      · have X := Lib.hid (show contraB c d = false by simp [contraB, hm, h1, h2, k, l, p])
        clear h1 h2 k l p
        (try clear e)
        go_enter Tryz.func85, Tryz.ntmps85
        go_wp2_with fail
        with_reducible refine (sMeets_b hm).mono ?_
        rintro e w' ⟨rfl, y1, rfl⟩
        have hsy1 := y1.bel.size
        (try simp only [World.size_alloc, World.size_setCell, World.size_drew] at hsy1)
        go_wp2_with fail
        go_ret
        exact .mk (by rw [X.out]; rfl) (by (repeat (first | (with_reducible exact Below.refl _ _) | (with_reducible assumption) | (with_reducible refine Later.out _ ?_) | (with_reducible refine bel_alloc ?_ _) | (with_reducible refine bel_drew ?_) | (with_reducible refine bel_drewN ?_ _) | (with_reducible refine bel_set ?_ ?_ _) | (with_reducible refine After.out _ ?_ ?_) | (dsimp only; omega) | omega | (simp only [World.size_alloc, World.size_setCell, World.size_drew]; omega))))
      have e1 : (c.kind == d.kind) = true := by simp [k, l]
      have z1 : (c.kind == 0) = false := by simp [k]
      rcases sameB c.val d.val with ⟨v, v1⟩ | ⟨v, v1⟩
      · have X := Lib.hid (show contraB c d = false by simp [contraB, hm, h1, h2, k, l, p, v])
        clear h1 h2 k l p v
        (try clear e)
        go_enter Tryz.func85, Tryz.ntmps85
        go_wp2_with fail
        with_reducible refine (sMeets_b hm).mono ?_
        rintro e w' ⟨rfl, y1, rfl⟩
        have hsy1 := y1.bel.size
        (try simp only [World.size_alloc, World.size_setCell, World.size_drew] at hsy1)
        go_wp2_with fail
        go_ret
        exact .mk (by rw [X.out]; rfl) (by (repeat (first | (with_reducible exact Below.refl _ _) | (with_reducible assumption) | (with_reducible refine Later.out _ ?_) | (with_reducible refine bel_alloc ?_ _) | (with_reducible refine bel_drew ?_) | (with_reducible refine bel_drewN ?_ _) | (with_reducible refine bel_set ?_ ?_ _) | (with_reducible refine After.out _ ?_ ?_) | (dsimp only; omega) | omega | (simp only [World.size_alloc, World.size_setCell, World.size_drew]; omega))))
      · have X := Lib.hid (show contraB c d = true by simp [contraB, hm, h1, h2, k, l, p, v])
        clear h1 h2 k l p v
        (try clear e)
        go_enter Tryz.func85, Tryz.ntmps85
        go_wp2_with fail
        with_reducible refine (sMeets_b hm).mono ?_
        rintro e w' ⟨rfl, y1, rfl⟩
        have hsy1 := y1.bel.size
        (try simp only [World.size_alloc, World.size_setCell, World.size_drew] at hsy1)
        go_wp2_with fail
        go_ret
        exact .mk (by rw [X.out]; rfl) (by (repeat (first | (with_reducible exact Below.refl _ _) | (with_reducible assumption) | (with_reducible refine Later.out _ ?_) | (with_reducible refine bel_alloc ?_ _) | (with_reducible refine bel_drew ?_) | (with_reducible refine bel_drewN ?_ _) | (with_reducible refine bel_set ?_ ?_ _) | (with_reducible refine After.out _ ?_ ?_) | (dsimp only; omega) | omega | (simp only [World.size_alloc, World.size_setCell, World.size_drew]; omega))))
    rcases kindB d.kind 3 with ⟨l3, l2⟩ | ⟨l3, l2⟩
    · clear l
      have h2 : withoutB d c = false := by simp [withoutB, k, l3]
      rcases sameB d.place c.val with ⟨q, q1⟩ | ⟨q, q1⟩
      · have h1 : withoutB c d = true := by simp [withoutB, k, l3, q]
        have q2 := beq_comm_toList q1
        · have X := Lib.hid (show contraB c d = true by simp [contraB, hm, h1, h2, q])
          clear h1 h2 q
          (try clear e)
          go_enter Tryz.func85, Tryz.ntmps85
          go_wp2_with fail
          with_reducible refine (sMeets_b hm).mono ?_
          rintro e w' ⟨rfl, y1, rfl⟩
          have hsy1 := y1.bel.size
          (try simp only [World.size_alloc, World.size_setCell, World.size_drew] at hsy1)
          go_wp2_with fail
          go_ret
          exact .mk (by rw [X.out]; rfl) (by (repeat (first | (with_reducible exact Below.refl _ _) | (with_reducible assumption) | (with_reducible refine Later.out _ ?_) | (with_reducible refine bel_alloc ?_ _) | (with_reducible refine bel_drew ?_) | (with_reducible refine bel_drewN ?_ _) | (with_reducible refine bel_set ?_ ?_ _) | (with_reducible refine After.out _ ?_ ?_) | (dsimp only; omega) | omega | (simp only [World.size_alloc, World.size_setCell, World.size_drew]; omega))))
      · have h1 : withoutB c d = false := by simp [withoutB, k, l3, q]
        have q2 := beq_comm_toList q1
        rcases sameB c.place d.place with ⟨p, p1⟩ | ⟨p, p1⟩
        rotate_left
        · have X := Lib.hid (show contraB c d = false by simp [contraB, hm, h1, h2, k, l3, q, p])
          clear h1 h2 k l3 q p
          (try clear e)
          go_enter Tryz.func85, Tryz.ntmps85
          go_wp2_with fail
          with_reducible refine (sMeets_b hm).mono ?_
          rintro e w' ⟨rfl, y1, rfl⟩
          have hsy1 := y1.bel.size
          (try simp only [World.size_alloc, World.size_setCell, World.size_drew] at hsy1)
          go_wp2_with fail
          go_ret
          exact .mk (by rw [X.out]; rfl) (by (repeat (first | (with_reducible exact Below.refl _ _) | (with_reducible assumption) | (with_reducible refine Later.out _ ?_) | (with_reducible refine bel_alloc ?_ _) | (with_reducible refine bel_drew ?_) | (with_reducible refine bel_drewN ?_ _) | (with_reducible refine bel_set ?_ ?_ _) | (with_reducible refine After.out _ ?_ ?_) | (dsimp only; omega) | omega | (simp only [World.size_alloc, World.size_setCell, World.size_drew]; omega))))
        have e1 : (c.kind == d.kind) = false := by rw [beq_eq_false_iff_ne]; omega
        · have X := Lib.hid (show contraB c d = true by simp [contraB, hm, h1, h2, k, l3, q, p])
          clear h1 h2 k l3 q p
          (try clear e)
          go_enter Tryz.func85, Tryz.ntmps85
          go_wp2_with fail
          with_reducible refine (sMeets_b hm).mono ?_
          rintro e w' ⟨rfl, y1, rfl⟩
          have hsy1 := y1.bel.size
          (try simp only [World.size_alloc, World.size_setCell, World.size_drew] at hsy1)
          go_wp2_with fail
          go_ret
          exact .mk (by rw [X.out]; rfl) (by (repeat (first | (with_reducible exact Below.refl _ _) | (with_reducible assumption) | (with_reducible refine Later.out _ ?_) | (with_reducible refine bel_alloc ?_ _) | (with_reducible refine bel_drew ?_) | (with_reducible refine bel_drewN ?_ _) | (with_reducible refine bel_set ?_ ?_ _) | (with_reducible refine After.out _ ?_ ?_) | (dsimp only; omega) | omega | (simp only [World.size_alloc, World.size_setCell, World.size_drew]; omega))))
    · have l4 := l2
      have h1 : withoutB c d = false := by simp [withoutB, k, l, l3]
      have h2 : withoutB d c = false := by simp [withoutB, k, l, l3]
      rcases sameB c.place d.place with ⟨p, p1⟩ | ⟨p, p1⟩
      rotate_left
      · have X := Lib.hid (show contraB c d = false by simp [contraB, hm, h1, h2, k, l, l3, p])
        clear h1 h2 k l l3 p
        (try clear e)
        go_enter Tryz.func85, Tryz.ntmps85
        go_wp2_with fail
        with_reducible refine (sMeets_b hm).mono ?_
        rintro e w' ⟨rfl, y1, rfl⟩
        have hsy1 := y1.bel.size
        (try simp only [World.size_alloc, World.size_setCell, World.size_drew] at hsy1)
        go_wp2_with fail
        go_ret
        exact .mk (by rw [X.out]; rfl) (by (repeat (first | (with_reducible exact Below.refl _ _) | (with_reducible assumption) | (with_reducible refine Later.out _ ?_) | (with_reducible refine bel_alloc ?_ _) | (with_reducible refine bel_drew ?_) | (with_reducible refine bel_drewN ?_ _) | (with_reducible refine bel_set ?_ ?_ _) | (with_reducible refine After.out _ ?_ ?_) | (dsimp only; omega) | omega | (simp only [World.size_alloc, World.size_setCell, World.size_drew]; omega))))
      have e1 : (c.kind == d.kind) = false := by rw [beq_eq_false_iff_ne]; omega
      · have X := Lib.hid (show contraB c d = false by simp [contraB, hm, h1, h2, k, l, l3, p, Ne.symm l, Ne.symm l3])
        clear h1 h2 k l l3 p
        (try clear e)
        go_enter Tryz.func85, Tryz.ntmps85
        go_wp2_with fail
        with_reducible refine (sMeets_b hm).mono ?_
        rintro e w' ⟨rfl, y1, rfl⟩
        have hsy1 := y1.bel.size
        (try simp only [World.size_alloc, World.size_setCell, World.size_drew] at hsy1)
        go_wp2_with fail
        go_ret
        exact .mk (by rw [X.out]; rfl) (by (repeat (first | (with_reducible exact Below.refl _ _) | (with_reducible assumption) | (with_reducible refine Later.out _ ?_) | (with_reducible refine bel_alloc ?_ _) | (with_reducible refine bel_drew ?_) | (with_reducible refine bel_drewN ?_ _) | (with_reducible refine bel_set ?_ ?_ _) | (with_reducible refine After.out _ ?_ ?_) | (dsimp only; omega) | omega | (simp only [World.size_alloc, World.size_setCell, World.size_drew]; omega))))
  rcases kindB c.kind 3 with ⟨k3, k2⟩ | ⟨k3, k2⟩
  · clear k
    rcases kindB d.kind 1 with ⟨l, l1⟩ | ⟨l, l1⟩
    · have l3 : (d.kind == 3) = false := by simp [l]
      have h1 : withoutB c d = false := by simp [withoutB, k3, l]
      rcases sameB c.place d.val with ⟨q, q1⟩ | ⟨q, q1⟩
      · have h2 : withoutB d c = true := by simp [withoutB, k3, l, q]
        have q2 := beq_comm_toList q1
        · have X := Lib.hid (show contraB c d = true by simp [contraB, hm, h1, h2, q])
          clear h1 h2 q
          (try clear e)
          go_enter Tryz.func85, Tryz.ntmps85
          go_wp2_with fail
          with_reducible refine (sMeets_b hm).mono ?_
          rintro e w' ⟨rfl, y1, rfl⟩
          have hsy1 := y1.bel.size
          (try simp only [World.size_alloc, World.size_setCell, World.size_drew] at hsy1)
          go_wp2_with fail
          go_ret
          exact .mk (by rw [X.out]; rfl) (by (repeat (first | (with_reducible exact Below.refl _ _) | (with_reducible assumption) | (with_reducible refine Later.out _ ?_) | (with_reducible refine bel_alloc ?_ _) | (with_reducible refine bel_drew ?_) | (with_reducible refine bel_drewN ?_ _) | (with_reducible refine bel_set ?_ ?_ _) | (with_reducible refine After.out _ ?_ ?_) | (dsimp only; omega) | omega | (simp only [World.size_alloc, World.size_setCell, World.size_drew]; omega))))
      · have h2 : withoutB d c = false := by simp [withoutB, k3, l, q]
        have q2 := beq_comm_toList q1
        rcases sameB c.place d.place with ⟨p, p1⟩ | ⟨p, p1⟩
        rotate_left
        · have X := Lib.hid (show contraB c d = false by simp [contraB, hm, h1, h2, k3, l, q, p])
          clear h1 h2 k3 l q p
          (try clear e)
          go_enter Tryz.func85, Tryz.ntmps85
          go_wp2_with fail
          with_reducible refine (sMeets_b hm).mono ?_
          rintro e w' ⟨rfl, y1, rfl⟩
          have hsy1 := y1.bel.size
          (try simp only [World.size_alloc, World.size_setCell, World.size_drew] at hsy1)
          go_wp2_with fail
          go_ret
          exact .mk (by rw [X.out]; rfl) (by (repeat (first | (with_reducible exact Below.refl _ _) | (with_reducible assumption) | (with_reducible refine Later.out _ ?_) | (with_reducible refine bel_alloc ?_ _) | (with_reducible refine bel_drew ?_) | (with_reducible refine bel_drewN ?_ _) | (with_reducible refine bel_set ?_ ?_ _) | (with_reducible refine After.out _ ?_ ?_) | (dsimp only; omega) | omega | (simp only [World.size_alloc, World.size_setCell, World.size_drew]; omega))))
        have e1 : (c.kind == d.kind) = false := by rw [beq_eq_false_iff_ne]; omega
        · have X := Lib.hid (show contraB c d = true by simp [contraB, hm, h1, h2, k3, l, q, p])
          clear h1 h2 k3 l q p
          (try clear e)
          go_enter Tryz.func85, Tryz.ntmps85
          go_wp2_with fail
          with_reducible refine (sMeets_b hm).mono ?_
          rintro e w' ⟨rfl, y1, rfl⟩
          have hsy1 := y1.bel.size
          (try simp only [World.size_alloc, World.size_setCell, World.size_drew] at hsy1)
          go_wp2_with fail
          go_ret
          exact .mk (by rw [X.out]; rfl) (by (repeat (first | (with_reducible exact Below.refl _ _) | (with_reducible assumption) | (with_reducible refine Later.out _ ?_) | (with_reducible refine bel_alloc ?_ _) | (with_reducible refine bel_drew ?_) | (with_reducible refine bel_drewN ?_ _) | (with_reducible refine bel_set ?_ ?_ _) | (with_reducible refine After.out _ ?_ ?_) | (dsimp only; omega) | omega | (simp only [World.size_alloc, World.size_setCell, World.size_drew]; omega))))
    rcases kindB d.kind 3 with ⟨l3, l2⟩ | ⟨l3, l2⟩
    · clear l
      have h1 : withoutB c d = false := by simp [withoutB, k3, l3]
      have h2 : withoutB d c = false := by simp [withoutB, k3, l3]
      rcases sameB c.place d.place with ⟨p, p1⟩ | ⟨p, p1⟩
      rotate_left
      · have X := Lib.hid (show contraB c d = false by simp [contraB, hm, h1, h2, k3, l3, p])
        clear h1 h2 k3 l3 p
        (try clear e)
        go_enter Tryz.func85, Tryz.ntmps85
        go_wp2_with fail
        with_reducible refine (sMeets_b hm).mono ?_
        rintro e w' ⟨rfl, y1, rfl⟩
        have hsy1 := y1.bel.size
        (try simp only [World.size_alloc, World.size_setCell, World.size_drew] at hsy1)
        go_wp2_with fail
        go_ret
        exact .mk (by rw [X.out]; rfl) (by (repeat (first | (with_reducible exact Below.refl _ _) | (with_reducible assumption) | (with_reducible refine Later.out _ ?_) | (with_reducible refine bel_alloc ?_ _) | (with_reducible refine bel_drew ?_) | (with_reducible refine bel_drewN ?_ _) | (with_reducible refine bel_set ?_ ?_ _) | (with_reducible refine After.out _ ?_ ?_) | (dsimp only; omega) | omega | (simp only [World.size_alloc, World.size_setCell, World.size_drew]; omega))))
      have e1 : (c.kind == d.kind) = true := by simp [k3, l3]
      have z1 : (c.kind == 0) = false := by simp [k3]
      · have X := Lib.hid (show contraB c d = false by simp [contraB, hm, h1, h2, k3, l3, p])
        clear h1 h2 k3 l3 p
        (try clear e)
        go_enter Tryz.func85, Tryz.ntmps85
        go_wp2_with fail
        with_reducible refine (sMeets_b hm).mono ?_
        rintro e w' ⟨rfl, y1, rfl⟩
        have hsy1 := y1.bel.size
        (try simp only [World.size_alloc, World.size_setCell, World.size_drew] at hsy1)
        go_wp2_with fail
        go_ret
        exact .mk (by rw [X.out]; rfl) (by (repeat (first | (with_reducible exact Below.refl _ _) | (with_reducible assumption) | (with_reducible refine Later.out _ ?_) | (with_reducible refine bel_alloc ?_ _) | (with_reducible refine bel_drew ?_) | (with_reducible refine bel_drewN ?_ _) | (with_reducible refine bel_set ?_ ?_ _) | (with_reducible refine After.out _ ?_ ?_) | (dsimp only; omega) | omega | (simp only [World.size_alloc, World.size_setCell, World.size_drew]; omega))))
    · have l4 := l2
      have h1 : withoutB c d = false := by simp [withoutB, k3, l, l3]
      have h2 : withoutB d c = false := by simp [withoutB, k3, l, l3]
      rcases sameB c.place d.place with ⟨p, p1⟩ | ⟨p, p1⟩
      rotate_left
      · have X := Lib.hid (show contraB c d = false by simp [contraB, hm, h1, h2, k3, l, l3, p])
        clear h1 h2 k3 l l3 p
        (try clear e)
        go_enter Tryz.func85, Tryz.ntmps85
        go_wp2_with fail
        with_reducible refine (sMeets_b hm).mono ?_
        rintro e w' ⟨rfl, y1, rfl⟩
        have hsy1 := y1.bel.size
        (try simp only [World.size_alloc, World.size_setCell, World.size_drew] at hsy1)
        go_wp2_with fail
        go_ret
        exact .mk (by rw [X.out]; rfl) (by (repeat (first | (with_reducible exact Below.refl _ _) | (with_reducible assumption) | (with_reducible refine Later.out _ ?_) | (with_reducible refine bel_alloc ?_ _) | (with_reducible refine bel_drew ?_) | (with_reducible refine bel_drewN ?_ _) | (with_reducible refine bel_set ?_ ?_ _) | (with_reducible refine After.out _ ?_ ?_) | (dsimp only; omega) | omega | (simp only [World.size_alloc, World.size_setCell, World.size_drew]; omega))))
      have e1 : (c.kind == d.kind) = false := by rw [beq_eq_false_iff_ne]; omega
      · have X := Lib.hid (show contraB c d = true by simp [contraB, hm, h1, h2, k3, l, l3, p, Ne.symm l, Ne.symm l3])
        clear h1 h2 k3 l l3 p
        (try clear e)
        go_enter Tryz.func85, Tryz.ntmps85
        go_wp2_with fail
        with_reducible refine (sMeets_b hm).mono ?_
        rintro e w' ⟨rfl, y1, rfl⟩
        have hsy1 := y1.bel.size
        (try simp only [World.size_alloc, World.size_setCell, World.size_drew] at hsy1)
        go_wp2_with fail
        go_ret
        exact .mk (by rw [X.out]; rfl) (by (repeat (first | (with_reducible exact Below.refl _ _) | (with_reducible assumption) | (with_reducible refine Later.out _ ?_) | (with_reducible refine bel_alloc ?_ _) | (with_reducible refine bel_drew ?_) | (with_reducible refine bel_drewN ?_ _) | (with_reducible refine bel_set ?_ ?_ _) | (with_reducible refine After.out _ ?_ ?_) | (dsimp only; omega) | omega | (simp only [World.size_alloc, World.size_setCell, World.size_drew]; omega))))
  · have k4 := k2
    rcases kindB d.kind 1 with ⟨l, l1⟩ | ⟨l, l1⟩
    · have l3 : (d.kind == 3) = false := by simp [l]
      have h1 : withoutB c d = false := by simp [withoutB, k, k3, l]
      have h2 : withoutB d c = false := by simp [withoutB, k, k3, l]
      rcases sameB c.place d.place with ⟨p, p1⟩ | ⟨p, p1⟩
      rotate_left
      · have X := Lib.hid (show contraB c d = false by simp [contraB, hm, h1, h2, k, k3, l, p])
        clear h1 h2 k k3 l p
        (try clear e)
        go_enter Tryz.func85, Tryz.ntmps85
        go_wp2_with fail
        with_reducible refine (sMeets_b hm).mono ?_
        rintro e w' ⟨rfl, y1, rfl⟩
        have hsy1 := y1.bel.size
        (try simp only [World.size_alloc, World.size_setCell, World.size_drew] at hsy1)
        go_wp2_with fail
        go_ret
        exact .mk (by rw [X.out]; rfl) (by (repeat (first | (with_reducible exact Below.refl _ _) | (with_reducible assumption) | (with_reducible refine Later.out _ ?_) | (with_reducible refine bel_alloc ?_ _) | (with_reducible refine bel_drew ?_) | (with_reducible refine bel_drewN ?_ _) | (with_reducible refine bel_set ?_ ?_ _) | (with_reducible refine After.out _ ?_ ?_) | (dsimp only; omega) | omega | (simp only [World.size_alloc, World.size_setCell, World.size_drew]; omega))))
      have e1 : (c.kind == d.kind) = false := by rw [beq_eq_false_iff_ne]; omega
      · have X := Lib.hid (show contraB c d = false by simp [contraB, hm, h1, h2, k, k3, l, p])
        clear h1 h2 k k3 l p
        (try clear e)
        go_enter Tryz.func85, Tryz.ntmps85
        go_wp2_with fail
        with_reducible refine (sMeets_b hm).mono ?_
        rintro e w' ⟨rfl, y1, rfl⟩
        have hsy1 := y1.bel.size
        (try simp only [World.size_alloc, World.size_setCell, World.size_drew] at hsy1)
        go_wp2_with fail
        go_ret
        exact .mk (by rw [X.out]; rfl) (by (repeat (first | (with_reducible exact Below.refl _ _) | (with_reducible assumption) | (with_reducible refine Later.out _ ?_) | (with_reducible refine bel_alloc ?_ _) | (with_reducible refine bel_drew ?_) | (with_reducible refine bel_drewN ?_ _) | (with_reducible refine bel_set ?_ ?_ _) | (with_reducible refine After.out _ ?_ ?_) | (dsimp only; omega) | omega | (simp only [World.size_alloc, World.size_setCell, World.size_drew]; omega))))
    rcases kindB d.kind 3 with ⟨l3, l2⟩ | ⟨l3, l2⟩
    · clear l
      have h1 : withoutB c d = false := by simp [withoutB, k, k3, l3]
      have h2 : withoutB d c = false := by simp [withoutB, k, k3, l3]
      rcases sameB c.place d.place with ⟨p, p1⟩ | ⟨p, p1⟩
      rotate_left
      · have X := Lib.hid (show contraB c d = false by simp [contraB, hm, h1, h2, k, k3, l3, p])
        clear h1 h2 k k3 l3 p
        (try clear e)
        go_enter Tryz.func85, Tryz.ntmps85
        go_wp2_with fail
        with_reducible refine (sMeets_b hm).mono ?_
        rintro e w' ⟨rfl, y1, rfl⟩
        have hsy1 := y1.bel.size
        (try simp only [World.size_alloc, World.size_setCell, World.size_drew] at hsy1)
        go_wp2_with fail
        go_ret
        exact .mk (by rw [X.out]; rfl) (by (repeat (first | (with_reducible exact Below.refl _ _) | (with_reducible assumption) | (with_reducible refine Later.out _ ?_) | (with_reducible refine bel_alloc ?_ _) | (with_reducible refine bel_drew ?_) | (with_reducible refine bel_drewN ?_ _) | (with_reducible refine bel_set ?_ ?_ _) | (with_reducible refine After.out _ ?_ ?_) | (dsimp only; omega) | omega | (simp only [World.size_alloc, World.size_setCell, World.size_drew]; omega))))
      have e1 : (c.kind == d.kind) = false := by rw [beq_eq_false_iff_ne]; omega
      · have X := Lib.hid (show contraB c d = true by simp [contraB, hm, h1, h2, k, k3, l3, p])
        clear h1 h2 k k3 l3 p
        (try clear e)
        go_enter Tryz.func85, Tryz.ntmps85
        go_wp2_with fail
        with_reducible refine (sMeets_b hm).mono ?_
        rintro e w' ⟨rfl, y1, rfl⟩
        have hsy1 := y1.bel.size
        (try simp only [World.size_alloc, World.size_setCell, World.size_drew] at hsy1)
        go_wp2_with fail
        go_ret
        exact .mk (by rw [X.out]; rfl) (by (repeat (first | (with_reducible exact Below.refl _ _) | (with_reducible assumption) | (with_reducible refine Later.out _ ?_) | (with_reducible refine bel_alloc ?_ _) | (with_reducible refine bel_drew ?_) | (with_reducible refine bel_drewN ?_ _) | (with_reducible refine bel_set ?_ ?_ _) | (with_reducible refine After.out _ ?_ ?_) | (dsimp only; omega) | omega | (simp only [World.size_alloc, World.size_setCell, World.size_drew]; omega))))
    · have l4 := l2
      have h1 : withoutB c d = false := by simp [withoutB, k, k3, l, l3]
      have h2 : withoutB d c = false := by simp [withoutB, k, k3, l, l3]
      rcases sameB c.place d.place with ⟨p, p1⟩ | ⟨p, p1⟩
      rotate_left
      · have X := Lib.hid (show contraB c d = false by simp [contraB, hm, h1, h2, k, k3, l, l3, p])
        clear h1 h2 k k3 l l3 p
        (try clear e)
        go_enter Tryz.func85, Tryz.ntmps85
        go_wp2_with fail
        with_reducible refine (sMeets_b hm).mono ?_
        rintro e w' ⟨rfl, y1, rfl⟩
        have hsy1 := y1.bel.size
        (try simp only [World.size_alloc, World.size_setCell, World.size_drew] at hsy1)
        go_wp2_with fail
        go_ret
        exact .mk (by rw [X.out]; rfl) (by (repeat (first | (with_reducible exact Below.refl _ _) | (with_reducible assumption) | (with_reducible refine Later.out _ ?_) | (with_reducible refine bel_alloc ?_ _) | (with_reducible refine bel_drew ?_) | (with_reducible refine bel_drewN ?_ _) | (with_reducible refine bel_set ?_ ?_ _) | (with_reducible refine After.out _ ?_ ?_) | (dsimp only; omega) | omega | (simp only [World.size_alloc, World.size_setCell, World.size_drew]; omega))))
      rcases kindB c.kind d.kind with ⟨e, e1⟩ | ⟨e, e1⟩
      rotate_left
      · have X := Lib.hid (show contraB c d = false by simp [contraB, hm, h1, h2, k, k3, l, l3, p, e])
        clear h1 h2 k k3 l l3 p e
        (try clear e)
        go_enter Tryz.func85, Tryz.ntmps85
        go_wp2_with fail
        with_reducible refine (sMeets_b hm).mono ?_
        rintro e w' ⟨rfl, y1, rfl⟩
        have hsy1 := y1.bel.size
        (try simp only [World.size_alloc, World.size_setCell, World.size_drew] at hsy1)
        go_wp2_with fail
        go_ret
        exact .mk (by rw [X.out]; rfl) (by (repeat (first | (with_reducible exact Below.refl _ _) | (with_reducible assumption) | (with_reducible refine Later.out _ ?_) | (with_reducible refine bel_alloc ?_ _) | (with_reducible refine bel_drew ?_) | (with_reducible refine bel_drewN ?_ _) | (with_reducible refine bel_set ?_ ?_ _) | (with_reducible refine After.out _ ?_ ?_) | (dsimp only; omega) | omega | (simp only [World.size_alloc, World.size_setCell, World.size_drew]; omega))))
      rcases kindB c.kind 0 with ⟨z, z1⟩ | ⟨z, z1⟩
      · have e2 := e
        rw [z] at e2
        rcases sameB c.val d.val with ⟨v, v1⟩ | ⟨v, v1⟩
        · have X := Lib.hid (show contraB c d = false by simp [contraB, hm, h1, h2, p, z, e2.symm, v])
          clear h1 h2 p z v
          clear e2
          (try clear e)
          go_enter Tryz.func85, Tryz.ntmps85
          go_wp2_with fail
          with_reducible refine (sMeets_b hm).mono ?_
          rintro e w' ⟨rfl, y1, rfl⟩
          have hsy1 := y1.bel.size
          (try simp only [World.size_alloc, World.size_setCell, World.size_drew] at hsy1)
          go_wp2_with fail
          go_ret
          exact .mk (by rw [X.out]; rfl) (by (repeat (first | (with_reducible exact Below.refl _ _) | (with_reducible assumption) | (with_reducible refine Later.out _ ?_) | (with_reducible refine bel_alloc ?_ _) | (with_reducible refine bel_drew ?_) | (with_reducible refine bel_drewN ?_ _) | (with_reducible refine bel_set ?_ ?_ _) | (with_reducible refine After.out _ ?_ ?_) | (dsimp only; omega) | omega | (simp only [World.size_alloc, World.size_setCell, World.size_drew]; omega))))
        · have X := Lib.hid (show contraB c d = true by simp [contraB, hm, h1, h2, p, z, e2.symm, v])
          clear h1 h2 p z v
          clear e2
          (try clear e)
          go_enter Tryz.func85, Tryz.ntmps85
          go_wp2_with fail
          with_reducible refine (sMeets_b hm).mono ?_
          rintro e w' ⟨rfl, y1, rfl⟩
          have hsy1 := y1.bel.size
          (try simp only [World.size_alloc, World.size_setCell, World.size_drew] at hsy1)
          go_wp2_with fail
          go_ret
          exact .mk (by rw [X.out]; rfl) (by (repeat (first | (with_reducible exact Below.refl _ _) | (with_reducible assumption) | (with_reducible refine Later.out _ ?_) | (with_reducible refine bel_alloc ?_ _) | (with_reducible refine bel_drew ?_) | (with_reducible refine bel_drewN ?_ _) | (with_reducible refine bel_set ?_ ?_ _) | (with_reducible refine After.out _ ?_ ?_) | (dsimp only; omega) | omega | (simp only [World.size_alloc, World.size_setCell, World.size_drew]; omega))))
      · have X := Lib.hid (show contraB c d = false by simp [contraB, hm, h1, h2, k, k3, l, l3, p, z])
        clear h1 h2 k k3 l l3 p z
        (try clear e)
        go_enter Tryz.func85, Tryz.ntmps85
        go_wp2_with fail
        with_reducible refine (sMeets_b hm).mono ?_
        rintro e w' ⟨rfl, y1, rfl⟩
        have hsy1 := y1.bel.size
        (try simp only [World.size_alloc, World.size_setCell, World.size_drew] at hsy1)
        go_wp2_with fail
        go_ret
        exact .mk (by rw [X.out]; rfl) (by (repeat (first | (with_reducible exact Below.refl _ _) | (with_reducible assumption) | (with_reducible refine Later.out _ ?_) | (with_reducible refine bel_alloc ?_ _) | (with_reducible refine bel_drew ?_) | (with_reducible refine bel_drewN ?_ _) | (with_reducible refine bel_set ?_ ?_ _) | (with_reducible refine After.out _ ?_ ?_) | (dsimp only; omega) | omega | (simp only [World.size_alloc, World.size_setCell, World.size_drew]; omega))))
theorem sContradict_b {c d w} {b : Bool} (h : contraB c d = b) : Calls Tryz.prog 85 #[clmV c, clmV d] w (Ret w (.bool b)) := by subst h; exact sContradict_any _ _ _
end
end Go.Proofs.YtflcfdiochohgaaGreatDoor

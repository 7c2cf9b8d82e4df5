import Derived.Test.YtiiekgmdbadalaaDoorClaimB
/- When two claims contradict each other: both sides. -/
set_option linter.unusedSimpArgs false
set_option linter.unusedVariables false
namespace Go.Proofs.YtiiekgmdbadalaaDoor
open Go.RowKit
section
variable (c d : Clm) (w : World)
theorem meetsB_0 {c d : Clm} (h : ¬ c.fr ≤ d.to) : meetsB c d = false := by simp [meetsB, h]
theorem meetsB_1 {c d : Clm} (h : c.fr ≤ d.to) : meetsB c d = decide (d.fr ≤ c.to) := by simp [meetsB, h]
set_option maxHeartbeats 400000 in
theorem meets_any : Calls Tryd.prog 101 #[.agg #[.int .i64 c.fr, .int .i64 c.to], .agg #[.int .i64 d.fr, .int .i64 d.to]] w (Ret w (.bool (meetsB c d))) := by
  by_cases h : c.fr ≤ d.to
  · have X := Lib.hid (meetsB_1 h)
    go_enter Tryd.func101, Tryd.ntmps101
    go_wp2_with fail
    go_ret
    exact .mk (by rw [X.out]; rfl) (by (repeat (first | (with_reducible exact Below.refl _ _) | (with_reducible assumption) | (with_reducible refine Later.out _ ?_) | (with_reducible refine bel_alloc ?_ _) | (with_reducible refine bel_drew ?_) | (with_reducible refine bel_drewN ?_ _) | (with_reducible refine bel_set ?_ ?_ _) | (with_reducible refine After.out _ ?_ ?_) | (dsimp only; omega) | omega | (simp only [World.size_alloc, World.size_setCell, World.size_drew]; omega))))
  · have X := Lib.hid (meetsB_0 h)
    go_enter Tryd.func101, Tryd.ntmps101
    go_wp2_with fail
    go_ret
    exact .mk (by rw [X.out]; rfl) (by (repeat (first | (with_reducible exact Below.refl _ _) | (with_reducible assumption) | (with_reducible refine Later.out _ ?_) | (with_reducible refine bel_alloc ?_ _) | (with_reducible refine bel_drew ?_) | (with_reducible refine bel_drewN ?_ _) | (with_reducible refine bel_set ?_ ?_ _) | (with_reducible refine After.out _ ?_ ?_) | (dsimp only; omega) | omega | (simp only [World.size_alloc, World.size_setCell, World.size_drew]; omega))))
theorem meets_b {c d w} {b : Bool} (h : meetsB c d = b) : Calls Tryd.prog 101 #[.agg #[.int .i64 c.fr, .int .i64 c.to], .agg #[.int .i64 d.fr, .int .i64 d.to]] w (Ret w (.bool b)) := by subst h; exact meets_any _ _ _
set_option maxHeartbeats 400000 in
theorem sMeets_any : Calls Tryd.prog 100 #[.agg #[.int .i64 c.fr, .int .i64 c.to], .agg #[.int .i64 d.fr, .int .i64 d.to]] w (Ret w (.bool (meetsB c d))) := by
  by_cases h : c.fr ≤ d.to
  · have X := Lib.hid (meetsB_1 h)
    go_enter Tryd.func100, Tryd.ntmps100
    go_wp2_with fail
    go_ret
    exact .mk (by rw [X.out]; rfl) (by (repeat (first | (with_reducible exact Below.refl _ _) | (with_reducible assumption) | (with_reducible refine Later.out _ ?_) | (with_reducible refine bel_alloc ?_ _) | (with_reducible refine bel_drew ?_) | (with_reducible refine bel_drewN ?_ _) | (with_reducible refine bel_set ?_ ?_ _) | (with_reducible refine After.out _ ?_ ?_) | (dsimp only; omega) | omega | (simp only [World.size_alloc, World.size_setCell, World.size_drew]; omega))))
  · have X := Lib.hid (meetsB_0 h)
    go_enter Tryd.func100, Tryd.ntmps100
    go_wp2_with fail
    go_ret
    exact .mk (by rw [X.out]; rfl) (by (repeat (first | (with_reducible exact Below.refl _ _) | (with_reducible assumption) | (with_reducible refine Later.out _ ?_) | (with_reducible refine bel_alloc ?_ _) | (with_reducible refine bel_drew ?_) | (with_reducible refine bel_drewN ?_ _) | (with_reducible refine bel_set ?_ ?_ _) | (with_reducible refine After.out _ ?_ ?_) | (dsimp only; omega) | omega | (simp only [World.size_alloc, World.size_setCell, World.size_drew]; omega))))
theorem sMeets_b {c d w} {b : Bool} (h : meetsB c d = b) : Calls Tryd.prog 100 #[.agg #[.int .i64 c.fr, .int .i64 c.to], .agg #[.int .i64 d.fr, .int .i64 d.to]] w (Ret w (.bool b)) := by subst h; exact sMeets_any _ _ _
set_option maxHeartbeats 1000000 in
theorem isWithout_any : Calls Tryd.prog 102 #[clmV c, clmV d] w (Ret w (.bool (withoutB c d))) := by
  by_cases h1 : c.kind = 1
  · have e1 : (c.kind == 1) = true := by simp [h1]
    by_cases h2 : d.kind = 3
    · have e2 : (d.kind == 3) = true := by simp [h2]
      have X := Lib.hid (show withoutB c d = (d.place.toList == c.val.toList) by simp [withoutB, h1, h2, toList_eq])
      clear h1 h2
      go_enter Tryd.func102, Tryd.ntmps102
      go_wp2_with fail
      go_ret
      exact .mk (by rw [X.out]; rfl) (by (repeat (first | (with_reducible exact Below.refl _ _) | (with_reducible assumption) | (with_reducible refine Later.out _ ?_) | (with_reducible refine bel_alloc ?_ _) | (with_reducible refine bel_drew ?_) | (with_reducible refine bel_drewN ?_ _) | (with_reducible refine bel_set ?_ ?_ _) | (with_reducible refine After.out _ ?_ ?_) | (dsimp only; omega) | omega | (simp only [World.size_alloc, World.size_setCell, World.size_drew]; omega))))
    · have e2 : (d.kind == 3) = false := by simp [h2]
      have X := Lib.hid (show withoutB c d = false by simp [withoutB, h2])
      clear h1 h2
      go_enter Tryd.func102, Tryd.ntmps102
      go_wp2_with fail
      go_ret
      exact .mk (by rw [X.out]; rfl) (by (repeat (first | (with_reducible exact Below.refl _ _) | (with_reducible assumption) | (with_reducible refine Later.out _ ?_) | (with_reducible refine bel_alloc ?_ _) | (with_reducible refine bel_drew ?_) | (with_reducible refine bel_drewN ?_ _) | (with_reducible refine bel_set ?_ ?_ _) | (with_reducible refine After.out _ ?_ ?_) | (dsimp only; omega) | omega | (simp only [World.size_alloc, World.size_setCell, World.size_drew]; omega))))
  · have e1 : (c.kind == 1) = false := by simp [h1]
    have X := Lib.hid (show withoutB c d = false by simp [withoutB, h1])
    clear h1
    go_enter Tryd.func102, Tryd.ntmps102
    go_wp2_with fail
    go_ret
    exact .mk (by rw [X.out]; rfl) (by (repeat (first | (with_reducible exact Below.refl _ _) | (with_reducible assumption) | (with_reducible refine Later.out _ ?_) | (with_reducible refine bel_alloc ?_ _) | (with_reducible refine bel_drew ?_) | (with_reducible refine bel_drewN ?_ _) | (with_reducible refine bel_set ?_ ?_ _) | (with_reducible refine After.out _ ?_ ?_) | (dsimp only; omega) | omega | (simp only [World.size_alloc, World.size_setCell, World.size_drew]; omega))))
theorem isWithout_b {c d w} {b : Bool} (h : withoutB c d = b) : Calls Tryd.prog 102 #[clmV c, clmV d] w (Ret w (.bool b)) := by subst h; exact isWithout_any _ _ _
theorem kinds4 (k : Int) : (k = 0 ∧ (k == 0) = true ∧ (k == 1) = false ∧ (k == 3) = false) ∨ (k = 1 ∧ (k == 0) = false ∧ (k == 1) = true ∧ (k == 3) = false) ∨ (k = 3 ∧ (k == 0) = false ∧ (k == 1) = false ∧ (k == 3) = true) ∨
    ((k ≠ 0 ∧ k ≠ 1 ∧ k ≠ 3) ∧ (k == 0) = false ∧ (k == 1) = false ∧ (k == 3) = false) := by
  by_cases h0 : k = 0
  · subst h0; simp
  by_cases h1 : k = 1
  · subst h1; simp
  by_cases h3 : k = 3
  · subst h3; simp
  simp [h0, h1, h3]
theorem beq_comm_toList {a b : ByteArray} {x : Bool} (h : (a.toList == b.toList) = x) : (b.toList == a.toList) = x := by
  rw [← h, toList_eq, toList_eq, Bool.eq_iff_iff]; simp [eq_comm]
set_option maxHeartbeats 40000000 in
theorem contradicts_any : Calls Tryd.prog 70 #[clmV c, clmV d] w (Ret w (.bool (contraB c d))) := by
  cases hm : meetsB c d
  · have X := Lib.hid (show contraB c d = false by simp [contraB, hm])
    go_enter Tryd.func70, Tryd.ntmps70
    go_wp2_with fail
    with_reducible refine (meets_b hm).mono ?_
    rintro e w' ⟨rfl, y1, rfl⟩
    have hsy1 := y1.bel.size
    (try simp only [World.size_alloc, World.size_setCell, World.size_drew] at hsy1)
    go_wp2_with fail
    go_ret
    exact .mk (by rw [X.out]; rfl) (by (repeat (first | (with_reducible exact Below.refl _ _) | (with_reducible assumption) | (with_reducible refine Later.out _ ?_) | (with_reducible refine bel_alloc ?_ _) | (with_reducible refine bel_drew ?_) | (with_reducible refine bel_drewN ?_ _) | (with_reducible refine bel_set ?_ ?_ _) | (with_reducible refine After.out _ ?_ ?_) | (dsimp only; omega) | omega | (simp only [World.size_alloc, World.size_setCell, World.size_drew]; omega))))
  rcases kinds4 c.kind with ⟨k, c0, c1, c3⟩ | ⟨k, c0, c1, c3⟩ | ⟨k, c0, c1, c3⟩ | ⟨⟨k, ka, kb⟩, c0, c1, c3⟩
  · rcases kinds4 d.kind with ⟨l, d0, d1, d3⟩ | ⟨l, d0, d1, d3⟩ | ⟨l, d0, d1, d3⟩ | ⟨⟨l, la, lb⟩, d0, d1, d3⟩
    · rcases sameB c.place d.place with ⟨p, p1⟩ | ⟨p, p1⟩
      · have q1 : (c.kind == d.kind) = true := by simp [k, l]
        rcases sameB c.val d.val with ⟨v, v1⟩ | ⟨v, v1⟩
        · have h1 : withoutB c d = false := by simp [withoutB, hm, k, l]
          have h2 : withoutB d c = false := by simp [withoutB, hm, k, l]
          have X := Lib.hid (show contraB c d = false by simp [contraB, h1, h2, hm, k, l, p, v])
          clear k l p v
          go_enter Tryd.func70, Tryd.ntmps70
          go_wp2_with fail
          with_reducible refine (meets_b hm).mono ?_
          rintro e w' ⟨rfl, y1, rfl⟩
          have hsy1 := y1.bel.size
          (try simp only [World.size_alloc, World.size_setCell, World.size_drew] at hsy1)
          go_wp2_with fail
          with_reducible refine (isWithout_b h1).mono ?_
          rintro e w' ⟨rfl, y2, rfl⟩
          have hsy2 := y2.bel.size
          (try simp only [World.size_alloc, World.size_setCell, World.size_drew] at hsy2)
          go_wp2_with fail
          with_reducible refine (isWithout_b h2).mono ?_
          rintro e w' ⟨rfl, y3, rfl⟩
          have hsy3 := y3.bel.size
          (try simp only [World.size_alloc, World.size_setCell, World.size_drew] at hsy3)
          go_wp2_with fail
          go_ret
          exact .mk (by rw [X.out]; rfl) (by (repeat (first | (with_reducible exact Below.refl _ _) | (with_reducible assumption) | (with_reducible refine Later.out _ ?_) | (with_reducible refine bel_alloc ?_ _) | (with_reducible refine bel_drew ?_) | (with_reducible refine bel_drewN ?_ _) | (with_reducible refine bel_set ?_ ?_ _) | (with_reducible refine After.out _ ?_ ?_) | (dsimp only; omega) | omega | (simp only [World.size_alloc, World.size_setCell, World.size_drew]; omega))))
        · have h1 : withoutB c d = false := by simp [withoutB, hm, k, l]
          have h2 : withoutB d c = false := by simp [withoutB, hm, k, l]
          have X := Lib.hid (show contraB c d = true by simp [contraB, h1, h2, hm, k, l, p, v])
          clear k l p v
          go_enter Tryd.func70, Tryd.ntmps70
          go_wp2_with fail
          with_reducible refine (meets_b hm).mono ?_
          rintro e w' ⟨rfl, y1, rfl⟩
          have hsy1 := y1.bel.size
          (try simp only [World.size_alloc, World.size_setCell, World.size_drew] at hsy1)
          go_wp2_with fail
          with_reducible refine (isWithout_b h1).mono ?_
          rintro e w' ⟨rfl, y2, rfl⟩
          have hsy2 := y2.bel.size
          (try simp only [World.size_alloc, World.size_setCell, World.size_drew] at hsy2)
          go_wp2_with fail
          with_reducible refine (isWithout_b h2).mono ?_
          rintro e w' ⟨rfl, y3, rfl⟩
          have hsy3 := y3.bel.size
          (try simp only [World.size_alloc, World.size_setCell, World.size_drew] at hsy3)
          go_wp2_with fail
          go_ret
          exact .mk (by rw [X.out]; rfl) (by (repeat (first | (with_reducible exact Below.refl _ _) | (with_reducible assumption) | (with_reducible refine Later.out _ ?_) | (with_reducible refine bel_alloc ?_ _) | (with_reducible refine bel_drew ?_) | (with_reducible refine bel_drewN ?_ _) | (with_reducible refine bel_set ?_ ?_ _) | (with_reducible refine After.out _ ?_ ?_) | (dsimp only; omega) | omega | (simp only [World.size_alloc, World.size_setCell, World.size_drew]; omega))))
      · have h1 : withoutB c d = false := by simp [withoutB, hm, k, l]
        have h2 : withoutB d c = false := by simp [withoutB, hm, k, l]
        have X := Lib.hid (show contraB c d = false by simp [contraB, h1, h2, hm, k, l, p])
        clear k l p
        go_enter Tryd.func70, Tryd.ntmps70
        go_wp2_with fail
        with_reducible refine (meets_b hm).mono ?_
        rintro e w' ⟨rfl, y1, rfl⟩
        have hsy1 := y1.bel.size
        (try simp only [World.size_alloc, World.size_setCell, World.size_drew] at hsy1)
        go_wp2_with fail
        with_reducible refine (isWithout_b h1).mono ?_
        rintro e w' ⟨rfl, y2, rfl⟩
        have hsy2 := y2.bel.size
        (try simp only [World.size_alloc, World.size_setCell, World.size_drew] at hsy2)
        go_wp2_with fail
        with_reducible refine (isWithout_b h2).mono ?_
        rintro e w' ⟨rfl, y3, rfl⟩
        have hsy3 := y3.bel.size
        (try simp only [World.size_alloc, World.size_setCell, World.size_drew] at hsy3)
        go_wp2_with fail
        go_ret
        exact .mk (by rw [X.out]; rfl) (by (repeat (first | (with_reducible exact Below.refl _ _) | (with_reducible assumption) | (with_reducible refine Later.out _ ?_) | (with_reducible refine bel_alloc ?_ _) | (with_reducible refine bel_drew ?_) | (with_reducible refine bel_drewN ?_ _) | (with_reducible refine bel_set ?_ ?_ _) | (with_reducible refine After.out _ ?_ ?_) | (dsimp only; omega) | omega | (simp only [World.size_alloc, World.size_setCell, World.size_drew]; omega))))
    · rcases sameB c.place d.place with ⟨p, p1⟩ | ⟨p, p1⟩
      · have q1 : (c.kind == d.kind) = false := by simp [k, l]
        have h1 : withoutB c d = false := by simp [withoutB, hm, k, l]
        have h2 : withoutB d c = false := by simp [withoutB, hm, k, l]
        have X := Lib.hid (show contraB c d = false by simp [contraB, h1, h2, hm, k, l, p])
        clear k l p
        go_enter Tryd.func70, Tryd.ntmps70
        go_wp2_with fail
        with_reducible refine (meets_b hm).mono ?_
        rintro e w' ⟨rfl, y1, rfl⟩
        have hsy1 := y1.bel.size
        (try simp only [World.size_alloc, World.size_setCell, World.size_drew] at hsy1)
        go_wp2_with fail
        with_reducible refine (isWithout_b h1).mono ?_
        rintro e w' ⟨rfl, y2, rfl⟩
        have hsy2 := y2.bel.size
        (try simp only [World.size_alloc, World.size_setCell, World.size_drew] at hsy2)
        go_wp2_with fail
        with_reducible refine (isWithout_b h2).mono ?_
        rintro e w' ⟨rfl, y3, rfl⟩
        have hsy3 := y3.bel.size
        (try simp only [World.size_alloc, World.size_setCell, World.size_drew] at hsy3)
        go_wp2_with fail
        go_ret
        exact .mk (by rw [X.out]; rfl) (by (repeat (first | (with_reducible exact Below.refl _ _) | (with_reducible assumption) | (with_reducible refine Later.out _ ?_) | (with_reducible refine bel_alloc ?_ _) | (with_reducible refine bel_drew ?_) | (with_reducible refine bel_drewN ?_ _) | (with_reducible refine bel_set ?_ ?_ _) | (with_reducible refine After.out _ ?_ ?_) | (dsimp only; omega) | omega | (simp only [World.size_alloc, World.size_setCell, World.size_drew]; omega))))
      · have h1 : withoutB c d = false := by simp [withoutB, hm, k, l]
        have h2 : withoutB d c = false := by simp [withoutB, hm, k, l]
        have X := Lib.hid (show contraB c d = false by simp [contraB, h1, h2, hm, k, l, p])
        clear k l p
        go_enter Tryd.func70, Tryd.ntmps70
        go_wp2_with fail
        with_reducible refine (meets_b hm).mono ?_
        rintro e w' ⟨rfl, y1, rfl⟩
        have hsy1 := y1.bel.size
        (try simp only [World.size_alloc, World.size_setCell, World.size_drew] at hsy1)
        go_wp2_with fail
        with_reducible refine (isWithout_b h1).mono ?_
        rintro e w' ⟨rfl, y2, rfl⟩
        have hsy2 := y2.bel.size
        (try simp only [World.size_alloc, World.size_setCell, World.size_drew] at hsy2)
        go_wp2_with fail
        with_reducible refine (isWithout_b h2).mono ?_
        rintro e w' ⟨rfl, y3, rfl⟩
        have hsy3 := y3.bel.size
        (try simp only [World.size_alloc, World.size_setCell, World.size_drew] at hsy3)
        go_wp2_with fail
        go_ret
        exact .mk (by rw [X.out]; rfl) (by (repeat (first | (with_reducible exact Below.refl _ _) | (with_reducible assumption) | (with_reducible refine Later.out _ ?_) | (with_reducible refine bel_alloc ?_ _) | (with_reducible refine bel_drew ?_) | (with_reducible refine bel_drewN ?_ _) | (with_reducible refine bel_set ?_ ?_ _) | (with_reducible refine After.out _ ?_ ?_) | (dsimp only; omega) | omega | (simp only [World.size_alloc, World.size_setCell, World.size_drew]; omega))))
    · rcases sameB c.place d.place with ⟨p, p1⟩ | ⟨p, p1⟩
      · have q1 : (c.kind == d.kind) = false := by rw [beq_eq_false_iff_ne]; omega
        have h1 : withoutB c d = false := by simp [withoutB, hm, k, l]
        have h2 : withoutB d c = false := by simp [withoutB, hm, k, l]
        have X := Lib.hid (show contraB c d = true by simp [contraB, h1, h2, hm, k, l, p])
        clear k l p
        go_enter Tryd.func70, Tryd.ntmps70
        go_wp2_with fail
        with_reducible refine (meets_b hm).mono ?_
        rintro e w' ⟨rfl, y1, rfl⟩
        have hsy1 := y1.bel.size
        (try simp only [World.size_alloc, World.size_setCell, World.size_drew] at hsy1)
        go_wp2_with fail
        with_reducible refine (isWithout_b h1).mono ?_
        rintro e w' ⟨rfl, y2, rfl⟩
        have hsy2 := y2.bel.size
        (try simp only [World.size_alloc, World.size_setCell, World.size_drew] at hsy2)
        go_wp2_with fail
        with_reducible refine (isWithout_b h2).mono ?_
        rintro e w' ⟨rfl, y3, rfl⟩
        have hsy3 := y3.bel.size
        (try simp only [World.size_alloc, World.size_setCell, World.size_drew] at hsy3)
        go_wp2_with fail
        go_ret
        exact .mk (by rw [X.out]; rfl) (by (repeat (first | (with_reducible exact Below.refl _ _) | (with_reducible assumption) | (with_reducible refine Later.out _ ?_) | (with_reducible refine bel_alloc ?_ _) | (with_reducible refine bel_drew ?_) | (with_reducible refine bel_drewN ?_ _) | (with_reducible refine bel_set ?_ ?_ _) | (with_reducible refine After.out _ ?_ ?_) | (dsimp only; omega) | omega | (simp only [World.size_alloc, World.size_setCell, World.size_drew]; omega))))
      · have h1 : withoutB c d = false := by simp [withoutB, hm, k, l]
        have h2 : withoutB d c = false := by simp [withoutB, hm, k, l]
        have X := Lib.hid (show contraB c d = false by simp [contraB, h1, h2, hm, k, l, p])
        clear k l p
        go_enter Tryd.func70, Tryd.ntmps70
        go_wp2_with fail
        with_reducible refine (meets_b hm).mono ?_
        rintro e w' ⟨rfl, y1, rfl⟩
        have hsy1 := y1.bel.size
        (try simp only [World.size_alloc, World.size_setCell, World.size_drew] at hsy1)
        go_wp2_with fail
        with_reducible refine (isWithout_b h1).mono ?_
        rintro e w' ⟨rfl, y2, rfl⟩
        have hsy2 := y2.bel.size
        (try simp only [World.size_alloc, World.size_setCell, World.size_drew] at hsy2)
        go_wp2_with fail
        with_reducible refine (isWithout_b h2).mono ?_
        rintro e w' ⟨rfl, y3, rfl⟩
        have hsy3 := y3.bel.size
        (try simp only [World.size_alloc, World.size_setCell, World.size_drew] at hsy3)
        go_wp2_with fail
        go_ret
        exact .mk (by rw [X.out]; rfl) (by (repeat (first | (with_reducible exact Below.refl _ _) | (with_reducible assumption) | (with_reducible refine Later.out _ ?_) | (with_reducible refine bel_alloc ?_ _) | (with_reducible refine bel_drew ?_) | (with_reducible refine bel_drewN ?_ _) | (with_reducible refine bel_set ?_ ?_ _) | (with_reducible refine After.out _ ?_ ?_) | (dsimp only; omega) | omega | (simp only [World.size_alloc, World.size_setCell, World.size_drew]; omega))))
    · rcases sameB c.place d.place with ⟨p, p1⟩ | ⟨p, p1⟩
      · have q1 : (c.kind == d.kind) = false := by rw [beq_eq_false_iff_ne]; omega
        have h1 : withoutB c d = false := by simp [withoutB, hm, k, l, la, lb, Ne.symm l, Ne.symm la, Ne.symm lb]
        have h2 : withoutB d c = false := by simp [withoutB, hm, k, l, la, lb, Ne.symm l, Ne.symm la, Ne.symm lb]
        have X := Lib.hid (show contraB c d = false by simp [contraB, h1, h2, hm, k, l, la, lb, Ne.symm l, Ne.symm la, Ne.symm lb, p])
        clear k l la lb p
        go_enter Tryd.func70, Tryd.ntmps70
        go_wp2_with fail
        with_reducible refine (meets_b hm).mono ?_
        rintro e w' ⟨rfl, y1, rfl⟩
        have hsy1 := y1.bel.size
        (try simp only [World.size_alloc, World.size_setCell, World.size_drew] at hsy1)
        go_wp2_with fail
        with_reducible refine (isWithout_b h1).mono ?_
        rintro e w' ⟨rfl, y2, rfl⟩
        have hsy2 := y2.bel.size
        (try simp only [World.size_alloc, World.size_setCell, World.size_drew] at hsy2)
        go_wp2_with fail
        with_reducible refine (isWithout_b h2).mono ?_
        rintro e w' ⟨rfl, y3, rfl⟩
        have hsy3 := y3.bel.size
        (try simp only [World.size_alloc, World.size_setCell, World.size_drew] at hsy3)
        go_wp2_with fail
        go_ret
        exact .mk (by rw [X.out]; rfl) (by (repeat (first | (with_reducible exact Below.refl _ _) | (with_reducible assumption) | (with_reducible refine Later.out _ ?_) | (with_reducible refine bel_alloc ?_ _) | (with_reducible refine bel_drew ?_) | (with_reducible refine bel_drewN ?_ _) | (with_reducible refine bel_set ?_ ?_ _) | (with_reducible refine After.out _ ?_ ?_) | (dsimp only; omega) | omega | (simp only [World.size_alloc, World.size_setCell, World.size_drew]; omega))))
      · have h1 : withoutB c d = false := by simp [withoutB, hm, k, l, la, lb, Ne.symm l, Ne.symm la, Ne.symm lb]
        have h2 : withoutB d c = false := by simp [withoutB, hm, k, l, la, lb, Ne.symm l, Ne.symm la, Ne.symm lb]
        have X := Lib.hid (show contraB c d = false by simp [contraB, h1, h2, hm, k, l, la, lb, Ne.symm l, Ne.symm la, Ne.symm lb, p])
        clear k l la lb p
        go_enter Tryd.func70, Tryd.ntmps70
        go_wp2_with fail
        with_reducible refine (meets_b hm).mono ?_
        rintro e w' ⟨rfl, y1, rfl⟩
        have hsy1 := y1.bel.size
        (try simp only [World.size_alloc, World.size_setCell, World.size_drew] at hsy1)
        go_wp2_with fail
        with_reducible refine (isWithout_b h1).mono ?_
        rintro e w' ⟨rfl, y2, rfl⟩
        have hsy2 := y2.bel.size
        (try simp only [World.size_alloc, World.size_setCell, World.size_drew] at hsy2)
        go_wp2_with fail
        with_reducible refine (isWithout_b h2).mono ?_
        rintro e w' ⟨rfl, y3, rfl⟩
        have hsy3 := y3.bel.size
        (try simp only [World.size_alloc, World.size_setCell, World.size_drew] at hsy3)
        go_wp2_with fail
        go_ret
        exact .mk (by rw [X.out]; rfl) (by (repeat (first | (with_reducible exact Below.refl _ _) | (with_reducible assumption) | (with_reducible refine Later.out _ ?_) | (with_reducible refine bel_alloc ?_ _) | (with_reducible refine bel_drew ?_) | (with_reducible refine bel_drewN ?_ _) | (with_reducible refine bel_set ?_ ?_ _) | (with_reducible refine After.out _ ?_ ?_) | (dsimp only; omega) | omega | (simp only [World.size_alloc, World.size_setCell, World.size_drew]; omega))))
  · rcases kinds4 d.kind with ⟨l, d0, d1, d3⟩ | ⟨l, d0, d1, d3⟩ | ⟨l, d0, d1, d3⟩ | ⟨⟨l, la, lb⟩, d0, d1, d3⟩
    · rcases sameB c.place d.place with ⟨p, p1⟩ | ⟨p, p1⟩
      · have q1 : (c.kind == d.kind) = false := by simp [k, l]
        have h1 : withoutB c d = false := by simp [withoutB, hm, k, l]
        have h2 : withoutB d c = false := by simp [withoutB, hm, k, l]
        have X := Lib.hid (show contraB c d = false by simp [contraB, h1, h2, hm, k, l, p])
        clear k l p
        go_enter Tryd.func70, Tryd.ntmps70
        go_wp2_with fail
        with_reducible refine (meets_b hm).mono ?_
        rintro e w' ⟨rfl, y1, rfl⟩
        have hsy1 := y1.bel.size
        (try simp only [World.size_alloc, World.size_setCell, World.size_drew] at hsy1)
        go_wp2_with fail
        with_reducible refine (isWithout_b h1).mono ?_
        rintro e w' ⟨rfl, y2, rfl⟩
        have hsy2 := y2.bel.size
        (try simp only [World.size_alloc, World.size_setCell, World.size_drew] at hsy2)
        go_wp2_with fail
        with_reducible refine (isWithout_b h2).mono ?_
        rintro e w' ⟨rfl, y3, rfl⟩
        have hsy3 := y3.bel.size
        (try simp only [World.size_alloc, World.size_setCell, World.size_drew] at hsy3)
        go_wp2_with fail
        go_ret
        exact .mk (by rw [X.out]; rfl) (by (repeat (first | (with_reducible exact Below.refl _ _) | (with_reducible assumption) | (with_reducible refine Later.out _ ?_) | (with_reducible refine bel_alloc ?_ _) | (with_reducible refine bel_drew ?_) | (with_reducible refine bel_drewN ?_ _) | (with_reducible refine bel_set ?_ ?_ _) | (with_reducible refine After.out _ ?_ ?_) | (dsimp only; omega) | omega | (simp only [World.size_alloc, World.size_setCell, World.size_drew]; omega))))
      · have h1 : withoutB c d = false := by simp [withoutB, hm, k, l]
        have h2 : withoutB d c = false := by simp [withoutB, hm, k, l]
        have X := Lib.hid (show contraB c d = false by simp [contraB, h1, h2, hm, k, l, p])
        clear k l p
        go_enter Tryd.func70, Tryd.ntmps70
        go_wp2_with fail
        with_reducible refine (meets_b hm).mono ?_
        rintro e w' ⟨rfl, y1, rfl⟩
        have hsy1 := y1.bel.size
        (try simp only [World.size_alloc, World.size_setCell, World.size_drew] at hsy1)
        go_wp2_with fail
        with_reducible refine (isWithout_b h1).mono ?_
        rintro e w' ⟨rfl, y2, rfl⟩
        have hsy2 := y2.bel.size
        (try simp only [World.size_alloc, World.size_setCell, World.size_drew] at hsy2)
        go_wp2_with fail
        with_reducible refine (isWithout_b h2).mono ?_
        rintro e w' ⟨rfl, y3, rfl⟩
        have hsy3 := y3.bel.size
        (try simp only [World.size_alloc, World.size_setCell, World.size_drew] at hsy3)
        go_wp2_with fail
        go_ret
        exact .mk (by rw [X.out]; rfl) (by (repeat (first | (with_reducible exact Below.refl _ _) | (with_reducible assumption) | (with_reducible refine Later.out _ ?_) | (with_reducible refine bel_alloc ?_ _) | (with_reducible refine bel_drew ?_) | (with_reducible refine bel_drewN ?_ _) | (with_reducible refine bel_set ?_ ?_ _) | (with_reducible refine After.out _ ?_ ?_) | (dsimp only; omega) | omega | (simp only [World.size_alloc, World.size_setCell, World.size_drew]; omega))))
    · rcases sameB c.place d.place with ⟨p, p1⟩ | ⟨p, p1⟩
      · have q1 : (c.kind == d.kind) = true := by simp [k, l]
        rcases sameB c.val d.val with ⟨v, v1⟩ | ⟨v, v1⟩
        · have h1 : withoutB c d = false := by simp [withoutB, hm, k, l]
          have h2 : withoutB d c = false := by simp [withoutB, hm, k, l]
          have X := Lib.hid (show contraB c d = false by simp [contraB, h1, h2, hm, k, l, p, v])
          clear k l p v
          go_enter Tryd.func70, Tryd.ntmps70
          go_wp2_with fail
          with_reducible refine (meets_b hm).mono ?_
          rintro e w' ⟨rfl, y1, rfl⟩
          have hsy1 := y1.bel.size
          (try simp only [World.size_alloc, World.size_setCell, World.size_drew] at hsy1)
          go_wp2_with fail
          with_reducible refine (isWithout_b h1).mono ?_
          rintro e w' ⟨rfl, y2, rfl⟩
          have hsy2 := y2.bel.size
          (try simp only [World.size_alloc, World.size_setCell, World.size_drew] at hsy2)
          go_wp2_with fail
          with_reducible refine (isWithout_b h2).mono ?_
          rintro e w' ⟨rfl, y3, rfl⟩
          have hsy3 := y3.bel.size
          (try simp only [World.size_alloc, World.size_setCell, World.size_drew] at hsy3)
          go_wp2_with fail
          go_ret
          exact .mk (by rw [X.out]; rfl) (by (repeat (first | (with_reducible exact Below.refl _ _) | (with_reducible assumption) | (with_reducible refine Later.out _ ?_) | (with_reducible refine bel_alloc ?_ _) | (with_reducible refine bel_drew ?_) | (with_reducible refine bel_drewN ?_ _) | (with_reducible refine bel_set ?_ ?_ _) | (with_reducible refine After.out _ ?_ ?_) | (dsimp only; omega) | omega | (simp only [World.size_alloc, World.size_setCell, World.size_drew]; omega))))
        · have h1 : withoutB c d = false := by simp [withoutB, hm, k, l]
          have h2 : withoutB d c = false := by simp [withoutB, hm, k, l]
          have X := Lib.hid (show contraB c d = true by simp [contraB, h1, h2, hm, k, l, p, v])
          clear k l p v
          go_enter Tryd.func70, Tryd.ntmps70
          go_wp2_with fail
          with_reducible refine (meets_b hm).mono ?_
          rintro e w' ⟨rfl, y1, rfl⟩
          have hsy1 := y1.bel.size
          (try simp only [World.size_alloc, World.size_setCell, World.size_drew] at hsy1)
          go_wp2_with fail
          with_reducible refine (isWithout_b h1).mono ?_
          rintro e w' ⟨rfl, y2, rfl⟩
          have hsy2 := y2.bel.size
          (try simp only [World.size_alloc, World.size_setCell, World.size_drew] at hsy2)
          go_wp2_with fail
          with_reducible refine (isWithout_b h2).mono ?_
          rintro e w' ⟨rfl, y3, rfl⟩
          have hsy3 := y3.bel.size
          (try simp only [World.size_alloc, World.size_setCell, World.size_drew] at hsy3)
          go_wp2_with fail
          go_ret
          exact .mk (by rw [X.out]; rfl) (by (repeat (first | (with_reducible exact Below.refl _ _) | (with_reducible assumption) | (with_reducible refine Later.out _ ?_) | (with_reducible refine bel_alloc ?_ _) | (with_reducible refine bel_drew ?_) | (with_reducible refine bel_drewN ?_ _) | (with_reducible refine bel_set ?_ ?_ _) | (with_reducible refine After.out _ ?_ ?_) | (dsimp only; omega) | omega | (simp only [World.size_alloc, World.size_setCell, World.size_drew]; omega))))
      · have h1 : withoutB c d = false := by simp [withoutB, hm, k, l]
        have h2 : withoutB d c = false := by simp [withoutB, hm, k, l]
        have X := Lib.hid (show contraB c d = false by simp [contraB, h1, h2, hm, k, l, p])
        clear k l p
        go_enter Tryd.func70, Tryd.ntmps70
        go_wp2_with fail
        with_reducible refine (meets_b hm).mono ?_
        rintro e w' ⟨rfl, y1, rfl⟩
        have hsy1 := y1.bel.size
        (try simp only [World.size_alloc, World.size_setCell, World.size_drew] at hsy1)
        go_wp2_with fail
        with_reducible refine (isWithout_b h1).mono ?_
        rintro e w' ⟨rfl, y2, rfl⟩
        have hsy2 := y2.bel.size
        (try simp only [World.size_alloc, World.size_setCell, World.size_drew] at hsy2)
        go_wp2_with fail
        with_reducible refine (isWithout_b h2).mono ?_
        rintro e w' ⟨rfl, y3, rfl⟩
        have hsy3 := y3.bel.size
        (try simp only [World.size_alloc, World.size_setCell, World.size_drew] at hsy3)
        go_wp2_with fail
        go_ret
        exact .mk (by rw [X.out]; rfl) (by (repeat (first | (with_reducible exact Below.refl _ _) | (with_reducible assumption) | (with_reducible refine Later.out _ ?_) | (with_reducible refine bel_alloc ?_ _) | (with_reducible refine bel_drew ?_) | (with_reducible refine bel_drewN ?_ _) | (with_reducible refine bel_set ?_ ?_ _) | (with_reducible refine After.out _ ?_ ?_) | (dsimp only; omega) | omega | (simp only [World.size_alloc, World.size_setCell, World.size_drew]; omega))))
    · rcases sameB c.val d.place with ⟨s, s1⟩ | ⟨s, s1⟩
      · have s2 := beq_comm_toList s1
        have h1 : withoutB c d = true := by simp [withoutB, hm, k, l, s]
        have X := Lib.hid (show contraB c d = true by simp [contraB, h1, hm, k, l, s])
        clear k l s
        go_enter Tryd.func70, Tryd.ntmps70
        go_wp2_with fail
        with_reducible refine (meets_b hm).mono ?_
        rintro e w' ⟨rfl, y1, rfl⟩
        have hsy1 := y1.bel.size
        (try simp only [World.size_alloc, World.size_setCell, World.size_drew] at hsy1)
        go_wp2_with fail
        with_reducible refine (isWithout_b h1).mono ?_
        rintro e w' ⟨rfl, y2, rfl⟩
        have hsy2 := y2.bel.size
        (try simp only [World.size_alloc, World.size_setCell, World.size_drew] at hsy2)
        go_wp2_with fail
        go_ret
        exact .mk (by rw [X.out]; rfl) (by (repeat (first | (with_reducible exact Below.refl _ _) | (with_reducible assumption) | (with_reducible refine Later.out _ ?_) | (with_reducible refine bel_alloc ?_ _) | (with_reducible refine bel_drew ?_) | (with_reducible refine bel_drewN ?_ _) | (with_reducible refine bel_set ?_ ?_ _) | (with_reducible refine After.out _ ?_ ?_) | (dsimp only; omega) | omega | (simp only [World.size_alloc, World.size_setCell, World.size_drew]; omega))))
      · have s2 := beq_comm_toList s1
        have s3 := Ne.symm s
        rcases sameB c.place d.place with ⟨p, p1⟩ | ⟨p, p1⟩
        · have q1 : (c.kind == d.kind) = false := by rw [beq_eq_false_iff_ne]; omega
          have h1 : withoutB c d = false := by simp [withoutB, hm, k, l, s, s3]
          have h2 : withoutB d c = false := by simp [withoutB, hm, k, l, s, s3]
          have X := Lib.hid (show contraB c d = true by simp [contraB, h1, h2, hm, k, l, s, s3, p])
          clear k l s s3 p
          go_enter Tryd.func70, Tryd.ntmps70
          go_wp2_with fail
          with_reducible refine (meets_b hm).mono ?_
          rintro e w' ⟨rfl, y1, rfl⟩
          have hsy1 := y1.bel.size
          (try simp only [World.size_alloc, World.size_setCell, World.size_drew] at hsy1)
          go_wp2_with fail
          with_reducible refine (isWithout_b h1).mono ?_
          rintro e w' ⟨rfl, y2, rfl⟩
          have hsy2 := y2.bel.size
          (try simp only [World.size_alloc, World.size_setCell, World.size_drew] at hsy2)
          go_wp2_with fail
          with_reducible refine (isWithout_b h2).mono ?_
          rintro e w' ⟨rfl, y3, rfl⟩
          have hsy3 := y3.bel.size
          (try simp only [World.size_alloc, World.size_setCell, World.size_drew] at hsy3)
          go_wp2_with fail
          go_ret
          exact .mk (by rw [X.out]; rfl) (by (repeat (first | (with_reducible exact Below.refl _ _) | (with_reducible assumption) | (with_reducible refine Later.out _ ?_) | (with_reducible refine bel_alloc ?_ _) | (with_reducible refine bel_drew ?_) | (with_reducible refine bel_drewN ?_ _) | (with_reducible refine bel_set ?_ ?_ _) | (with_reducible refine After.out _ ?_ ?_) | (dsimp only; omega) | omega | (simp only [World.size_alloc, World.size_setCell, World.size_drew]; omega))))
        · have h1 : withoutB c d = false := by simp [withoutB, hm, k, l, s, s3]
          have h2 : withoutB d c = false := by simp [withoutB, hm, k, l, s, s3]
          have X := Lib.hid (show contraB c d = false by simp [contraB, h1, h2, hm, k, l, s, s3, p])
          clear k l s s3 p
          go_enter Tryd.func70, Tryd.ntmps70
          go_wp2_with fail
          with_reducible refine (meets_b hm).mono ?_
          rintro e w' ⟨rfl, y1, rfl⟩
          have hsy1 := y1.bel.size
          (try simp only [World.size_alloc, World.size_setCell, World.size_drew] at hsy1)
          go_wp2_with fail
          with_reducible refine (isWithout_b h1).mono ?_
          rintro e w' ⟨rfl, y2, rfl⟩
          have hsy2 := y2.bel.size
          (try simp only [World.size_alloc, World.size_setCell, World.size_drew] at hsy2)
          go_wp2_with fail
          with_reducible refine (isWithout_b h2).mono ?_
          rintro e w' ⟨rfl, y3, rfl⟩
          have hsy3 := y3.bel.size
          (try simp only [World.size_alloc, World.size_setCell, World.size_drew] at hsy3)
          go_wp2_with fail
          go_ret
          exact .mk (by rw [X.out]; rfl) (by (repeat (first | (with_reducible exact Below.refl _ _) | (with_reducible assumption) | (with_reducible refine Later.out _ ?_) | (with_reducible refine bel_alloc ?_ _) | (with_reducible refine bel_drew ?_) | (with_reducible refine bel_drewN ?_ _) | (with_reducible refine bel_set ?_ ?_ _) | (with_reducible refine After.out _ ?_ ?_) | (dsimp only; omega) | omega | (simp only [World.size_alloc, World.size_setCell, World.size_drew]; omega))))
    · rcases sameB c.place d.place with ⟨p, p1⟩ | ⟨p, p1⟩
      · have q1 : (c.kind == d.kind) = false := by rw [beq_eq_false_iff_ne]; omega
        have h1 : withoutB c d = false := by simp [withoutB, hm, k, l, la, lb, Ne.symm l, Ne.symm la, Ne.symm lb]
        have h2 : withoutB d c = false := by simp [withoutB, hm, k, l, la, lb, Ne.symm l, Ne.symm la, Ne.symm lb]
        have X := Lib.hid (show contraB c d = false by simp [contraB, h1, h2, hm, k, l, la, lb, Ne.symm l, Ne.symm la, Ne.symm lb, p])
        clear k l la lb p
        go_enter Tryd.func70, Tryd.ntmps70
        go_wp2_with fail
        with_reducible refine (meets_b hm).mono ?_
        rintro e w' ⟨rfl, y1, rfl⟩
        have hsy1 := y1.bel.size
        (try simp only [World.size_alloc, World.size_setCell, World.size_drew] at hsy1)
        go_wp2_with fail
        with_reducible refine (isWithout_b h1).mono ?_
        rintro e w' ⟨rfl, y2, rfl⟩
        have hsy2 := y2.bel.size
        (try simp only [World.size_alloc, World.size_setCell, World.size_drew] at hsy2)
        go_wp2_with fail
        with_reducible refine (isWithout_b h2).mono ?_
        rintro e w' ⟨rfl, y3, rfl⟩
        have hsy3 := y3.bel.size
        (try simp only [World.size_alloc, World.size_setCell, World.size_drew] at hsy3)
        go_wp2_with fail
        go_ret
        exact .mk (by rw [X.out]; rfl) (by (repeat (first | (with_reducible exact Below.refl _ _) | (with_reducible assumption) | (with_reducible refine Later.out _ ?_) | (with_reducible refine bel_alloc ?_ _) | (with_reducible refine bel_drew ?_) | (with_reducible refine bel_drewN ?_ _) | (with_reducible refine bel_set ?_ ?_ _) | (with_reducible refine After.out _ ?_ ?_) | (dsimp only; omega) | omega | (simp only [World.size_alloc, World.size_setCell, World.size_drew]; omega))))
      · have h1 : withoutB c d = false := by simp [withoutB, hm, k, l, la, lb, Ne.symm l, Ne.symm la, Ne.symm lb]
        have h2 : withoutB d c = false := by simp [withoutB, hm, k, l, la, lb, Ne.symm l, Ne.symm la, Ne.symm lb]
        have X := Lib.hid (show contraB c d = false by simp [contraB, h1, h2, hm, k, l, la, lb, Ne.symm l, Ne.symm la, Ne.symm lb, p])
        clear k l la lb p
        go_enter Tryd.func70, Tryd.ntmps70
        go_wp2_with fail
        with_reducible refine (meets_b hm).mono ?_
        rintro e w' ⟨rfl, y1, rfl⟩
        have hsy1 := y1.bel.size
        (try simp only [World.size_alloc, World.size_setCell, World.size_drew] at hsy1)
        go_wp2_with fail
        with_reducible refine (isWithout_b h1).mono ?_
        rintro e w' ⟨rfl, y2, rfl⟩
        have hsy2 := y2.bel.size
        (try simp only [World.size_alloc, World.size_setCell, World.size_drew] at hsy2)
        go_wp2_with fail
        with_reducible refine (isWithout_b h2).mono ?_
        rintro e w' ⟨rfl, y3, rfl⟩
        have hsy3 := y3.bel.size
        (try simp only [World.size_alloc, World.size_setCell, World.size_drew] at hsy3)
        go_wp2_with fail
        go_ret
        exact .mk (by rw [X.out]; rfl) (by (repeat (first | (with_reducible exact Below.refl _ _) | (with_reducible assumption) | (with_reducible refine Later.out _ ?_) | (with_reducible refine bel_alloc ?_ _) | (with_reducible refine bel_drew ?_) | (with_reducible refine bel_drewN ?_ _) | (with_reducible refine bel_set ?_ ?_ _) | (with_reducible refine After.out _ ?_ ?_) | (dsimp only; omega) | omega | (simp only [World.size_alloc, World.size_setCell, World.size_drew]; omega))))
  · rcases kinds4 d.kind with ⟨l, d0, d1, d3⟩ | ⟨l, d0, d1, d3⟩ | ⟨l, d0, d1, d3⟩ | ⟨⟨l, la, lb⟩, d0, d1, d3⟩
    · rcases sameB c.place d.place with ⟨p, p1⟩ | ⟨p, p1⟩
      · have q1 : (c.kind == d.kind) = false := by rw [beq_eq_false_iff_ne]; omega
        have h1 : withoutB c d = false := by simp [withoutB, hm, k, l]
        have h2 : withoutB d c = false := by simp [withoutB, hm, k, l]
        have X := Lib.hid (show contraB c d = true by simp [contraB, h1, h2, hm, k, l, p])
        clear k l p
        go_enter Tryd.func70, Tryd.ntmps70
        go_wp2_with fail
        with_reducible refine (meets_b hm).mono ?_
        rintro e w' ⟨rfl, y1, rfl⟩
        have hsy1 := y1.bel.size
        (try simp only [World.size_alloc, World.size_setCell, World.size_drew] at hsy1)
        go_wp2_with fail
        with_reducible refine (isWithout_b h1).mono ?_
        rintro e w' ⟨rfl, y2, rfl⟩
        have hsy2 := y2.bel.size
        (try simp only [World.size_alloc, World.size_setCell, World.size_drew] at hsy2)
        go_wp2_with fail
        with_reducible refine (isWithout_b h2).mono ?_
        rintro e w' ⟨rfl, y3, rfl⟩
        have hsy3 := y3.bel.size
        (try simp only [World.size_alloc, World.size_setCell, World.size_drew] at hsy3)
        go_wp2_with fail
        go_ret
        exact .mk (by rw [X.out]; rfl) (by (repeat (first | (with_reducible exact Below.refl _ _) | (with_reducible assumption) | (with_reducible refine Later.out _ ?_) | (with_reducible refine bel_alloc ?_ _) | (with_reducible refine bel_drew ?_) | (with_reducible refine bel_drewN ?_ _) | (with_reducible refine bel_set ?_ ?_ _) | (with_reducible refine After.out _ ?_ ?_) | (dsimp only; omega) | omega | (simp only [World.size_alloc, World.size_setCell, World.size_drew]; omega))))
      · have h1 : withoutB c d = false := by simp [withoutB, hm, k, l]
        have h2 : withoutB d c = false := by simp [withoutB, hm, k, l]
        have X := Lib.hid (show contraB c d = false by simp [contraB, h1, h2, hm, k, l, p])
        clear k l p
        go_enter Tryd.func70, Tryd.ntmps70
        go_wp2_with fail
        with_reducible refine (meets_b hm).mono ?_
        rintro e w' ⟨rfl, y1, rfl⟩
        have hsy1 := y1.bel.size
        (try simp only [World.size_alloc, World.size_setCell, World.size_drew] at hsy1)
        go_wp2_with fail
        with_reducible refine (isWithout_b h1).mono ?_
        rintro e w' ⟨rfl, y2, rfl⟩
        have hsy2 := y2.bel.size
        (try simp only [World.size_alloc, World.size_setCell, World.size_drew] at hsy2)
        go_wp2_with fail
        with_reducible refine (isWithout_b h2).mono ?_
        rintro e w' ⟨rfl, y3, rfl⟩
        have hsy3 := y3.bel.size
        (try simp only [World.size_alloc, World.size_setCell, World.size_drew] at hsy3)
        go_wp2_with fail
        go_ret
        exact .mk (by rw [X.out]; rfl) (by (repeat (first | (with_reducible exact Below.refl _ _) | (with_reducible assumption) | (with_reducible refine Later.out _ ?_) | (with_reducible refine bel_alloc ?_ _) | (with_reducible refine bel_drew ?_) | (with_reducible refine bel_drewN ?_ _) | (with_reducible refine bel_set ?_ ?_ _) | (with_reducible refine After.out _ ?_ ?_) | (dsimp only; omega) | omega | (simp only [World.size_alloc, World.size_setCell, World.size_drew]; omega))))
    · rcases sameB d.val c.place with ⟨s, s1⟩ | ⟨s, s1⟩
      · have s2 := beq_comm_toList s1
        have h1 : withoutB c d = false := by simp [withoutB, hm, k, l, s]
        have h2 : withoutB d c = true := by simp [withoutB, hm, k, l, s]
        have X := Lib.hid (show contraB c d = true by simp [contraB, h1, h2, hm, k, l, s])
        clear k l s
        go_enter Tryd.func70, Tryd.ntmps70
        go_wp2_with fail
        with_reducible refine (meets_b hm).mono ?_
        rintro e w' ⟨rfl, y1, rfl⟩
        have hsy1 := y1.bel.size
        (try simp only [World.size_alloc, World.size_setCell, World.size_drew] at hsy1)
        go_wp2_with fail
        with_reducible refine (isWithout_b h1).mono ?_
        rintro e w' ⟨rfl, y2, rfl⟩
        have hsy2 := y2.bel.size
        (try simp only [World.size_alloc, World.size_setCell, World.size_drew] at hsy2)
        go_wp2_with fail
        with_reducible refine (isWithout_b h2).mono ?_
        rintro e w' ⟨rfl, y3, rfl⟩
        have hsy3 := y3.bel.size
        (try simp only [World.size_alloc, World.size_setCell, World.size_drew] at hsy3)
        go_wp2_with fail
        go_ret
        exact .mk (by rw [X.out]; rfl) (by (repeat (first | (with_reducible exact Below.refl _ _) | (with_reducible assumption) | (with_reducible refine Later.out _ ?_) | (with_reducible refine bel_alloc ?_ _) | (with_reducible refine bel_drew ?_) | (with_reducible refine bel_drewN ?_ _) | (with_reducible refine bel_set ?_ ?_ _) | (with_reducible refine After.out _ ?_ ?_) | (dsimp only; omega) | omega | (simp only [World.size_alloc, World.size_setCell, World.size_drew]; omega))))
      · have s2 := beq_comm_toList s1
        have s3 := Ne.symm s
        rcases sameB c.place d.place with ⟨p, p1⟩ | ⟨p, p1⟩
        · have q1 : (c.kind == d.kind) = false := by rw [beq_eq_false_iff_ne]; omega
          have h1 : withoutB c d = false := by simp [withoutB, hm, k, l, s, s3]
          have h2 : withoutB d c = false := by simp [withoutB, hm, k, l, s, s3]
          have X := Lib.hid (show contraB c d = true by simp [contraB, h1, h2, hm, k, l, s, s3, p])
          clear k l s s3 p
          go_enter Tryd.func70, Tryd.ntmps70
          go_wp2_with fail
          with_reducible refine (meets_b hm).mono ?_
          rintro e w' ⟨rfl, y1, rfl⟩
          have hsy1 := y1.bel.size
          (try simp only [World.size_alloc, World.size_setCell, World.size_drew] at hsy1)
          go_wp2_with fail
          with_reducible refine (isWithout_b h1).mono ?_
          rintro e w' ⟨rfl, y2, rfl⟩
          have hsy2 := y2.bel.size
          (try simp only [World.size_alloc, World.size_setCell, World.size_drew] at hsy2)
          go_wp2_with fail
          with_reducible refine (isWithout_b h2).mono ?_
          rintro e w' ⟨rfl, y3, rfl⟩
          have hsy3 := y3.bel.size
          (try simp only [World.size_alloc, World.size_setCell, World.size_drew] at hsy3)
          go_wp2_with fail
          go_ret
          exact .mk (by rw [X.out]; rfl) (by (repeat (first | (with_reducible exact Below.refl _ _) | (with_reducible assumption) | (with_reducible refine Later.out _ ?_) | (with_reducible refine bel_alloc ?_ _) | (with_reducible refine bel_drew ?_) | (with_reducible refine bel_drewN ?_ _) | (with_reducible refine bel_set ?_ ?_ _) | (with_reducible refine After.out _ ?_ ?_) | (dsimp only; omega) | omega | (simp only [World.size_alloc, World.size_setCell, World.size_drew]; omega))))
        · have h1 : withoutB c d = false := by simp [withoutB, hm, k, l, s, s3]
          have h2 : withoutB d c = false := by simp [withoutB, hm, k, l, s, s3]
          have X := Lib.hid (show contraB c d = false by simp [contraB, h1, h2, hm, k, l, s, s3, p])
          clear k l s s3 p
          go_enter Tryd.func70, Tryd.ntmps70
          go_wp2_with fail
          with_reducible refine (meets_b hm).mono ?_
          rintro e w' ⟨rfl, y1, rfl⟩
          have hsy1 := y1.bel.size
          (try simp only [World.size_alloc, World.size_setCell, World.size_drew] at hsy1)
          go_wp2_with fail
          with_reducible refine (isWithout_b h1).mono ?_
          rintro e w' ⟨rfl, y2, rfl⟩
          have hsy2 := y2.bel.size
          (try simp only [World.size_alloc, World.size_setCell, World.size_drew] at hsy2)
          go_wp2_with fail
          with_reducible refine (isWithout_b h2).mono ?_
          rintro e w' ⟨rfl, y3, rfl⟩
          have hsy3 := y3.bel.size
          (try simp only [World.size_alloc, World.size_setCell, World.size_drew] at hsy3)
          go_wp2_with fail
          go_ret
          exact .mk (by rw [X.out]; rfl) (by (repeat (first | (with_reducible exact Below.refl _ _) | (with_reducible assumption) | (with_reducible refine Later.out _ ?_) | (with_reducible refine bel_alloc ?_ _) | (with_reducible refine bel_drew ?_) | (with_reducible refine bel_drewN ?_ _) | (with_reducible refine bel_set ?_ ?_ _) | (with_reducible refine After.out _ ?_ ?_) | (dsimp only; omega) | omega | (simp only [World.size_alloc, World.size_setCell, World.size_drew]; omega))))
    · rcases sameB c.place d.place with ⟨p, p1⟩ | ⟨p, p1⟩
      · have q1 : (c.kind == d.kind) = true := by simp [k, l]
        have h1 : withoutB c d = false := by simp [withoutB, hm, k, l]
        have h2 : withoutB d c = false := by simp [withoutB, hm, k, l]
        have X := Lib.hid (show contraB c d = false by simp [contraB, h1, h2, hm, k, l, p])
        clear k l p
        go_enter Tryd.func70, Tryd.ntmps70
        go_wp2_with fail
        with_reducible refine (meets_b hm).mono ?_
        rintro e w' ⟨rfl, y1, rfl⟩
        have hsy1 := y1.bel.size
        (try simp only [World.size_alloc, World.size_setCell, World.size_drew] at hsy1)
        go_wp2_with fail
        with_reducible refine (isWithout_b h1).mono ?_
        rintro e w' ⟨rfl, y2, rfl⟩
        have hsy2 := y2.bel.size
        (try simp only [World.size_alloc, World.size_setCell, World.size_drew] at hsy2)
        go_wp2_with fail
        with_reducible refine (isWithout_b h2).mono ?_
        rintro e w' ⟨rfl, y3, rfl⟩
        have hsy3 := y3.bel.size
        (try simp only [World.size_alloc, World.size_setCell, World.size_drew] at hsy3)
        go_wp2_with fail
        go_ret
        exact .mk (by rw [X.out]; rfl) (by (repeat (first | (with_reducible exact Below.refl _ _) | (with_reducible assumption) | (with_reducible refine Later.out _ ?_) | (with_reducible refine bel_alloc ?_ _) | (with_reducible refine bel_drew ?_) | (with_reducible refine bel_drewN ?_ _) | (with_reducible refine bel_set ?_ ?_ _) | (with_reducible refine After.out _ ?_ ?_) | (dsimp only; omega) | omega | (simp only [World.size_alloc, World.size_setCell, World.size_drew]; omega))))
      · have h1 : withoutB c d = false := by simp [withoutB, hm, k, l]
        have h2 : withoutB d c = false := by simp [withoutB, hm, k, l]
        have X := Lib.hid (show contraB c d = false by simp [contraB, h1, h2, hm, k, l, p])
        clear k l p
        go_enter Tryd.func70, Tryd.ntmps70
        go_wp2_with fail
        with_reducible refine (meets_b hm).mono ?_
        rintro e w' ⟨rfl, y1, rfl⟩
        have hsy1 := y1.bel.size
        (try simp only [World.size_alloc, World.size_setCell, World.size_drew] at hsy1)
        go_wp2_with fail
        with_reducible refine (isWithout_b h1).mono ?_
        rintro e w' ⟨rfl, y2, rfl⟩
        have hsy2 := y2.bel.size
        (try simp only [World.size_alloc, World.size_setCell, World.size_drew] at hsy2)
        go_wp2_with fail
        with_reducible refine (isWithout_b h2).mono ?_
        rintro e w' ⟨rfl, y3, rfl⟩
        have hsy3 := y3.bel.size
        (try simp only [World.size_alloc, World.size_setCell, World.size_drew] at hsy3)
        go_wp2_with fail
        go_ret
        exact .mk (by rw [X.out]; rfl) (by (repeat (first | (with_reducible exact Below.refl _ _) | (with_reducible assumption) | (with_reducible refine Later.out _ ?_) | (with_reducible refine bel_alloc ?_ _) | (with_reducible refine bel_drew ?_) | (with_reducible refine bel_drewN ?_ _) | (with_reducible refine bel_set ?_ ?_ _) | (with_reducible refine After.out _ ?_ ?_) | (dsimp only; omega) | omega | (simp only [World.size_alloc, World.size_setCell, World.size_drew]; omega))))
    · rcases sameB c.place d.place with ⟨p, p1⟩ | ⟨p, p1⟩
      · have q1 : (c.kind == d.kind) = false := by rw [beq_eq_false_iff_ne]; omega
        have h1 : withoutB c d = false := by simp [withoutB, hm, k, l, la, lb, Ne.symm l, Ne.symm la, Ne.symm lb]
        have h2 : withoutB d c = false := by simp [withoutB, hm, k, l, la, lb, Ne.symm l, Ne.symm la, Ne.symm lb]
        have X := Lib.hid (show contraB c d = true by simp [contraB, h1, h2, hm, k, l, la, lb, Ne.symm l, Ne.symm la, Ne.symm lb, p])
        clear k l la lb p
        go_enter Tryd.func70, Tryd.ntmps70
        go_wp2_with fail
        with_reducible refine (meets_b hm).mono ?_
        rintro e w' ⟨rfl, y1, rfl⟩
        have hsy1 := y1.bel.size
        (try simp only [World.size_alloc, World.size_setCell, World.size_drew] at hsy1)
        go_wp2_with fail
        with_reducible refine (isWithout_b h1).mono ?_
        rintro e w' ⟨rfl, y2, rfl⟩
        have hsy2 := y2.bel.size
        (try simp only [World.size_alloc, World.size_setCell, World.size_drew] at hsy2)
        go_wp2_with fail
        with_reducible refine (isWithout_b h2).mono ?_
        rintro e w' ⟨rfl, y3, rfl⟩
        have hsy3 := y3.bel.size
        (try simp only [World.size_alloc, World.size_setCell, World.size_drew] at hsy3)
        go_wp2_with fail
        go_ret
        exact .mk (by rw [X.out]; rfl) (by (repeat (first | (with_reducible exact Below.refl _ _) | (with_reducible assumption) | (with_reducible refine Later.out _ ?_) | (with_reducible refine bel_alloc ?_ _) | (with_reducible refine bel_drew ?_) | (with_reducible refine bel_drewN ?_ _) | (with_reducible refine bel_set ?_ ?_ _) | (with_reducible refine After.out _ ?_ ?_) | (dsimp only; omega) | omega | (simp only [World.size_alloc, World.size_setCell, World.size_drew]; omega))))
      · have h1 : withoutB c d = false := by simp [withoutB, hm, k, l, la, lb, Ne.symm l, Ne.symm la, Ne.symm lb]
        have h2 : withoutB d c = false := by simp [withoutB, hm, k, l, la, lb, Ne.symm l, Ne.symm la, Ne.symm lb]
        have X := Lib.hid (show contraB c d = false by simp [contraB, h1, h2, hm, k, l, la, lb, Ne.symm l, Ne.symm la, Ne.symm lb, p])
        clear k l la lb p
        go_enter Tryd.func70, Tryd.ntmps70
        go_wp2_with fail
        with_reducible refine (meets_b hm).mono ?_
        rintro e w' ⟨rfl, y1, rfl⟩
        have hsy1 := y1.bel.size
        (try simp only [World.size_alloc, World.size_setCell, World.size_drew] at hsy1)
        go_wp2_with fail
        with_reducible refine (isWithout_b h1).mono ?_
        rintro e w' ⟨rfl, y2, rfl⟩
        have hsy2 := y2.bel.size
        (try simp only [World.size_alloc, World.size_setCell, World.size_drew] at hsy2)
        go_wp2_with fail
        with_reducible refine (isWithout_b h2).mono ?_
        rintro e w' ⟨rfl, y3, rfl⟩
        have hsy3 := y3.bel.size
        (try simp only [World.size_alloc, World.size_setCell, World.size_drew] at hsy3)
        go_wp2_with fail
        go_ret
        exact .mk (by rw [X.out]; rfl) (by (repeat (first | (with_reducible exact Below.refl _ _) | (with_reducible assumption) | (with_reducible refine Later.out _ ?_) | (with_reducible refine bel_alloc ?_ _) | (with_reducible refine bel_drew ?_) | (with_reducible refine bel_drewN ?_ _) | (with_reducible refine bel_set ?_ ?_ _) | (with_reducible refine After.out _ ?_ ?_) | (dsimp only; omega) | omega | (simp only [World.size_alloc, World.size_setCell, World.size_drew]; omega))))
  · rcases kinds4 d.kind with ⟨l, d0, d1, d3⟩ | ⟨l, d0, d1, d3⟩ | ⟨l, d0, d1, d3⟩ | ⟨⟨l, la, lb⟩, d0, d1, d3⟩
    · rcases sameB c.place d.place with ⟨p, p1⟩ | ⟨p, p1⟩
      · have q1 : (c.kind == d.kind) = false := by rw [beq_eq_false_iff_ne]; omega
        have h1 : withoutB c d = false := by simp [withoutB, hm, k, l, ka, kb]
        have h2 : withoutB d c = false := by simp [withoutB, hm, k, l, ka, kb]
        have X := Lib.hid (show contraB c d = false by simp [contraB, h1, h2, hm, k, l, ka, kb, p])
        clear k l ka kb p
        go_enter Tryd.func70, Tryd.ntmps70
        go_wp2_with fail
        with_reducible refine (meets_b hm).mono ?_
        rintro e w' ⟨rfl, y1, rfl⟩
        have hsy1 := y1.bel.size
        (try simp only [World.size_alloc, World.size_setCell, World.size_drew] at hsy1)
        go_wp2_with fail
        with_reducible refine (isWithout_b h1).mono ?_
        rintro e w' ⟨rfl, y2, rfl⟩
        have hsy2 := y2.bel.size
        (try simp only [World.size_alloc, World.size_setCell, World.size_drew] at hsy2)
        go_wp2_with fail
        with_reducible refine (isWithout_b h2).mono ?_
        rintro e w' ⟨rfl, y3, rfl⟩
        have hsy3 := y3.bel.size
        (try simp only [World.size_alloc, World.size_setCell, World.size_drew] at hsy3)
        go_wp2_with fail
        go_ret
        exact .mk (by rw [X.out]; rfl) (by (repeat (first | (with_reducible exact Below.refl _ _) | (with_reducible assumption) | (with_reducible refine Later.out _ ?_) | (with_reducible refine bel_alloc ?_ _) | (with_reducible refine bel_drew ?_) | (with_reducible refine bel_drewN ?_ _) | (with_reducible refine bel_set ?_ ?_ _) | (with_reducible refine After.out _ ?_ ?_) | (dsimp only; omega) | omega | (simp only [World.size_alloc, World.size_setCell, World.size_drew]; omega))))
      · have h1 : withoutB c d = false := by simp [withoutB, hm, k, l, ka, kb]
        have h2 : withoutB d c = false := by simp [withoutB, hm, k, l, ka, kb]
        have X := Lib.hid (show contraB c d = false by simp [contraB, h1, h2, hm, k, l, ka, kb, p])
        clear k l ka kb p
        go_enter Tryd.func70, Tryd.ntmps70
        go_wp2_with fail
        with_reducible refine (meets_b hm).mono ?_
        rintro e w' ⟨rfl, y1, rfl⟩
        have hsy1 := y1.bel.size
        (try simp only [World.size_alloc, World.size_setCell, World.size_drew] at hsy1)
        go_wp2_with fail
        with_reducible refine (isWithout_b h1).mono ?_
        rintro e w' ⟨rfl, y2, rfl⟩
        have hsy2 := y2.bel.size
        (try simp only [World.size_alloc, World.size_setCell, World.size_drew] at hsy2)
        go_wp2_with fail
        with_reducible refine (isWithout_b h2).mono ?_
        rintro e w' ⟨rfl, y3, rfl⟩
        have hsy3 := y3.bel.size
        (try simp only [World.size_alloc, World.size_setCell, World.size_drew] at hsy3)
        go_wp2_with fail
        go_ret
        exact .mk (by rw [X.out]; rfl) (by (repeat (first | (with_reducible exact Below.refl _ _) | (with_reducible assumption) | (with_reducible refine Later.out _ ?_) | (with_reducible refine bel_alloc ?_ _) | (with_reducible refine bel_drew ?_) | (with_reducible refine bel_drewN ?_ _) | (with_reducible refine bel_set ?_ ?_ _) | (with_reducible refine After.out _ ?_ ?_) | (dsimp only; omega) | omega | (simp only [World.size_alloc, World.size_setCell, World.size_drew]; omega))))
    · rcases sameB c.place d.place with ⟨p, p1⟩ | ⟨p, p1⟩
      · have q1 : (c.kind == d.kind) = false := by rw [beq_eq_false_iff_ne]; omega
        have h1 : withoutB c d = false := by simp [withoutB, hm, k, l, ka, kb]
        have h2 : withoutB d c = false := by simp [withoutB, hm, k, l, ka, kb]
        have X := Lib.hid (show contraB c d = false by simp [contraB, h1, h2, hm, k, l, ka, kb, p])
        clear k l ka kb p
        go_enter Tryd.func70, Tryd.ntmps70
        go_wp2_with fail
        with_reducible refine (meets_b hm).mono ?_
        rintro e w' ⟨rfl, y1, rfl⟩
        have hsy1 := y1.bel.size
        (try simp only [World.size_alloc, World.size_setCell, World.size_drew] at hsy1)
        go_wp2_with fail
        with_reducible refine (isWithout_b h1).mono ?_
        rintro e w' ⟨rfl, y2, rfl⟩
        have hsy2 := y2.bel.size
        (try simp only [World.size_alloc, World.size_setCell, World.size_drew] at hsy2)
        go_wp2_with fail
        with_reducible refine (isWithout_b h2).mono ?_
        rintro e w' ⟨rfl, y3, rfl⟩
        have hsy3 := y3.bel.size
        (try simp only [World.size_alloc, World.size_setCell, World.size_drew] at hsy3)
        go_wp2_with fail
        go_ret
        exact .mk (by rw [X.out]; rfl) (by (repeat (first | (with_reducible exact Below.refl _ _) | (with_reducible assumption) | (with_reducible refine Later.out _ ?_) | (with_reducible refine bel_alloc ?_ _) | (with_reducible refine bel_drew ?_) | (with_reducible refine bel_drewN ?_ _) | (with_reducible refine bel_set ?_ ?_ _) | (with_reducible refine After.out _ ?_ ?_) | (dsimp only; omega) | omega | (simp only [World.size_alloc, World.size_setCell, World.size_drew]; omega))))
      · have h1 : withoutB c d = false := by simp [withoutB, hm, k, l, ka, kb]
        have h2 : withoutB d c = false := by simp [withoutB, hm, k, l, ka, kb]
        have X := Lib.hid (show contraB c d = false by simp [contraB, h1, h2, hm, k, l, ka, kb, p])
        clear k l ka kb p
        go_enter Tryd.func70, Tryd.ntmps70
        go_wp2_with fail
        with_reducible refine (meets_b hm).mono ?_
        rintro e w' ⟨rfl, y1, rfl⟩
        have hsy1 := y1.bel.size
        (try simp only [World.size_alloc, World.size_setCell, World.size_drew] at hsy1)
        go_wp2_with fail
        with_reducible refine (isWithout_b h1).mono ?_
        rintro e w' ⟨rfl, y2, rfl⟩
        have hsy2 := y2.bel.size
        (try simp only [World.size_alloc, World.size_setCell, World.size_drew] at hsy2)
        go_wp2_with fail
        with_reducible refine (isWithout_b h2).mono ?_
        rintro e w' ⟨rfl, y3, rfl⟩
        have hsy3 := y3.bel.size
        (try simp only [World.size_alloc, World.size_setCell, World.size_drew] at hsy3)
        go_wp2_with fail
        go_ret
        exact .mk (by rw [X.out]; rfl) (by (repeat (first | (with_reducible exact Below.refl _ _) | (with_reducible assumption) | (with_reducible refine Later.out _ ?_) | (with_reducible refine bel_alloc ?_ _) | (with_reducible refine bel_drew ?_) | (with_reducible refine bel_drewN ?_ _) | (with_reducible refine bel_set ?_ ?_ _) | (with_reducible refine After.out _ ?_ ?_) | (dsimp only; omega) | omega | (simp only [World.size_alloc, World.size_setCell, World.size_drew]; omega))))
    · rcases sameB c.place d.place with ⟨p, p1⟩ | ⟨p, p1⟩
      · have q1 : (c.kind == d.kind) = false := by rw [beq_eq_false_iff_ne]; omega
        have h1 : withoutB c d = false := by simp [withoutB, hm, k, l, ka, kb]
        have h2 : withoutB d c = false := by simp [withoutB, hm, k, l, ka, kb]
        have X := Lib.hid (show contraB c d = true by simp [contraB, h1, h2, hm, k, l, ka, kb, p])
        clear k l ka kb p
        go_enter Tryd.func70, Tryd.ntmps70
        go_wp2_with fail
        with_reducible refine (meets_b hm).mono ?_
        rintro e w' ⟨rfl, y1, rfl⟩
        have hsy1 := y1.bel.size
        (try simp only [World.size_alloc, World.size_setCell, World.size_drew] at hsy1)
        go_wp2_with fail
        with_reducible refine (isWithout_b h1).mono ?_
        rintro e w' ⟨rfl, y2, rfl⟩
        have hsy2 := y2.bel.size
        (try simp only [World.size_alloc, World.size_setCell, World.size_drew] at hsy2)
        go_wp2_with fail
        with_reducible refine (isWithout_b h2).mono ?_
        rintro e w' ⟨rfl, y3, rfl⟩
        have hsy3 := y3.bel.size
        (try simp only [World.size_alloc, World.size_setCell, World.size_drew] at hsy3)
        go_wp2_with fail
        go_ret
        exact .mk (by rw [X.out]; rfl) (by (repeat (first | (with_reducible exact Below.refl _ _) | (with_reducible assumption) | (with_reducible refine Later.out _ ?_) | (with_reducible refine bel_alloc ?_ _) | (with_reducible refine bel_drew ?_) | (with_reducible refine bel_drewN ?_ _) | (with_reducible refine bel_set ?_ ?_ _) | (with_reducible refine After.out _ ?_ ?_) | (dsimp only; omega) | omega | (simp only [World.size_alloc, World.size_setCell, World.size_drew]; omega))))
      · have h1 : withoutB c d = false := by simp [withoutB, hm, k, l, ka, kb]
        have h2 : withoutB d c = false := by simp [withoutB, hm, k, l, ka, kb]
        have X := Lib.hid (show contraB c d = false by simp [contraB, h1, h2, hm, k, l, ka, kb, p])
        clear k l ka kb p
        go_enter Tryd.func70, Tryd.ntmps70
        go_wp2_with fail
        with_reducible refine (meets_b hm).mono ?_
        rintro e w' ⟨rfl, y1, rfl⟩
        have hsy1 := y1.bel.size
        (try simp only [World.size_alloc, World.size_setCell, World.size_drew] at hsy1)
        go_wp2_with fail
        with_reducible refine (isWithout_b h1).mono ?_
        rintro e w' ⟨rfl, y2, rfl⟩
        have hsy2 := y2.bel.size
        (try simp only [World.size_alloc, World.size_setCell, World.size_drew] at hsy2)
        go_wp2_with fail
        with_reducible refine (isWithout_b h2).mono ?_
        rintro e w' ⟨rfl, y3, rfl⟩
        have hsy3 := y3.bel.size
        (try simp only [World.size_alloc, World.size_setCell, World.size_drew] at hsy3)
        go_wp2_with fail
        go_ret
        exact .mk (by rw [X.out]; rfl) (by (repeat (first | (with_reducible exact Below.refl _ _) | (with_reducible assumption) | (with_reducible refine Later.out _ ?_) | (with_reducible refine bel_alloc ?_ _) | (with_reducible refine bel_drew ?_) | (with_reducible refine bel_drewN ?_ _) | (with_reducible refine bel_set ?_ ?_ _) | (with_reducible refine After.out _ ?_ ?_) | (dsimp only; omega) | omega | (simp only [World.size_alloc, World.size_setCell, World.size_drew]; omega))))
    · rcases sameB c.place d.place with ⟨p, p1⟩ | ⟨p, p1⟩
      · by_cases q : c.kind = d.kind
        · have q1 : (c.kind == d.kind) = true := by simp [q]
          have h1 : withoutB c d = false := by simp [withoutB, hm, k, l, ka, kb, la, lb, Ne.symm l, Ne.symm la, Ne.symm lb]
          have h2 : withoutB d c = false := by simp [withoutB, hm, k, l, ka, kb, la, lb, Ne.symm l, Ne.symm la, Ne.symm lb]
          have X := Lib.hid (show contraB c d = false by simp [contraB, h1, h2, hm, k, l, ka, kb, la, lb, Ne.symm l, Ne.symm la, Ne.symm lb, p, q])
          clear k l ka kb la lb p q
          go_enter Tryd.func70, Tryd.ntmps70
          go_wp2_with fail
          with_reducible refine (meets_b hm).mono ?_
          rintro e w' ⟨rfl, y1, rfl⟩
          have hsy1 := y1.bel.size
          (try simp only [World.size_alloc, World.size_setCell, World.size_drew] at hsy1)
          go_wp2_with fail
          with_reducible refine (isWithout_b h1).mono ?_
          rintro e w' ⟨rfl, y2, rfl⟩
          have hsy2 := y2.bel.size
          (try simp only [World.size_alloc, World.size_setCell, World.size_drew] at hsy2)
          go_wp2_with fail
          with_reducible refine (isWithout_b h2).mono ?_
          rintro e w' ⟨rfl, y3, rfl⟩
          have hsy3 := y3.bel.size
          (try simp only [World.size_alloc, World.size_setCell, World.size_drew] at hsy3)
          go_wp2_with fail
          go_ret
          exact .mk (by rw [X.out]; rfl) (by (repeat (first | (with_reducible exact Below.refl _ _) | (with_reducible assumption) | (with_reducible refine Later.out _ ?_) | (with_reducible refine bel_alloc ?_ _) | (with_reducible refine bel_drew ?_) | (with_reducible refine bel_drewN ?_ _) | (with_reducible refine bel_set ?_ ?_ _) | (with_reducible refine After.out _ ?_ ?_) | (dsimp only; omega) | omega | (simp only [World.size_alloc, World.size_setCell, World.size_drew]; omega))))
        · have q1 : (c.kind == d.kind) = false := by simp [q]
          have h1 : withoutB c d = false := by simp [withoutB, hm, k, l, ka, kb, la, lb, Ne.symm l, Ne.symm la, Ne.symm lb]
          have h2 : withoutB d c = false := by simp [withoutB, hm, k, l, ka, kb, la, lb, Ne.symm l, Ne.symm la, Ne.symm lb]
          have X := Lib.hid (show contraB c d = false by simp [contraB, h1, h2, hm, k, l, ka, kb, la, lb, Ne.symm l, Ne.symm la, Ne.symm lb, p, q])
          clear k l ka kb la lb p q
          go_enter Tryd.func70, Tryd.ntmps70
          go_wp2_with fail
          with_reducible refine (meets_b hm).mono ?_
          rintro e w' ⟨rfl, y1, rfl⟩
          have hsy1 := y1.bel.size
          (try simp only [World.size_alloc, World.size_setCell, World.size_drew] at hsy1)
          go_wp2_with fail
          with_reducible refine (isWithout_b h1).mono ?_
          rintro e w' ⟨rfl, y2, rfl⟩
          have hsy2 := y2.bel.size
          (try simp only [World.size_alloc, World.size_setCell, World.size_drew] at hsy2)
          go_wp2_with fail
          with_reducible refine (isWithout_b h2).mono ?_
          rintro e w' ⟨rfl, y3, rfl⟩
          have hsy3 := y3.bel.size
          (try simp only [World.size_alloc, World.size_setCell, World.size_drew] at hsy3)
          go_wp2_with fail
          go_ret
          exact .mk (by rw [X.out]; rfl) (by (repeat (first | (with_reducible exact Below.refl _ _) | (with_reducible assumption) | (with_reducible refine Later.out _ ?_) | (with_reducible refine bel_alloc ?_ _) | (with_reducible refine bel_drew ?_) | (with_reducible refine bel_drewN ?_ _) | (with_reducible refine bel_set ?_ ?_ _) | (with_reducible refine After.out _ ?_ ?_) | (dsimp only; omega) | omega | (simp only [World.size_alloc, World.size_setCell, World.size_drew]; omega))))
      · have h1 : withoutB c d = false := by simp [withoutB, hm, k, l, ka, kb, la, lb, Ne.symm l, Ne.symm la, Ne.symm lb]
        have h2 : withoutB d c = false := by simp [withoutB, hm, k, l, ka, kb, la, lb, Ne.symm l, Ne.symm la, Ne.symm lb]
        have X := Lib.hid (show contraB c d = false by simp [contraB, h1, h2, hm, k, l, ka, kb, la, lb, Ne.symm l, Ne.symm la, Ne.symm lb, p])
        clear k l ka kb la lb p
        go_enter Tryd.func70, Tryd.ntmps70
        go_wp2_with fail
        with_reducible refine (meets_b hm).mono ?_
        rintro e w' ⟨rfl, y1, rfl⟩
        have hsy1 := y1.bel.size
        (try simp only [World.size_alloc, World.size_setCell, World.size_drew] at hsy1)
        go_wp2_with fail
        with_reducible refine (isWithout_b h1).mono ?_
        rintro e w' ⟨rfl, y2, rfl⟩
        have hsy2 := y2.bel.size
        (try simp only [World.size_alloc, World.size_setCell, World.size_drew] at hsy2)
        go_wp2_with fail
        with_reducible refine (isWithout_b h2).mono ?_
        rintro e w' ⟨rfl, y3, rfl⟩
        have hsy3 := y3.bel.size
        (try simp only [World.size_alloc, World.size_setCell, World.size_drew] at hsy3)
        go_wp2_with fail
        go_ret
        exact .mk (by rw [X.out]; rfl) (by (repeat (first | (with_reducible exact Below.refl _ _) | (with_reducible assumption) | (with_reducible refine Later.out _ ?_) | (with_reducible refine bel_alloc ?_ _) | (with_reducible refine bel_drew ?_) | (with_reducible refine bel_drewN ?_ _) | (with_reducible refine bel_set ?_ ?_ _) | (with_reducible refine After.out _ ?_ ?_) | (dsimp only; omega) | omega | (simp only [World.size_alloc, World.size_setCell, World.size_drew]; omega))))
set_option maxHeartbeats 40000000 in
theorem sContradict_any : Calls Tryd.prog 69 #[clmV c, clmV d] w (Ret w (.bool (contraB c d))) := by
  cases hm : meetsB c d
  · have X := Lib.hid (show contraB c d = false by simp [contraB, hm])
    go_enter Tryd.func69, Tryd.ntmps69
    go_wp2_with fail
    with_reducible refine (sMeets_b hm).mono ?_
    rintro e w' ⟨rfl, y1, rfl⟩
    have hsy1 := y1.bel.size
    (try simp only [World.size_alloc, World.size_setCell, World.size_drew] at hsy1)
    go_wp2_with fail
    go_ret
    exact .mk (by rw [X.out]; rfl) (by (repeat (first | (with_reducible exact Below.refl _ _) | (with_reducible assumption) | (with_reducible refine Later.out _ ?_) | (with_reducible refine bel_alloc ?_ _) | (with_reducible refine bel_drew ?_) | (with_reducible refine bel_drewN ?_ _) | (with_reducible refine bel_set ?_ ?_ _) | (with_reducible refine After.out _ ?_ ?_) | (dsimp only; omega) | omega | (simp only [World.size_alloc, World.size_setCell, World.size_drew]; omega))))
  rcases kinds4 c.kind with ⟨k, c0, c1, c3⟩ | ⟨k, c0, c1, c3⟩ | ⟨k, c0, c1, c3⟩ | ⟨⟨k, ka, kb⟩, c0, c1, c3⟩
  · rcases kinds4 d.kind with ⟨l, d0, d1, d3⟩ | ⟨l, d0, d1, d3⟩ | ⟨l, d0, d1, d3⟩ | ⟨⟨l, la, lb⟩, d0, d1, d3⟩
    · rcases sameB c.place d.place with ⟨p, p1⟩ | ⟨p, p1⟩
      · have q1 : (c.kind == d.kind) = true := by simp [k, l]
        rcases sameB c.val d.val with ⟨v, v1⟩ | ⟨v, v1⟩
        · have h1 : withoutB c d = false := by simp [withoutB, hm, k, l]
          have h2 : withoutB d c = false := by simp [withoutB, hm, k, l]
          have X := Lib.hid (show contraB c d = false by simp [contraB, h1, h2, hm, k, l, p, v])
          clear k l p v h1 h2
          go_enter Tryd.func69, Tryd.ntmps69
          go_wp2_with fail
          with_reducible refine (sMeets_b hm).mono ?_
          rintro e w' ⟨rfl, y1, rfl⟩
          have hsy1 := y1.bel.size
          (try simp only [World.size_alloc, World.size_setCell, World.size_drew] at hsy1)
          go_wp2_with fail
          go_ret
          exact .mk (by rw [X.out]; rfl) (by (repeat (first | (with_reducible exact Below.refl _ _) | (with_reducible assumption) | (with_reducible refine Later.out _ ?_) | (with_reducible refine bel_alloc ?_ _) | (with_reducible refine bel_drew ?_) | (with_reducible refine bel_drewN ?_ _) | (with_reducible refine bel_set ?_ ?_ _) | (with_reducible refine After.out _ ?_ ?_) | (dsimp only; omega) | omega | (simp only [World.size_alloc, World.size_setCell, World.size_drew]; omega))))
        · have h1 : withoutB c d = false := by simp [withoutB, hm, k, l]
          have h2 : withoutB d c = false := by simp [withoutB, hm, k, l]
          have X := Lib.hid (show contraB c d = true by simp [contraB, h1, h2, hm, k, l, p, v])
          clear k l p v h1 h2
          go_enter Tryd.func69, Tryd.ntmps69
          go_wp2_with fail
          with_reducible refine (sMeets_b hm).mono ?_
          rintro e w' ⟨rfl, y1, rfl⟩
          have hsy1 := y1.bel.size
          (try simp only [World.size_alloc, World.size_setCell, World.size_drew] at hsy1)
          go_wp2_with fail
          go_ret
          exact .mk (by rw [X.out]; rfl) (by (repeat (first | (with_reducible exact Below.refl _ _) | (with_reducible assumption) | (with_reducible refine Later.out _ ?_) | (with_reducible refine bel_alloc ?_ _) | (with_reducible refine bel_drew ?_) | (with_reducible refine bel_drewN ?_ _) | (with_reducible refine bel_set ?_ ?_ _) | (with_reducible refine After.out _ ?_ ?_) | (dsimp only; omega) | omega | (simp only [World.size_alloc, World.size_setCell, World.size_drew]; omega))))
      · have h1 : withoutB c d = false := by simp [withoutB, hm, k, l]
        have h2 : withoutB d c = false := by simp [withoutB, hm, k, l]
        have X := Lib.hid (show contraB c d = false by simp [contraB, h1, h2, hm, k, l, p])
        clear k l p h1 h2
        go_enter Tryd.func69, Tryd.ntmps69
        go_wp2_with fail
        with_reducible refine (sMeets_b hm).mono ?_
        rintro e w' ⟨rfl, y1, rfl⟩
        have hsy1 := y1.bel.size
        (try simp only [World.size_alloc, World.size_setCell, World.size_drew] at hsy1)
        go_wp2_with fail
        go_ret
        exact .mk (by rw [X.out]; rfl) (by (repeat (first | (with_reducible exact Below.refl _ _) | (with_reducible assumption) | (with_reducible refine Later.out _ ?_) | (with_reducible refine bel_alloc ?_ _) | (with_reducible refine bel_drew ?_) | (with_reducible refine bel_drewN ?_ _) | (with_reducible refine bel_set ?_ ?_ _) | (with_reducible refine After.out _ ?_ ?_) | (dsimp only; omega) | omega | (simp only [World.size_alloc, World.size_setCell, World.size_drew]; omega))))
    · rcases sameB c.place d.place with ⟨p, p1⟩ | ⟨p, p1⟩
      · have q1 : (c.kind == d.kind) = false := by simp [k, l]
        have h1 : withoutB c d = false := by simp [withoutB, hm, k, l]
        have h2 : withoutB d c = false := by simp [withoutB, hm, k, l]
        have X := Lib.hid (show contraB c d = false by simp [contraB, h1, h2, hm, k, l, p])
        clear k l p h1 h2
        go_enter Tryd.func69, Tryd.ntmps69
        go_wp2_with fail
        with_reducible refine (sMeets_b hm).mono ?_
        rintro e w' ⟨rfl, y1, rfl⟩
        have hsy1 := y1.bel.size
        (try simp only [World.size_alloc, World.size_setCell, World.size_drew] at hsy1)
        go_wp2_with fail
        go_ret
        exact .mk (by rw [X.out]; rfl) (by (repeat (first | (with_reducible exact Below.refl _ _) | (with_reducible assumption) | (with_reducible refine Later.out _ ?_) | (with_reducible refine bel_alloc ?_ _) | (with_reducible refine bel_drew ?_) | (with_reducible refine bel_drewN ?_ _) | (with_reducible refine bel_set ?_ ?_ _) | (with_reducible refine After.out _ ?_ ?_) | (dsimp only; omega) | omega | (simp only [World.size_alloc, World.size_setCell, World.size_drew]; omega))))
      · have h1 : withoutB c d = false := by simp [withoutB, hm, k, l]
        have h2 : withoutB d c = false := by simp [withoutB, hm, k, l]
        have X := Lib.hid (show contraB c d = false by simp [contraB, h1, h2, hm, k, l, p])
        clear k l p h1 h2
        go_enter Tryd.func69, Tryd.ntmps69
        go_wp2_with fail
        with_reducible refine (sMeets_b hm).mono ?_
        rintro e w' ⟨rfl, y1, rfl⟩
        have hsy1 := y1.bel.size
        (try simp only [World.size_alloc, World.size_setCell, World.size_drew] at hsy1)
        go_wp2_with fail
        go_ret
        exact .mk (by rw [X.out]; rfl) (by (repeat (first | (with_reducible exact Below.refl _ _) | (with_reducible assumption) | (with_reducible refine Later.out _ ?_) | (with_reducible refine bel_alloc ?_ _) | (with_reducible refine bel_drew ?_) | (with_reducible refine bel_drewN ?_ _) | (with_reducible refine bel_set ?_ ?_ _) | (with_reducible refine After.out _ ?_ ?_) | (dsimp only; omega) | omega | (simp only [World.size_alloc, World.size_setCell, World.size_drew]; omega))))
    · rcases sameB c.place d.place with ⟨p, p1⟩ | ⟨p, p1⟩
      · have q1 : (c.kind == d.kind) = false := by rw [beq_eq_false_iff_ne]; omega
        have h1 : withoutB c d = false := by simp [withoutB, hm, k, l]
        have h2 : withoutB d c = false := by simp [withoutB, hm, k, l]
        have X := Lib.hid (show contraB c d = true by simp [contraB, h1, h2, hm, k, l, p])
        clear k l p h1 h2
        go_enter Tryd.func69, Tryd.ntmps69
        go_wp2_with fail
        with_reducible refine (sMeets_b hm).mono ?_
        rintro e w' ⟨rfl, y1, rfl⟩
        have hsy1 := y1.bel.size
        (try simp only [World.size_alloc, World.size_setCell, World.size_drew] at hsy1)
        go_wp2_with fail
        go_ret
        exact .mk (by rw [X.out]; rfl) (by (repeat (first | (with_reducible exact Below.refl _ _) | (with_reducible assumption) | (with_reducible refine Later.out _ ?_) | (with_reducible refine bel_alloc ?_ _) | (with_reducible refine bel_drew ?_) | (with_reducible refine bel_drewN ?_ _) | (with_reducible refine bel_set ?_ ?_ _) | (with_reducible refine After.out _ ?_ ?_) | (dsimp only; omega) | omega | (simp only [World.size_alloc, World.size_setCell, World.size_drew]; omega))))
      · have h1 : withoutB c d = false := by simp [withoutB, hm, k, l]
        have h2 : withoutB d c = false := by simp [withoutB, hm, k, l]
        have X := Lib.hid (show contraB c d = false by simp [contraB, h1, h2, hm, k, l, p])
        clear k l p h1 h2
        go_enter Tryd.func69, Tryd.ntmps69
        go_wp2_with fail
        with_reducible refine (sMeets_b hm).mono ?_
        rintro e w' ⟨rfl, y1, rfl⟩
        have hsy1 := y1.bel.size
        (try simp only [World.size_alloc, World.size_setCell, World.size_drew] at hsy1)
        go_wp2_with fail
        go_ret
        exact .mk (by rw [X.out]; rfl) (by (repeat (first | (with_reducible exact Below.refl _ _) | (with_reducible assumption) | (with_reducible refine Later.out _ ?_) | (with_reducible refine bel_alloc ?_ _) | (with_reducible refine bel_drew ?_) | (with_reducible refine bel_drewN ?_ _) | (with_reducible refine bel_set ?_ ?_ _) | (with_reducible refine After.out _ ?_ ?_) | (dsimp only; omega) | omega | (simp only [World.size_alloc, World.size_setCell, World.size_drew]; omega))))
    · rcases sameB c.place d.place with ⟨p, p1⟩ | ⟨p, p1⟩
      · have q1 : (c.kind == d.kind) = false := by rw [beq_eq_false_iff_ne]; omega
        have h1 : withoutB c d = false := by simp [withoutB, hm, k, l, la, lb, Ne.symm l, Ne.symm la, Ne.symm lb]
        have h2 : withoutB d c = false := by simp [withoutB, hm, k, l, la, lb, Ne.symm l, Ne.symm la, Ne.symm lb]
        have X := Lib.hid (show contraB c d = false by simp [contraB, h1, h2, hm, k, l, la, lb, Ne.symm l, Ne.symm la, Ne.symm lb, p])
        clear k l la lb p h1 h2
        go_enter Tryd.func69, Tryd.ntmps69
        go_wp2_with fail
        with_reducible refine (sMeets_b hm).mono ?_
        rintro e w' ⟨rfl, y1, rfl⟩
        have hsy1 := y1.bel.size
        (try simp only [World.size_alloc, World.size_setCell, World.size_drew] at hsy1)
        go_wp2_with fail
        go_ret
        exact .mk (by rw [X.out]; rfl) (by (repeat (first | (with_reducible exact Below.refl _ _) | (with_reducible assumption) | (with_reducible refine Later.out _ ?_) | (with_reducible refine bel_alloc ?_ _) | (with_reducible refine bel_drew ?_) | (with_reducible refine bel_drewN ?_ _) | (with_reducible refine bel_set ?_ ?_ _) | (with_reducible refine After.out _ ?_ ?_) | (dsimp only; omega) | omega | (simp only [World.size_alloc, World.size_setCell, World.size_drew]; omega))))
      · have h1 : withoutB c d = false := by simp [withoutB, hm, k, l, la, lb, Ne.symm l, Ne.symm la, Ne.symm lb]
        have h2 : withoutB d c = false := by simp [withoutB, hm, k, l, la, lb, Ne.symm l, Ne.symm la, Ne.symm lb]
        have X := Lib.hid (show contraB c d = false by simp [contraB, h1, h2, hm, k, l, la, lb, Ne.symm l, Ne.symm la, Ne.symm lb, p])
        clear k l la lb p h1 h2
        go_enter Tryd.func69, Tryd.ntmps69
        go_wp2_with fail
        with_reducible refine (sMeets_b hm).mono ?_
        rintro e w' ⟨rfl, y1, rfl⟩
        have hsy1 := y1.bel.size
        (try simp only [World.size_alloc, World.size_setCell, World.size_drew] at hsy1)
        go_wp2_with fail
        go_ret
        exact .mk (by rw [X.out]; rfl) (by (repeat (first | (with_reducible exact Below.refl _ _) | (with_reducible assumption) | (with_reducible refine Later.out _ ?_) | (with_reducible refine bel_alloc ?_ _) | (with_reducible refine bel_drew ?_) | (with_reducible refine bel_drewN ?_ _) | (with_reducible refine bel_set ?_ ?_ _) | (with_reducible refine After.out _ ?_ ?_) | (dsimp only; omega) | omega | (simp only [World.size_alloc, World.size_setCell, World.size_drew]; omega))))
  · rcases kinds4 d.kind with ⟨l, d0, d1, d3⟩ | ⟨l, d0, d1, d3⟩ | ⟨l, d0, d1, d3⟩ | ⟨⟨l, la, lb⟩, d0, d1, d3⟩
    · rcases sameB c.place d.place with ⟨p, p1⟩ | ⟨p, p1⟩
      · have q1 : (c.kind == d.kind) = false := by simp [k, l]
        have h1 : withoutB c d = false := by simp [withoutB, hm, k, l]
        have h2 : withoutB d c = false := by simp [withoutB, hm, k, l]
        have X := Lib.hid (show contraB c d = false by simp [contraB, h1, h2, hm, k, l, p])
        clear k l p h1 h2
        go_enter Tryd.func69, Tryd.ntmps69
        go_wp2_with fail
        with_reducible refine (sMeets_b hm).mono ?_
        rintro e w' ⟨rfl, y1, rfl⟩
        have hsy1 := y1.bel.size
        (try simp only [World.size_alloc, World.size_setCell, World.size_drew] at hsy1)
        go_wp2_with fail
        go_ret
        exact .mk (by rw [X.out]; rfl) (by (repeat (first | (with_reducible exact Below.refl _ _) | (with_reducible assumption) | (with_reducible refine Later.out _ ?_) | (with_reducible refine bel_alloc ?_ _) | (with_reducible refine bel_drew ?_) | (with_reducible refine bel_drewN ?_ _) | (with_reducible refine bel_set ?_ ?_ _) | (with_reducible refine After.out _ ?_ ?_) | (dsimp only; omega) | omega | (simp only [World.size_alloc, World.size_setCell, World.size_drew]; omega))))
      · have h1 : withoutB c d = false := by simp [withoutB, hm, k, l]
        have h2 : withoutB d c = false := by simp [withoutB, hm, k, l]
        have X := Lib.hid (show contraB c d = false by simp [contraB, h1, h2, hm, k, l, p])
        clear k l p h1 h2
        go_enter Tryd.func69, Tryd.ntmps69
        go_wp2_with fail
        with_reducible refine (sMeets_b hm).mono ?_
        rintro e w' ⟨rfl, y1, rfl⟩
        have hsy1 := y1.bel.size
        (try simp only [World.size_alloc, World.size_setCell, World.size_drew] at hsy1)
        go_wp2_with fail
        go_ret
        exact .mk (by rw [X.out]; rfl) (by (repeat (first | (with_reducible exact Below.refl _ _) | (with_reducible assumption) | (with_reducible refine Later.out _ ?_) | (with_reducible refine bel_alloc ?_ _) | (with_reducible refine bel_drew ?_) | (with_reducible refine bel_drewN ?_ _) | (with_reducible refine bel_set ?_ ?_ _) | (with_reducible refine After.out _ ?_ ?_) | (dsimp only; omega) | omega | (simp only [World.size_alloc, World.size_setCell, World.size_drew]; omega))))
    · rcases sameB c.place d.place with ⟨p, p1⟩ | ⟨p, p1⟩
      · have q1 : (c.kind == d.kind) = true := by simp [k, l]
        rcases sameB c.val d.val with ⟨v, v1⟩ | ⟨v, v1⟩
        · have h1 : withoutB c d = false := by simp [withoutB, hm, k, l]
          have h2 : withoutB d c = false := by simp [withoutB, hm, k, l]
          have X := Lib.hid (show contraB c d = false by simp [contraB, h1, h2, hm, k, l, p, v])
          clear k l p v h1 h2
          go_enter Tryd.func69, Tryd.ntmps69
          go_wp2_with fail
          with_reducible refine (sMeets_b hm).mono ?_
          rintro e w' ⟨rfl, y1, rfl⟩
          have hsy1 := y1.bel.size
          (try simp only [World.size_alloc, World.size_setCell, World.size_drew] at hsy1)
          go_wp2_with fail
          go_ret
          exact .mk (by rw [X.out]; rfl) (by (repeat (first | (with_reducible exact Below.refl _ _) | (with_reducible assumption) | (with_reducible refine Later.out _ ?_) | (with_reducible refine bel_alloc ?_ _) | (with_reducible refine bel_drew ?_) | (with_reducible refine bel_drewN ?_ _) | (with_reducible refine bel_set ?_ ?_ _) | (with_reducible refine After.out _ ?_ ?_) | (dsimp only; omega) | omega | (simp only [World.size_alloc, World.size_setCell, World.size_drew]; omega))))
        · have h1 : withoutB c d = false := by simp [withoutB, hm, k, l]
          have h2 : withoutB d c = false := by simp [withoutB, hm, k, l]
          have X := Lib.hid (show contraB c d = true by simp [contraB, h1, h2, hm, k, l, p, v])
          clear k l p v h1 h2
          go_enter Tryd.func69, Tryd.ntmps69
          go_wp2_with fail
          with_reducible refine (sMeets_b hm).mono ?_
          rintro e w' ⟨rfl, y1, rfl⟩
          have hsy1 := y1.bel.size
          (try simp only [World.size_alloc, World.size_setCell, World.size_drew] at hsy1)
          go_wp2_with fail
          go_ret
          exact .mk (by rw [X.out]; rfl) (by (repeat (first | (with_reducible exact Below.refl _ _) | (with_reducible assumption) | (with_reducible refine Later.out _ ?_) | (with_reducible refine bel_alloc ?_ _) | (with_reducible refine bel_drew ?_) | (with_reducible refine bel_drewN ?_ _) | (with_reducible refine bel_set ?_ ?_ _) | (with_reducible refine After.out _ ?_ ?_) | (dsimp only; omega) | omega | (simp only [World.size_alloc, World.size_setCell, World.size_drew]; omega))))
      · have h1 : withoutB c d = false := by simp [withoutB, hm, k, l]
        have h2 : withoutB d c = false := by simp [withoutB, hm, k, l]
        have X := Lib.hid (show contraB c d = false by simp [contraB, h1, h2, hm, k, l, p])
        clear k l p h1 h2
        go_enter Tryd.func69, Tryd.ntmps69
        go_wp2_with fail
        with_reducible refine (sMeets_b hm).mono ?_
        rintro e w' ⟨rfl, y1, rfl⟩
        have hsy1 := y1.bel.size
        (try simp only [World.size_alloc, World.size_setCell, World.size_drew] at hsy1)
        go_wp2_with fail
        go_ret
        exact .mk (by rw [X.out]; rfl) (by (repeat (first | (with_reducible exact Below.refl _ _) | (with_reducible assumption) | (with_reducible refine Later.out _ ?_) | (with_reducible refine bel_alloc ?_ _) | (with_reducible refine bel_drew ?_) | (with_reducible refine bel_drewN ?_ _) | (with_reducible refine bel_set ?_ ?_ _) | (with_reducible refine After.out _ ?_ ?_) | (dsimp only; omega) | omega | (simp only [World.size_alloc, World.size_setCell, World.size_drew]; omega))))
    · rcases sameB c.val d.place with ⟨s, s1⟩ | ⟨s, s1⟩
      · have s2 := beq_comm_toList s1
        have h1 : withoutB c d = true := by simp [withoutB, hm, k, l, s]
        have X := Lib.hid (show contraB c d = true by simp [contraB, h1, hm, k, l, s])
        clear k l s h1
        go_enter Tryd.func69, Tryd.ntmps69
        go_wp2_with fail
        with_reducible refine (sMeets_b hm).mono ?_
        rintro e w' ⟨rfl, y1, rfl⟩
        have hsy1 := y1.bel.size
        (try simp only [World.size_alloc, World.size_setCell, World.size_drew] at hsy1)
        go_wp2_with fail
        go_ret
        exact .mk (by rw [X.out]; rfl) (by (repeat (first | (with_reducible exact Below.refl _ _) | (with_reducible assumption) | (with_reducible refine Later.out _ ?_) | (with_reducible refine bel_alloc ?_ _) | (with_reducible refine bel_drew ?_) | (with_reducible refine bel_drewN ?_ _) | (with_reducible refine bel_set ?_ ?_ _) | (with_reducible refine After.out _ ?_ ?_) | (dsimp only; omega) | omega | (simp only [World.size_alloc, World.size_setCell, World.size_drew]; omega))))
      · have s2 := beq_comm_toList s1
        have s3 := Ne.symm s
        rcases sameB c.place d.place with ⟨p, p1⟩ | ⟨p, p1⟩
        · have q1 : (c.kind == d.kind) = false := by rw [beq_eq_false_iff_ne]; omega
          have h1 : withoutB c d = false := by simp [withoutB, hm, k, l, s, s3]
          have h2 : withoutB d c = false := by simp [withoutB, hm, k, l, s, s3]
          have X := Lib.hid (show contraB c d = true by simp [contraB, h1, h2, hm, k, l, s, s3, p])
          clear k l s s3 p h1 h2
          go_enter Tryd.func69, Tryd.ntmps69
          go_wp2_with fail
          with_reducible refine (sMeets_b hm).mono ?_
          rintro e w' ⟨rfl, y1, rfl⟩
          have hsy1 := y1.bel.size
          (try simp only [World.size_alloc, World.size_setCell, World.size_drew] at hsy1)
          go_wp2_with fail
          go_ret
          exact .mk (by rw [X.out]; rfl) (by (repeat (first | (with_reducible exact Below.refl _ _) | (with_reducible assumption) | (with_reducible refine Later.out _ ?_) | (with_reducible refine bel_alloc ?_ _) | (with_reducible refine bel_drew ?_) | (with_reducible refine bel_drewN ?_ _) | (with_reducible refine bel_set ?_ ?_ _) | (with_reducible refine After.out _ ?_ ?_) | (dsimp only; omega) | omega | (simp only [World.size_alloc, World.size_setCell, World.size_drew]; omega))))
        · have h1 : withoutB c d = false := by simp [withoutB, hm, k, l, s, s3]
          have h2 : withoutB d c = false := by simp [withoutB, hm, k, l, s, s3]
          have X := Lib.hid (show contraB c d = false by simp [contraB, h1, h2, hm, k, l, s, s3, p])
          clear k l s s3 p h1 h2
          go_enter Tryd.func69, Tryd.ntmps69
          go_wp2_with fail
          with_reducible refine (sMeets_b hm).mono ?_
          rintro e w' ⟨rfl, y1, rfl⟩
          have hsy1 := y1.bel.size
          (try simp only [World.size_alloc, World.size_setCell, World.size_drew] at hsy1)
          go_wp2_with fail
          go_ret
          exact .mk (by rw [X.out]; rfl) (by (repeat (first | (with_reducible exact Below.refl _ _) | (with_reducible assumption) | (with_reducible refine Later.out _ ?_) | (with_reducible refine bel_alloc ?_ _) | (with_reducible refine bel_drew ?_) | (with_reducible refine bel_drewN ?_ _) | (with_reducible refine bel_set ?_ ?_ _) | (with_reducible refine After.out _ ?_ ?_) | (dsimp only; omega) | omega | (simp only [World.size_alloc, World.size_setCell, World.size_drew]; omega))))
    · rcases sameB c.place d.place with ⟨p, p1⟩ | ⟨p, p1⟩
      · have q1 : (c.kind == d.kind) = false := by rw [beq_eq_false_iff_ne]; omega
        have h1 : withoutB c d = false := by simp [withoutB, hm, k, l, la, lb, Ne.symm l, Ne.symm la, Ne.symm lb]
        have h2 : withoutB d c = false := by simp [withoutB, hm, k, l, la, lb, Ne.symm l, Ne.symm la, Ne.symm lb]
        have X := Lib.hid (show contraB c d = false by simp [contraB, h1, h2, hm, k, l, la, lb, Ne.symm l, Ne.symm la, Ne.symm lb, p])
        clear k l la lb p h1 h2
        go_enter Tryd.func69, Tryd.ntmps69
        go_wp2_with fail
        with_reducible refine (sMeets_b hm).mono ?_
        rintro e w' ⟨rfl, y1, rfl⟩
        have hsy1 := y1.bel.size
        (try simp only [World.size_alloc, World.size_setCell, World.size_drew] at hsy1)
        go_wp2_with fail
        go_ret
        exact .mk (by rw [X.out]; rfl) (by (repeat (first | (with_reducible exact Below.refl _ _) | (with_reducible assumption) | (with_reducible refine Later.out _ ?_) | (with_reducible refine bel_alloc ?_ _) | (with_reducible refine bel_drew ?_) | (with_reducible refine bel_drewN ?_ _) | (with_reducible refine bel_set ?_ ?_ _) | (with_reducible refine After.out _ ?_ ?_) | (dsimp only; omega) | omega | (simp only [World.size_alloc, World.size_setCell, World.size_drew]; omega))))
      · have h1 : withoutB c d = false := by simp [withoutB, hm, k, l, la, lb, Ne.symm l, Ne.symm la, Ne.symm lb]
        have h2 : withoutB d c = false := by simp [withoutB, hm, k, l, la, lb, Ne.symm l, Ne.symm la, Ne.symm lb]
        have X := Lib.hid (show contraB c d = false by simp [contraB, h1, h2, hm, k, l, la, lb, Ne.symm l, Ne.symm la, Ne.symm lb, p])
        clear k l la lb p h1 h2
        go_enter Tryd.func69, Tryd.ntmps69
        go_wp2_with fail
        with_reducible refine (sMeets_b hm).mono ?_
        rintro e w' ⟨rfl, y1, rfl⟩
        have hsy1 := y1.bel.size
        (try simp only [World.size_alloc, World.size_setCell, World.size_drew] at hsy1)
        go_wp2_with fail
        go_ret
        exact .mk (by rw [X.out]; rfl) (by (repeat (first | (with_reducible exact Below.refl _ _) | (with_reducible assumption) | (with_reducible refine Later.out _ ?_) | (with_reducible refine bel_alloc ?_ _) | (with_reducible refine bel_drew ?_) | (with_reducible refine bel_drewN ?_ _) | (with_reducible refine bel_set ?_ ?_ _) | (with_reducible refine After.out _ ?_ ?_) | (dsimp only; omega) | omega | (simp only [World.size_alloc, World.size_setCell, World.size_drew]; omega))))
  · rcases kinds4 d.kind with ⟨l, d0, d1, d3⟩ | ⟨l, d0, d1, d3⟩ | ⟨l, d0, d1, d3⟩ | ⟨⟨l, la, lb⟩, d0, d1, d3⟩
    · rcases sameB c.place d.place with ⟨p, p1⟩ | ⟨p, p1⟩
      · have q1 : (c.kind == d.kind) = false := by rw [beq_eq_false_iff_ne]; omega
        have h1 : withoutB c d = false := by simp [withoutB, hm, k, l]
        have h2 : withoutB d c = false := by simp [withoutB, hm, k, l]
        have X := Lib.hid (show contraB c d = true by simp [contraB, h1, h2, hm, k, l, p])
        clear k l p h1 h2
        go_enter Tryd.func69, Tryd.ntmps69
        go_wp2_with fail
        with_reducible refine (sMeets_b hm).mono ?_
        rintro e w' ⟨rfl, y1, rfl⟩
        have hsy1 := y1.bel.size
        (try simp only [World.size_alloc, World.size_setCell, World.size_drew] at hsy1)
        go_wp2_with fail
        go_ret
        exact .mk (by rw [X.out]; rfl) (by (repeat (first | (with_reducible exact Below.refl _ _) | (with_reducible assumption) | (with_reducible refine Later.out _ ?_) | (with_reducible refine bel_alloc ?_ _) | (with_reducible refine bel_drew ?_) | (with_reducible refine bel_drewN ?_ _) | (with_reducible refine bel_set ?_ ?_ _) | (with_reducible refine After.out _ ?_ ?_) | (dsimp only; omega) | omega | (simp only [World.size_alloc, World.size_setCell, World.size_drew]; omega))))
      · have h1 : withoutB c d = false := by simp [withoutB, hm, k, l]
        have h2 : withoutB d c = false := by simp [withoutB, hm, k, l]
        have X := Lib.hid (show contraB c d = false by simp [contraB, h1, h2, hm, k, l, p])
        clear k l p h1 h2
        go_enter Tryd.func69, Tryd.ntmps69
        go_wp2_with fail
        with_reducible refine (sMeets_b hm).mono ?_
        rintro e w' ⟨rfl, y1, rfl⟩
        have hsy1 := y1.bel.size
        (try simp only [World.size_alloc, World.size_setCell, World.size_drew] at hsy1)
        go_wp2_with fail
        go_ret
        exact .mk (by rw [X.out]; rfl) (by (repeat (first | (with_reducible exact Below.refl _ _) | (with_reducible assumption) | (with_reducible refine Later.out _ ?_) | (with_reducible refine bel_alloc ?_ _) | (with_reducible refine bel_drew ?_) | (with_reducible refine bel_drewN ?_ _) | (with_reducible refine bel_set ?_ ?_ _) | (with_reducible refine After.out _ ?_ ?_) | (dsimp only; omega) | omega | (simp only [World.size_alloc, World.size_setCell, World.size_drew]; omega))))
    · rcases sameB d.val c.place with ⟨s, s1⟩ | ⟨s, s1⟩
      · have s2 := beq_comm_toList s1
        have h1 : withoutB c d = false := by simp [withoutB, hm, k, l, s]
        have h2 : withoutB d c = true := by simp [withoutB, hm, k, l, s]
        have X := Lib.hid (show contraB c d = true by simp [contraB, h1, h2, hm, k, l, s])
        clear k l s h1 h2
        go_enter Tryd.func69, Tryd.ntmps69
        go_wp2_with fail
        with_reducible refine (sMeets_b hm).mono ?_
        rintro e w' ⟨rfl, y1, rfl⟩
        have hsy1 := y1.bel.size
        (try simp only [World.size_alloc, World.size_setCell, World.size_drew] at hsy1)
        go_wp2_with fail
        go_ret
        exact .mk (by rw [X.out]; rfl) (by (repeat (first | (with_reducible exact Below.refl _ _) | (with_reducible assumption) | (with_reducible refine Later.out _ ?_) | (with_reducible refine bel_alloc ?_ _) | (with_reducible refine bel_drew ?_) | (with_reducible refine bel_drewN ?_ _) | (with_reducible refine bel_set ?_ ?_ _) | (with_reducible refine After.out _ ?_ ?_) | (dsimp only; omega) | omega | (simp only [World.size_alloc, World.size_setCell, World.size_drew]; omega))))
      · have s2 := beq_comm_toList s1
        have s3 := Ne.symm s
        rcases sameB c.place d.place with ⟨p, p1⟩ | ⟨p, p1⟩
        · have q1 : (c.kind == d.kind) = false := by rw [beq_eq_false_iff_ne]; omega
          have h1 : withoutB c d = false := by simp [withoutB, hm, k, l, s, s3]
          have h2 : withoutB d c = false := by simp [withoutB, hm, k, l, s, s3]
          have X := Lib.hid (show contraB c d = true by simp [contraB, h1, h2, hm, k, l, s, s3, p])
          clear k l s s3 p h1 h2
          go_enter Tryd.func69, Tryd.ntmps69
          go_wp2_with fail
          with_reducible refine (sMeets_b hm).mono ?_
          rintro e w' ⟨rfl, y1, rfl⟩
          have hsy1 := y1.bel.size
          (try simp only [World.size_alloc, World.size_setCell, World.size_drew] at hsy1)
          go_wp2_with fail
          go_ret
          exact .mk (by rw [X.out]; rfl) (by (repeat (first | (with_reducible exact Below.refl _ _) | (with_reducible assumption) | (with_reducible refine Later.out _ ?_) | (with_reducible refine bel_alloc ?_ _) | (with_reducible refine bel_drew ?_) | (with_reducible refine bel_drewN ?_ _) | (with_reducible refine bel_set ?_ ?_ _) | (with_reducible refine After.out _ ?_ ?_) | (dsimp only; omega) | omega | (simp only [World.size_alloc, World.size_setCell, World.size_drew]; omega))))
        · have h1 : withoutB c d = false := by simp [withoutB, hm, k, l, s, s3]
          have h2 : withoutB d c = false := by simp [withoutB, hm, k, l, s, s3]
          have X := Lib.hid (show contraB c d = false by simp [contraB, h1, h2, hm, k, l, s, s3, p])
          clear k l s s3 p h1 h2
          go_enter Tryd.func69, Tryd.ntmps69
          go_wp2_with fail
          with_reducible refine (sMeets_b hm).mono ?_
          rintro e w' ⟨rfl, y1, rfl⟩
          have hsy1 := y1.bel.size
          (try simp only [World.size_alloc, World.size_setCell, World.size_drew] at hsy1)
          go_wp2_with fail
          go_ret
          exact .mk (by rw [X.out]; rfl) (by (repeat (first | (with_reducible exact Below.refl _ _) | (with_reducible assumption) | (with_reducible refine Later.out _ ?_) | (with_reducible refine bel_alloc ?_ _) | (with_reducible refine bel_drew ?_) | (with_reducible refine bel_drewN ?_ _) | (with_reducible refine bel_set ?_ ?_ _) | (with_reducible refine After.out _ ?_ ?_) | (dsimp only; omega) | omega | (simp only [World.size_alloc, World.size_setCell, World.size_drew]; omega))))
    · rcases sameB c.place d.place with ⟨p, p1⟩ | ⟨p, p1⟩
      · have q1 : (c.kind == d.kind) = true := by simp [k, l]
        have h1 : withoutB c d = false := by simp [withoutB, hm, k, l]
        have h2 : withoutB d c = false := by simp [withoutB, hm, k, l]
        have X := Lib.hid (show contraB c d = false by simp [contraB, h1, h2, hm, k, l, p])
        clear k l p h1 h2
        go_enter Tryd.func69, Tryd.ntmps69
        go_wp2_with fail
        with_reducible refine (sMeets_b hm).mono ?_
        rintro e w' ⟨rfl, y1, rfl⟩
        have hsy1 := y1.bel.size
        (try simp only [World.size_alloc, World.size_setCell, World.size_drew] at hsy1)
        go_wp2_with fail
        go_ret
        exact .mk (by rw [X.out]; rfl) (by (repeat (first | (with_reducible exact Below.refl _ _) | (with_reducible assumption) | (with_reducible refine Later.out _ ?_) | (with_reducible refine bel_alloc ?_ _) | (with_reducible refine bel_drew ?_) | (with_reducible refine bel_drewN ?_ _) | (with_reducible refine bel_set ?_ ?_ _) | (with_reducible refine After.out _ ?_ ?_) | (dsimp only; omega) | omega | (simp only [World.size_alloc, World.size_setCell, World.size_drew]; omega))))
      · have h1 : withoutB c d = false := by simp [withoutB, hm, k, l]
        have h2 : withoutB d c = false := by simp [withoutB, hm, k, l]
        have X := Lib.hid (show contraB c d = false by simp [contraB, h1, h2, hm, k, l, p])
        clear k l p h1 h2
        go_enter Tryd.func69, Tryd.ntmps69
        go_wp2_with fail
        with_reducible refine (sMeets_b hm).mono ?_
        rintro e w' ⟨rfl, y1, rfl⟩
        have hsy1 := y1.bel.size
        (try simp only [World.size_alloc, World.size_setCell, World.size_drew] at hsy1)
        go_wp2_with fail
        go_ret
        exact .mk (by rw [X.out]; rfl) (by (repeat (first | (with_reducible exact Below.refl _ _) | (with_reducible assumption) | (with_reducible refine Later.out _ ?_) | (with_reducible refine bel_alloc ?_ _) | (with_reducible refine bel_drew ?_) | (with_reducible refine bel_drewN ?_ _) | (with_reducible refine bel_set ?_ ?_ _) | (with_reducible refine After.out _ ?_ ?_) | (dsimp only; omega) | omega | (simp only [World.size_alloc, World.size_setCell, World.size_drew]; omega))))
    · rcases sameB c.place d.place with ⟨p, p1⟩ | ⟨p, p1⟩
      · have q1 : (c.kind == d.kind) = false := by rw [beq_eq_false_iff_ne]; omega
        have h1 : withoutB c d = false := by simp [withoutB, hm, k, l, la, lb, Ne.symm l, Ne.symm la, Ne.symm lb]
        have h2 : withoutB d c = false := by simp [withoutB, hm, k, l, la, lb, Ne.symm l, Ne.symm la, Ne.symm lb]
        have X := Lib.hid (show contraB c d = true by simp [contraB, h1, h2, hm, k, l, la, lb, Ne.symm l, Ne.symm la, Ne.symm lb, p])
        clear k l la lb p h1 h2
        go_enter Tryd.func69, Tryd.ntmps69
        go_wp2_with fail
        with_reducible refine (sMeets_b hm).mono ?_
        rintro e w' ⟨rfl, y1, rfl⟩
        have hsy1 := y1.bel.size
        (try simp only [World.size_alloc, World.size_setCell, World.size_drew] at hsy1)
        go_wp2_with fail
        go_ret
        exact .mk (by rw [X.out]; rfl) (by (repeat (first | (with_reducible exact Below.refl _ _) | (with_reducible assumption) | (with_reducible refine Later.out _ ?_) | (with_reducible refine bel_alloc ?_ _) | (with_reducible refine bel_drew ?_) | (with_reducible refine bel_drewN ?_ _) | (with_reducible refine bel_set ?_ ?_ _) | (with_reducible refine After.out _ ?_ ?_) | (dsimp only; omega) | omega | (simp only [World.size_alloc, World.size_setCell, World.size_drew]; omega))))
      · have h1 : withoutB c d = false := by simp [withoutB, hm, k, l, la, lb, Ne.symm l, Ne.symm la, Ne.symm lb]
        have h2 : withoutB d c = false := by simp [withoutB, hm, k, l, la, lb, Ne.symm l, Ne.symm la, Ne.symm lb]
        have X := Lib.hid (show contraB c d = false by simp [contraB, h1, h2, hm, k, l, la, lb, Ne.symm l, Ne.symm la, Ne.symm lb, p])
        clear k l la lb p h1 h2
        go_enter Tryd.func69, Tryd.ntmps69
        go_wp2_with fail
        with_reducible refine (sMeets_b hm).mono ?_
        rintro e w' ⟨rfl, y1, rfl⟩
        have hsy1 := y1.bel.size
        (try simp only [World.size_alloc, World.size_setCell, World.size_drew] at hsy1)
        go_wp2_with fail
        go_ret
        exact .mk (by rw [X.out]; rfl) (by (repeat (first | (with_reducible exact Below.refl _ _) | (with_reducible assumption) | (with_reducible refine Later.out _ ?_) | (with_reducible refine bel_alloc ?_ _) | (with_reducible refine bel_drew ?_) | (with_reducible refine bel_drewN ?_ _) | (with_reducible refine bel_set ?_ ?_ _) | (with_reducible refine After.out _ ?_ ?_) | (dsimp only; omega) | omega | (simp only [World.size_alloc, World.size_setCell, World.size_drew]; omega))))
  · rcases kinds4 d.kind with ⟨l, d0, d1, d3⟩ | ⟨l, d0, d1, d3⟩ | ⟨l, d0, d1, d3⟩ | ⟨⟨l, la, lb⟩, d0, d1, d3⟩
    · rcases sameB c.place d.place with ⟨p, p1⟩ | ⟨p, p1⟩
      · have q1 : (c.kind == d.kind) = false := by rw [beq_eq_false_iff_ne]; omega
        have h1 : withoutB c d = false := by simp [withoutB, hm, k, l, ka, kb]
        have h2 : withoutB d c = false := by simp [withoutB, hm, k, l, ka, kb]
        have X := Lib.hid (show contraB c d = false by simp [contraB, h1, h2, hm, k, l, ka, kb, p])
        clear k l ka kb p h1 h2
        go_enter Tryd.func69, Tryd.ntmps69
        go_wp2_with fail
        with_reducible refine (sMeets_b hm).mono ?_
        rintro e w' ⟨rfl, y1, rfl⟩
        have hsy1 := y1.bel.size
        (try simp only [World.size_alloc, World.size_setCell, World.size_drew] at hsy1)
        go_wp2_with fail
        go_ret
        exact .mk (by rw [X.out]; rfl) (by (repeat (first | (with_reducible exact Below.refl _ _) | (with_reducible assumption) | (with_reducible refine Later.out _ ?_) | (with_reducible refine bel_alloc ?_ _) | (with_reducible refine bel_drew ?_) | (with_reducible refine bel_drewN ?_ _) | (with_reducible refine bel_set ?_ ?_ _) | (with_reducible refine After.out _ ?_ ?_) | (dsimp only; omega) | omega | (simp only [World.size_alloc, World.size_setCell, World.size_drew]; omega))))
      · have h1 : withoutB c d = false := by simp [withoutB, hm, k, l, ka, kb]
        have h2 : withoutB d c = false := by simp [withoutB, hm, k, l, ka, kb]
        have X := Lib.hid (show contraB c d = false by simp [contraB, h1, h2, hm, k, l, ka, kb, p])
        clear k l ka kb p h1 h2
        go_enter Tryd.func69, Tryd.ntmps69
        go_wp2_with fail
        with_reducible refine (sMeets_b hm).mono ?_
        rintro e w' ⟨rfl, y1, rfl⟩
        have hsy1 := y1.bel.size
        (try simp only [World.size_alloc, World.size_setCell, World.size_drew] at hsy1)
        go_wp2_with fail
        go_ret
        exact .mk (by rw [X.out]; rfl) (by (repeat (first | (with_reducible exact Below.refl _ _) | (with_reducible assumption) | (with_reducible refine Later.out _ ?_) | (with_reducible refine bel_alloc ?_ _) | (with_reducible refine bel_drew ?_) | (with_reducible refine bel_drewN ?_ _) | (with_reducible refine bel_set ?_ ?_ _) | (with_reducible refine After.out _ ?_ ?_) | (dsimp only; omega) | omega | (simp only [World.size_alloc, World.size_setCell, World.size_drew]; omega))))
    · rcases sameB c.place d.place with ⟨p, p1⟩ | ⟨p, p1⟩
      · have q1 : (c.kind == d.kind) = false := by rw [beq_eq_false_iff_ne]; omega
        have h1 : withoutB c d = false := by simp [withoutB, hm, k, l, ka, kb]
        have h2 : withoutB d c = false := by simp [withoutB, hm, k, l, ka, kb]
        have X := Lib.hid (show contraB c d = false by simp [contraB, h1, h2, hm, k, l, ka, kb, p])
        clear k l ka kb p h1 h2
        go_enter Tryd.func69, Tryd.ntmps69
        go_wp2_with fail
        with_reducible refine (sMeets_b hm).mono ?_
        rintro e w' ⟨rfl, y1, rfl⟩
        have hsy1 := y1.bel.size
        (try simp only [World.size_alloc, World.size_setCell, World.size_drew] at hsy1)
        go_wp2_with fail
        go_ret
        exact .mk (by rw [X.out]; rfl) (by (repeat (first | (with_reducible exact Below.refl _ _) | (with_reducible assumption) | (with_reducible refine Later.out _ ?_) | (with_reducible refine bel_alloc ?_ _) | (with_reducible refine bel_drew ?_) | (with_reducible refine bel_drewN ?_ _) | (with_reducible refine bel_set ?_ ?_ _) | (with_reducible refine After.out _ ?_ ?_) | (dsimp only; omega) | omega | (simp only [World.size_alloc, World.size_setCell, World.size_drew]; omega))))
      · have h1 : withoutB c d = false := by simp [withoutB, hm, k, l, ka, kb]
        have h2 : withoutB d c = false := by simp [withoutB, hm, k, l, ka, kb]
        have X := Lib.hid (show contraB c d = false by simp [contraB, h1, h2, hm, k, l, ka, kb, p])
        clear k l ka kb p h1 h2
        go_enter Tryd.func69, Tryd.ntmps69
        go_wp2_with fail
        with_reducible refine (sMeets_b hm).mono ?_
        rintro e w' ⟨rfl, y1, rfl⟩
        have hsy1 := y1.bel.size
        (try simp only [World.size_alloc, World.size_setCell, World.size_drew] at hsy1)
        go_wp2_with fail
        go_ret
        exact .mk (by rw [X.out]; rfl) (by (repeat (first | (with_reducible exact Below.refl _ _) | (with_reducible assumption) | (with_reducible refine Later.out _ ?_) | (with_reducible refine bel_alloc ?_ _) | (with_reducible refine bel_drew ?_) | (with_reducible refine bel_drewN ?_ _) | (with_reducible refine bel_set ?_ ?_ _) | (with_reducible refine After.out _ ?_ ?_) | (dsimp only; omega) | omega | (simp only [World.size_alloc, World.size_setCell, World.size_drew]; omega))))
    · rcases sameB c.place d.place with ⟨p, p1⟩ | ⟨p, p1⟩
      · have q1 : (c.kind == d.kind) = false := by rw [beq_eq_false_iff_ne]; omega
        have h1 : withoutB c d = false := by simp [withoutB, hm, k, l, ka, kb]
        have h2 : withoutB d c = false := by simp [withoutB, hm, k, l, ka, kb]
        have X := Lib.hid (show contraB c d = true by simp [contraB, h1, h2, hm, k, l, ka, kb, p])
        clear k l ka kb p h1 h2
        go_enter Tryd.func69, Tryd.ntmps69
        go_wp2_with fail
        with_reducible refine (sMeets_b hm).mono ?_
        rintro e w' ⟨rfl, y1, rfl⟩
        have hsy1 := y1.bel.size
        (try simp only [World.size_alloc, World.size_setCell, World.size_drew] at hsy1)
        go_wp2_with fail
        go_ret
        exact .mk (by rw [X.out]; rfl) (by (repeat (first | (with_reducible exact Below.refl _ _) | (with_reducible assumption) | (with_reducible refine Later.out _ ?_) | (with_reducible refine bel_alloc ?_ _) | (with_reducible refine bel_drew ?_) | (with_reducible refine bel_drewN ?_ _) | (with_reducible refine bel_set ?_ ?_ _) | (with_reducible refine After.out _ ?_ ?_) | (dsimp only; omega) | omega | (simp only [World.size_alloc, World.size_setCell, World.size_drew]; omega))))
      · have h1 : withoutB c d = false := by simp [withoutB, hm, k, l, ka, kb]
        have h2 : withoutB d c = false := by simp [withoutB, hm, k, l, ka, kb]
        have X := Lib.hid (show contraB c d = false by simp [contraB, h1, h2, hm, k, l, ka, kb, p])
        clear k l ka kb p h1 h2
        go_enter Tryd.func69, Tryd.ntmps69
        go_wp2_with fail
        with_reducible refine (sMeets_b hm).mono ?_
        rintro e w' ⟨rfl, y1, rfl⟩
        have hsy1 := y1.bel.size
        (try simp only [World.size_alloc, World.size_setCell, World.size_drew] at hsy1)
        go_wp2_with fail
        go_ret
        exact .mk (by rw [X.out]; rfl) (by (repeat (first | (with_reducible exact Below.refl _ _) | (with_reducible assumption) | (with_reducible refine Later.out _ ?_) | (with_reducible refine bel_alloc ?_ _) | (with_reducible refine bel_drew ?_) | (with_reducible refine bel_drewN ?_ _) | (with_reducible refine bel_set ?_ ?_ _) | (with_reducible refine After.out _ ?_ ?_) | (dsimp only; omega) | omega | (simp only [World.size_alloc, World.size_setCell, World.size_drew]; omega))))
    · rcases sameB c.place d.place with ⟨p, p1⟩ | ⟨p, p1⟩
      · by_cases q : c.kind = d.kind
        · have q1 : (c.kind == d.kind) = true := by simp [q]
          have h1 : withoutB c d = false := by simp [withoutB, hm, k, l, ka, kb, la, lb, Ne.symm l, Ne.symm la, Ne.symm lb]
          have h2 : withoutB d c = false := by simp [withoutB, hm, k, l, ka, kb, la, lb, Ne.symm l, Ne.symm la, Ne.symm lb]
          have X := Lib.hid (show contraB c d = false by simp [contraB, h1, h2, hm, k, l, ka, kb, la, lb, Ne.symm l, Ne.symm la, Ne.symm lb, p, q])
          clear k l ka kb la lb p q h1 h2
          go_enter Tryd.func69, Tryd.ntmps69
          go_wp2_with fail
          with_reducible refine (sMeets_b hm).mono ?_
          rintro e w' ⟨rfl, y1, rfl⟩
          have hsy1 := y1.bel.size
          (try simp only [World.size_alloc, World.size_setCell, World.size_drew] at hsy1)
          go_wp2_with fail
          go_ret
          exact .mk (by rw [X.out]; rfl) (by (repeat (first | (with_reducible exact Below.refl _ _) | (with_reducible assumption) | (with_reducible refine Later.out _ ?_) | (with_reducible refine bel_alloc ?_ _) | (with_reducible refine bel_drew ?_) | (with_reducible refine bel_drewN ?_ _) | (with_reducible refine bel_set ?_ ?_ _) | (with_reducible refine After.out _ ?_ ?_) | (dsimp only; omega) | omega | (simp only [World.size_alloc, World.size_setCell, World.size_drew]; omega))))
        · have q1 : (c.kind == d.kind) = false := by simp [q]
          have h1 : withoutB c d = false := by simp [withoutB, hm, k, l, ka, kb, la, lb, Ne.symm l, Ne.symm la, Ne.symm lb]
          have h2 : withoutB d c = false := by simp [withoutB, hm, k, l, ka, kb, la, lb, Ne.symm l, Ne.symm la, Ne.symm lb]
          have X := Lib.hid (show contraB c d = false by simp [contraB, h1, h2, hm, k, l, ka, kb, la, lb, Ne.symm l, Ne.symm la, Ne.symm lb, p, q])
          clear k l ka kb la lb p q h1 h2
          go_enter Tryd.func69, Tryd.ntmps69
          go_wp2_with fail
          with_reducible refine (sMeets_b hm).mono ?_
          rintro e w' ⟨rfl, y1, rfl⟩
          have hsy1 := y1.bel.size
          (try simp only [World.size_alloc, World.size_setCell, World.size_drew] at hsy1)
          go_wp2_with fail
          go_ret
          exact .mk (by rw [X.out]; rfl) (by (repeat (first | (with_reducible exact Below.refl _ _) | (with_reducible assumption) | (with_reducible refine Later.out _ ?_) | (with_reducible refine bel_alloc ?_ _) | (with_reducible refine bel_drew ?_) | (with_reducible refine bel_drewN ?_ _) | (with_reducible refine bel_set ?_ ?_ _) | (with_reducible refine After.out _ ?_ ?_) | (dsimp only; omega) | omega | (simp only [World.size_alloc, World.size_setCell, World.size_drew]; omega))))
      · have h1 : withoutB c d = false := by simp [withoutB, hm, k, l, ka, kb, la, lb, Ne.symm l, Ne.symm la, Ne.symm lb]
        have h2 : withoutB d c = false := by simp [withoutB, hm, k, l, ka, kb, la, lb, Ne.symm l, Ne.symm la, Ne.symm lb]
        have X := Lib.hid (show contraB c d = false by simp [contraB, h1, h2, hm, k, l, ka, kb, la, lb, Ne.symm l, Ne.symm la, Ne.symm lb, p])
        clear k l ka kb la lb p h1 h2
        go_enter Tryd.func69, Tryd.ntmps69
        go_wp2_with fail
        with_reducible refine (sMeets_b hm).mono ?_
        rintro e w' ⟨rfl, y1, rfl⟩
        have hsy1 := y1.bel.size
        (try simp only [World.size_alloc, World.size_setCell, World.size_drew] at hsy1)
        go_wp2_with fail
        go_ret
        exact .mk (by rw [X.out]; rfl) (by (repeat (first | (with_reducible exact Below.refl _ _) | (with_reducible assumption) | (with_reducible refine Later.out _ ?_) | (with_reducible refine bel_alloc ?_ _) | (with_reducible refine bel_drew ?_) | (with_reducible refine bel_drewN ?_ _) | (with_reducible refine bel_set ?_ ?_ _) | (with_reducible refine After.out _ ?_ ?_) | (dsimp only; omega) | omega | (simp only [World.size_alloc, World.size_setCell, World.size_drew]; omega))))
theorem contradicts_b {c d w} {b : Bool} (h : contraB c d = b) : Calls Tryd.prog 70 #[clmV c, clmV d] w (Ret w (.bool b)) := by subst h; exact contradicts_any _ _ _
theorem sContradict_b {c d w} {b : Bool} (h : contraB c d = b) : Calls Tryd.prog 69 #[clmV c, clmV d] w (Ret w (.bool b)) := by subst h; exact sContradict_any _ _ _
end
end Go.Proofs.YtiiekgmdbadalaaDoor

import Derived.Test.YtkkhjbdnpobpnaaIn
/- The first contracts over masks: bounds, points, masks, copies of a mask and their comparison. -/
set_option linter.unusedSimpArgs false
set_option linter.unusedVariables false
namespace Go.Proofs.Ytkkhjbdnpobpnaa
open Go.RowKit

def isPointB (x y : Int) : Bool := inB x (-1000) 1000 && inB y (-1000) 1000
def isMaskB (x y W H : Int) (n : Nat) : Bool := inB W 1 24 && inB H 1 24 && isPointB x y && isPointB (x + W - 1) (y + H - 1) && ((n : Int) == W * H)
theorem isPointB_iff {x y : Int} : isPointB x y = true ↔ -1000 ≤ x ∧ x ≤ 1000 ∧ -1000 ≤ y ∧ y ≤ 1000 := by simp [isPointB, inB_iff]; omega

set_option maxHeartbeats 400000 in
theorem isPoint_any (x y : Int) (w : World) :
    Calls Try.prog 22 #[.agg #[.int .i64 x, .int .i64 y]] w (Ret w (.bool (isPointB x y))) := by
  have H' := Lib.hid (show isPointB x y = (inB x (-1000) 1000 && inB y (-1000) 1000) from rfl)
  rcases h1 : inB x (-1000) 1000 with _ | _
  all_goals
    go_enter Try.func22, Try.ntmps22
    go_wp2_with (go_at_call 43; refine (within_any _ _ _ _).mono ?_; rintro e w' ⟨rfl, x, rfl⟩)
    go_ret
    refine .mk (by simp [H'.out, h1]) ?_
    (repeat (first | (with_reducible exact Below.refl _ _) | (with_reducible assumption) | (with_reducible refine Later.out _ ?_) | (with_reducible refine bel_alloc ?_ _) | (with_reducible refine bel_drew ?_) | (with_reducible refine bel_drewN ?_ _) | (with_reducible refine bel_set ?_ ?_ _) | (with_reducible refine After.out _ ?_ ?_) | (dsimp only; omega) | omega | (simp only [World.size_alloc, World.size_setCell, World.size_drew]; omega)))
theorem isPoint_b {x y : Int} {b : Bool} (w : World) (h : isPointB x y = b) : Calls Try.prog 22 #[.agg #[.int .i64 x, .int .i64 y]] w (Ret w (.bool b)) := by
  subst h; exact isPoint_any _ _ _
set_option maxHeartbeats 400000 in
theorem sIsPoint_any (x y : Int) (w : World) :
    Calls Try.prog 26 #[.agg #[.int .i64 x, .int .i64 y]] w (Ret w (.bool (isPointB x y))) := by
  have H' := Lib.hid (show isPointB x y = (inB x (-1000) 1000 && inB y (-1000) 1000) from rfl)
  rcases h1 : inB x (-1000) 1000 with _ | _
  all_goals
    go_enter Try.func26, Try.ntmps26
    go_wp2_with (go_at_call 47; refine (l01In_any _ _ _ _).mono ?_; rintro e w' ⟨rfl, x, rfl⟩)
    go_ret
    refine .mk (by simp [H'.out, h1]) ?_
    (repeat (first | (with_reducible exact Below.refl _ _) | (with_reducible assumption) | (with_reducible refine Later.out _ ?_) | (with_reducible refine bel_alloc ?_ _) | (with_reducible refine bel_drew ?_) | (with_reducible refine bel_drewN ?_ _) | (with_reducible refine bel_set ?_ ?_ _) | (with_reducible refine After.out _ ?_ ?_) | (dsimp only; omega) | omega | (simp only [World.size_alloc, World.size_setCell, World.size_drew]; omega)))
theorem sIsPoint_b {x y : Int} {b : Bool} (w : World) (h : isPointB x y = b) : Calls Try.prog 26 #[.agg #[.int .i64 x, .int .i64 y]] w (Ret w (.bool b)) := by
  subst h; exact sIsPoint_any _ _ _

theorem lengthB_any (a : Option Addr) (n c : Nat) (w : World) : Calls Try.prog 44 #[.slice a n c] w (Ret w (.int .i64 n)) := by
  go_enter Try.func44, Try.ntmps44
  go_wp2
  go_ret
  exact .mk rfl (Below.refl _ _)

section
variable (x y W H : Int) (a : Option Addr) (n c : Nat) (w : World)
theorem isMaskB_0 (h1 : inB W 1 24 = false) : isMaskB x y W H n = false := by simp [isMaskB, h1]
theorem isMaskB_1 (h1 : inB H 1 24 = false) : isMaskB x y W H n = false := by simp [isMaskB, h1]
theorem isMaskB_2 (h1 : isPointB x y = false) : isMaskB x y W H n = false := by simp [isMaskB, h1]
theorem isMaskB_3 (h1 : isPointB (x + W - 1) (y + H - 1) = false) : isMaskB x y W H n = false := by simp [isMaskB, h1]
theorem isMaskB_4 (h1 : inB W 1 24 = true) (h2 : inB H 1 24 = true) (h3 : isPointB x y = true) (h4 : isPointB (x + W - 1) (y + H - 1) = true) : isMaskB x y W H n = ((n : Int) == W * H) := by simp [isMaskB, h1, h2, h3, h4]
theorem area_bd {W H : Int} (h1 : inB W 1 24 = true) (h2 : inB H 1 24 = true) : 1 ≤ W * H ∧ W * H ≤ 576 := by
  obtain ⟨l1, l2⟩ := inB_iff.1 h1
  obtain ⟨l3, l4⟩ := inB_iff.1 h2
  exact ⟨by have := Int.mul_le_mul l1 l3 (by omega) (by omega); omega, Int.mul_le_mul l2 l4 (by omega) (by omega)⟩

set_option maxHeartbeats 400000 in
theorem isMask_any : Calls Try.prog 21 #[.agg #[.int .i64 x, .int .i64 y, .int .i64 W, .int .i64 H, .slice a n c]] w (Ret w (.bool (isMaskB x y W H n))) := by
  cases h1 : inB W 1 24
  · have X := Lib.hid (isMaskB_0 x y W H n h1)
    go_enter Try.func21, Try.ntmps21
    go_wp2_with fail
    refine wp_region_later (by kernel_rfl) (by kernel_rfl) ?_
    repeat (go_big_quiet_step ((first | (go_at_call 43; exact Calls.later (within_b _ h1)))))
    refine wpQuiet_nil ?_
    rintro _ ⟨xq, rfl⟩
    go_wp2
    go_ret
    refine .mk (by rw [X.out]; rfl) ?_
    (repeat (first | (with_reducible exact Below.refl _ _) | (with_reducible assumption) | (with_reducible refine Later.out _ ?_) | (with_reducible refine bel_alloc ?_ _) | (with_reducible refine bel_drew ?_) | (with_reducible refine bel_drewN ?_ _) | (with_reducible refine bel_set ?_ ?_ _) | (with_reducible refine After.out _ ?_ ?_) | (dsimp only; omega) | omega | (simp only [World.size_alloc, World.size_setCell, World.size_drew]; omega)))
  obtain ⟨l1, l2⟩ := inB_iff.1 h1
  cases h2 : inB H 1 24
  · have X := Lib.hid (isMaskB_1 x y W H n h2)
    go_enter Try.func21, Try.ntmps21
    go_wp2_with fail
    refine wp_region_later (by kernel_rfl) (by kernel_rfl) ?_
    repeat (go_big_quiet_step ((first | (go_at_call 43; first | with_reducible exact Calls.later (within_b _ h1) | with_reducible exact Calls.later (within_b _ h2)))))
    refine wpQuiet_nil ?_
    rintro _ ⟨xq, rfl⟩
    go_wp2
    go_ret
    refine .mk (by rw [X.out]; rfl) ?_
    (repeat (first | (with_reducible exact Below.refl _ _) | (with_reducible assumption) | (with_reducible refine Later.out _ ?_) | (with_reducible refine bel_alloc ?_ _) | (with_reducible refine bel_drew ?_) | (with_reducible refine bel_drewN ?_ _) | (with_reducible refine bel_set ?_ ?_ _) | (with_reducible refine After.out _ ?_ ?_) | (dsimp only; omega) | omega | (simp only [World.size_alloc, World.size_setCell, World.size_drew]; omega)))
  obtain ⟨l3, l4⟩ := inB_iff.1 h2
  cases h3 : isPointB x y
  · have X := Lib.hid (isMaskB_2 x y W H n h3)
    go_enter Try.func21, Try.ntmps21
    go_wp2_with fail
    refine wp_region_later (by kernel_rfl) (by kernel_rfl) ?_
    repeat (go_big_quiet_step ((first | (go_at_call 43; first | with_reducible exact Calls.later (within_b _ h1) | with_reducible exact Calls.later (within_b _ h2)) | (go_at_call 22; exact Calls.later (isPoint_b _ h3)))))
    refine wpQuiet_nil ?_
    rintro _ ⟨xq, rfl⟩
    go_wp2
    go_ret
    refine .mk (by rw [X.out]; rfl) ?_
    (repeat (first | (with_reducible exact Below.refl _ _) | (with_reducible assumption) | (with_reducible refine Later.out _ ?_) | (with_reducible refine bel_alloc ?_ _) | (with_reducible refine bel_drew ?_) | (with_reducible refine bel_drewN ?_ _) | (with_reducible refine bel_set ?_ ?_ _) | (with_reducible refine After.out _ ?_ ?_) | (dsimp only; omega) | omega | (simp only [World.size_alloc, World.size_setCell, World.size_drew]; omega)))
  obtain ⟨l5, l6, l7, l8⟩ := isPointB_iff.1 h3
  cases h4 : isPointB (x + W - 1) (y + H - 1)
  · have X := Lib.hid (isMaskB_3 x y W H n h4)
    go_enter Try.func21, Try.ntmps21
    go_wp2_with fail
    refine wp_region_later (by kernel_rfl) (by kernel_rfl) ?_
    repeat (go_big_quiet_step ((first | (go_at_call 43; first | with_reducible exact Calls.later (within_b _ h1) | with_reducible exact Calls.later (within_b _ h2)) | (go_at_call 22; first | with_reducible exact Calls.later (isPoint_b _ h3) | with_reducible exact Calls.later (isPoint_b _ h4)))))
    refine wpQuiet_nil ?_
    rintro _ ⟨xq, rfl⟩
    go_wp2
    go_ret
    refine .mk (by rw [X.out]; rfl) ?_
    (repeat (first | (with_reducible exact Below.refl _ _) | (with_reducible assumption) | (with_reducible refine Later.out _ ?_) | (with_reducible refine bel_alloc ?_ _) | (with_reducible refine bel_drew ?_) | (with_reducible refine bel_drewN ?_ _) | (with_reducible refine bel_set ?_ ?_ _) | (with_reducible refine After.out _ ?_ ?_) | (dsimp only; omega) | omega | (simp only [World.size_alloc, World.size_setCell, World.size_drew]; omega)))
  have X := Lib.hid (isMaskB_4 x y W H n h1 h2 h3 h4)
  obtain ⟨l9, l10⟩ := area_bd h1 h2
  go_enter Try.func21, Try.ntmps21
  go_wp2_with fail
  refine wp_region_later (by kernel_rfl) (by kernel_rfl) ?_
  repeat (go_big_quiet_step ((first | (go_at_call 43; first | with_reducible exact Calls.later (within_b _ h1) | with_reducible exact Calls.later (within_b _ h2)) | (go_at_call 22; first | with_reducible exact Calls.later (isPoint_b _ h3) | with_reducible exact Calls.later (isPoint_b _ h4)) | (go_at_call 44; exact Calls.later (lengthB_any _ _ _ _)))))
  refine wpQuiet_nil ?_
  rintro _ ⟨xq, rfl⟩
  go_wp2
  go_ret
  refine .mk (by rw [X.out]; rfl) ?_
  (repeat (first | (with_reducible exact Below.refl _ _) | (with_reducible assumption) | (with_reducible refine Later.out _ ?_) | (with_reducible refine bel_alloc ?_ _) | (with_reducible refine bel_drew ?_) | (with_reducible refine bel_drewN ?_ _) | (with_reducible refine bel_set ?_ ?_ _) | (with_reducible refine After.out _ ?_ ?_) | (dsimp only; omega) | omega | (simp only [World.size_alloc, World.size_setCell, World.size_drew]; omega)))
theorem isMask_b {b : Bool} (h : isMaskB x y W H n = b) : Calls Try.prog 21 #[.agg #[.int .i64 x, .int .i64 y, .int .i64 W, .int .i64 H, .slice a n c]] w (Ret w (.bool b)) := by
  subst h; exact isMask_any _ _ _ _ _ _ _ _
set_option maxHeartbeats 400000 in
theorem sIsMask_any : Calls Try.prog 25 #[.agg #[.int .i64 x, .int .i64 y, .int .i64 W, .int .i64 H, .slice a n c]] w (Ret w (.bool (isMaskB x y W H n))) := by
  cases h1 : inB W 1 24
  · have X := Lib.hid (isMaskB_0 x y W H n h1)
    go_enter Try.func25, Try.ntmps25
    go_wp2_with (first | (go_at_call 47; first | ((with_reducible refine (Calls.later (l01In_b _ h1)).mono ?_); rintro e w' ⟨rfl, xl, rfl⟩; have hsz := xl.bel.size; (try simp only [World.size_alloc, World.size_setCell, World.size_drew] at hsz); (try have hz0 : w.heap.size < xl.w.heap.size := (by omega)); (try have hz1 : w.heap.size + 1 < xl.w.heap.size := (by omega)); (try have hz2 : w.heap.size + 1 + 1 < xl.w.heap.size := (by omega))) | ((with_reducible refine (l01In_b _ h1).mono ?_); rintro e w' ⟨rfl, xl, rfl⟩; have hsz := xl.bel.size; (try simp only [World.size_alloc, World.size_setCell, World.size_drew] at hsz); (try have hz0 : w.heap.size < xl.w.heap.size := (by omega)); (try have hz1 : w.heap.size + 1 < xl.w.heap.size := (by omega)); (try have hz2 : w.heap.size + 1 + 1 < xl.w.heap.size := (by omega)))))
    go_ret
    refine .mk (by rw [X.out]; rfl) ?_
    (repeat (first | (with_reducible exact Below.refl _ _) | (with_reducible assumption) | (with_reducible refine Later.out _ ?_) | (with_reducible refine bel_alloc ?_ _) | (with_reducible refine bel_drew ?_) | (with_reducible refine bel_drewN ?_ _) | (with_reducible refine bel_set ?_ ?_ _) | (with_reducible refine After.out _ ?_ ?_) | (dsimp only; omega) | omega | (simp only [World.size_alloc, World.size_setCell, World.size_drew]; omega)))
  obtain ⟨l1, l2⟩ := inB_iff.1 h1
  cases h2 : inB H 1 24
  · have X := Lib.hid (isMaskB_1 x y W H n h2)
    go_enter Try.func25, Try.ntmps25
    go_wp2_with (first | (go_at_call 47; first | ((with_reducible refine (Calls.later (l01In_b _ h1)).mono ?_); rintro e w' ⟨rfl, xl, rfl⟩; have hsz := xl.bel.size; (try simp only [World.size_alloc, World.size_setCell, World.size_drew] at hsz); (try have hz0 : w.heap.size < xl.w.heap.size := (by omega)); (try have hz1 : w.heap.size + 1 < xl.w.heap.size := (by omega)); (try have hz2 : w.heap.size + 1 + 1 < xl.w.heap.size := (by omega))) | ((with_reducible refine (l01In_b _ h1).mono ?_); rintro e w' ⟨rfl, xl, rfl⟩; have hsz := xl.bel.size; (try simp only [World.size_alloc, World.size_setCell, World.size_drew] at hsz); (try have hz0 : w.heap.size < xl.w.heap.size := (by omega)); (try have hz1 : w.heap.size + 1 < xl.w.heap.size := (by omega)); (try have hz2 : w.heap.size + 1 + 1 < xl.w.heap.size := (by omega))) | ((with_reducible refine (Calls.later (l01In_b _ h2)).mono ?_); rintro e w' ⟨rfl, xl, rfl⟩; have hsz := xl.bel.size; (try simp only [World.size_alloc, World.size_setCell, World.size_drew] at hsz); (try have hz0 : w.heap.size < xl.w.heap.size := (by omega)); (try have hz1 : w.heap.size + 1 < xl.w.heap.size := (by omega)); (try have hz2 : w.heap.size + 1 + 1 < xl.w.heap.size := (by omega))) | ((with_reducible refine (l01In_b _ h2).mono ?_); rintro e w' ⟨rfl, xl, rfl⟩; have hsz := xl.bel.size; (try simp only [World.size_alloc, World.size_setCell, World.size_drew] at hsz); (try have hz0 : w.heap.size < xl.w.heap.size := (by omega)); (try have hz1 : w.heap.size + 1 < xl.w.heap.size := (by omega)); (try have hz2 : w.heap.size + 1 + 1 < xl.w.heap.size := (by omega)))))
    go_ret
    refine .mk (by rw [X.out]; rfl) ?_
    (repeat (first | (with_reducible exact Below.refl _ _) | (with_reducible assumption) | (with_reducible refine Later.out _ ?_) | (with_reducible refine bel_alloc ?_ _) | (with_reducible refine bel_drew ?_) | (with_reducible refine bel_drewN ?_ _) | (with_reducible refine bel_set ?_ ?_ _) | (with_reducible refine After.out _ ?_ ?_) | (dsimp only; omega) | omega | (simp only [World.size_alloc, World.size_setCell, World.size_drew]; omega)))
  obtain ⟨l3, l4⟩ := inB_iff.1 h2
  cases h3 : isPointB x y
  · have X := Lib.hid (isMaskB_2 x y W H n h3)
    go_enter Try.func25, Try.ntmps25
    go_wp2_with (first | (go_at_call 47; first | ((with_reducible refine (Calls.later (l01In_b _ h1)).mono ?_); rintro e w' ⟨rfl, xl, rfl⟩; have hsz := xl.bel.size; (try simp only [World.size_alloc, World.size_setCell, World.size_drew] at hsz); (try have hz0 : w.heap.size < xl.w.heap.size := (by omega)); (try have hz1 : w.heap.size + 1 < xl.w.heap.size := (by omega)); (try have hz2 : w.heap.size + 1 + 1 < xl.w.heap.size := (by omega))) | ((with_reducible refine (l01In_b _ h1).mono ?_); rintro e w' ⟨rfl, xl, rfl⟩; have hsz := xl.bel.size; (try simp only [World.size_alloc, World.size_setCell, World.size_drew] at hsz); (try have hz0 : w.heap.size < xl.w.heap.size := (by omega)); (try have hz1 : w.heap.size + 1 < xl.w.heap.size := (by omega)); (try have hz2 : w.heap.size + 1 + 1 < xl.w.heap.size := (by omega))) | ((with_reducible refine (Calls.later (l01In_b _ h2)).mono ?_); rintro e w' ⟨rfl, xl, rfl⟩; have hsz := xl.bel.size; (try simp only [World.size_alloc, World.size_setCell, World.size_drew] at hsz); (try have hz0 : w.heap.size < xl.w.heap.size := (by omega)); (try have hz1 : w.heap.size + 1 < xl.w.heap.size := (by omega)); (try have hz2 : w.heap.size + 1 + 1 < xl.w.heap.size := (by omega))) | ((with_reducible refine (l01In_b _ h2).mono ?_); rintro e w' ⟨rfl, xl, rfl⟩; have hsz := xl.bel.size; (try simp only [World.size_alloc, World.size_setCell, World.size_drew] at hsz); (try have hz0 : w.heap.size < xl.w.heap.size := (by omega)); (try have hz1 : w.heap.size + 1 < xl.w.heap.size := (by omega)); (try have hz2 : w.heap.size + 1 + 1 < xl.w.heap.size := (by omega)))) | (go_at_call 26; first | ((with_reducible refine (Calls.later (sIsPoint_b _ h3)).mono ?_); rintro e w' ⟨rfl, xl, rfl⟩; have hsz := xl.bel.size; (try simp only [World.size_alloc, World.size_setCell, World.size_drew] at hsz); (try have hz0 : w.heap.size < xl.w.heap.size := (by omega)); (try have hz1 : w.heap.size + 1 < xl.w.heap.size := (by omega)); (try have hz2 : w.heap.size + 1 + 1 < xl.w.heap.size := (by omega))) | ((with_reducible refine (sIsPoint_b _ h3).mono ?_); rintro e w' ⟨rfl, xl, rfl⟩; have hsz := xl.bel.size; (try simp only [World.size_alloc, World.size_setCell, World.size_drew] at hsz); (try have hz0 : w.heap.size < xl.w.heap.size := (by omega)); (try have hz1 : w.heap.size + 1 < xl.w.heap.size := (by omega)); (try have hz2 : w.heap.size + 1 + 1 < xl.w.heap.size := (by omega)))))
    go_ret
    refine .mk (by rw [X.out]; rfl) ?_
    (repeat (first | (with_reducible exact Below.refl _ _) | (with_reducible assumption) | (with_reducible refine Later.out _ ?_) | (with_reducible refine bel_alloc ?_ _) | (with_reducible refine bel_drew ?_) | (with_reducible refine bel_drewN ?_ _) | (with_reducible refine bel_set ?_ ?_ _) | (with_reducible refine After.out _ ?_ ?_) | (dsimp only; omega) | omega | (simp only [World.size_alloc, World.size_setCell, World.size_drew]; omega)))
  obtain ⟨l5, l6, l7, l8⟩ := isPointB_iff.1 h3
  cases h4 : isPointB (x + W - 1) (y + H - 1)
  · have X := Lib.hid (isMaskB_3 x y W H n h4)
    go_enter Try.func25, Try.ntmps25
    go_wp2_with (first | (go_at_call 47; first | ((with_reducible refine (Calls.later (l01In_b _ h1)).mono ?_); rintro e w' ⟨rfl, xl, rfl⟩; have hsz := xl.bel.size; (try simp only [World.size_alloc, World.size_setCell, World.size_drew] at hsz); (try have hz0 : w.heap.size < xl.w.heap.size := (by omega)); (try have hz1 : w.heap.size + 1 < xl.w.heap.size := (by omega)); (try have hz2 : w.heap.size + 1 + 1 < xl.w.heap.size := (by omega))) | ((with_reducible refine (l01In_b _ h1).mono ?_); rintro e w' ⟨rfl, xl, rfl⟩; have hsz := xl.bel.size; (try simp only [World.size_alloc, World.size_setCell, World.size_drew] at hsz); (try have hz0 : w.heap.size < xl.w.heap.size := (by omega)); (try have hz1 : w.heap.size + 1 < xl.w.heap.size := (by omega)); (try have hz2 : w.heap.size + 1 + 1 < xl.w.heap.size := (by omega))) | ((with_reducible refine (Calls.later (l01In_b _ h2)).mono ?_); rintro e w' ⟨rfl, xl, rfl⟩; have hsz := xl.bel.size; (try simp only [World.size_alloc, World.size_setCell, World.size_drew] at hsz); (try have hz0 : w.heap.size < xl.w.heap.size := (by omega)); (try have hz1 : w.heap.size + 1 < xl.w.heap.size := (by omega)); (try have hz2 : w.heap.size + 1 + 1 < xl.w.heap.size := (by omega))) | ((with_reducible refine (l01In_b _ h2).mono ?_); rintro e w' ⟨rfl, xl, rfl⟩; have hsz := xl.bel.size; (try simp only [World.size_alloc, World.size_setCell, World.size_drew] at hsz); (try have hz0 : w.heap.size < xl.w.heap.size := (by omega)); (try have hz1 : w.heap.size + 1 < xl.w.heap.size := (by omega)); (try have hz2 : w.heap.size + 1 + 1 < xl.w.heap.size := (by omega)))) | (go_at_call 26; first | ((with_reducible refine (Calls.later (sIsPoint_b _ h3)).mono ?_); rintro e w' ⟨rfl, xl, rfl⟩; have hsz := xl.bel.size; (try simp only [World.size_alloc, World.size_setCell, World.size_drew] at hsz); (try have hz0 : w.heap.size < xl.w.heap.size := (by omega)); (try have hz1 : w.heap.size + 1 < xl.w.heap.size := (by omega)); (try have hz2 : w.heap.size + 1 + 1 < xl.w.heap.size := (by omega))) | ((with_reducible refine (sIsPoint_b _ h3).mono ?_); rintro e w' ⟨rfl, xl, rfl⟩; have hsz := xl.bel.size; (try simp only [World.size_alloc, World.size_setCell, World.size_drew] at hsz); (try have hz0 : w.heap.size < xl.w.heap.size := (by omega)); (try have hz1 : w.heap.size + 1 < xl.w.heap.size := (by omega)); (try have hz2 : w.heap.size + 1 + 1 < xl.w.heap.size := (by omega))) | ((with_reducible refine (Calls.later (sIsPoint_b _ h4)).mono ?_); rintro e w' ⟨rfl, xl, rfl⟩; have hsz := xl.bel.size; (try simp only [World.size_alloc, World.size_setCell, World.size_drew] at hsz); (try have hz0 : w.heap.size < xl.w.heap.size := (by omega)); (try have hz1 : w.heap.size + 1 < xl.w.heap.size := (by omega)); (try have hz2 : w.heap.size + 1 + 1 < xl.w.heap.size := (by omega))) | ((with_reducible refine (sIsPoint_b _ h4).mono ?_); rintro e w' ⟨rfl, xl, rfl⟩; have hsz := xl.bel.size; (try simp only [World.size_alloc, World.size_setCell, World.size_drew] at hsz); (try have hz0 : w.heap.size < xl.w.heap.size := (by omega)); (try have hz1 : w.heap.size + 1 < xl.w.heap.size := (by omega)); (try have hz2 : w.heap.size + 1 + 1 < xl.w.heap.size := (by omega)))))
    go_ret
    refine .mk (by rw [X.out]; rfl) ?_
    (repeat (first | (with_reducible exact Below.refl _ _) | (with_reducible assumption) | (with_reducible refine Later.out _ ?_) | (with_reducible refine bel_alloc ?_ _) | (with_reducible refine bel_drew ?_) | (with_reducible refine bel_drewN ?_ _) | (with_reducible refine bel_set ?_ ?_ _) | (with_reducible refine After.out _ ?_ ?_) | (dsimp only; omega) | omega | (simp only [World.size_alloc, World.size_setCell, World.size_drew]; omega)))
  have X := Lib.hid (isMaskB_4 x y W H n h1 h2 h3 h4)
  obtain ⟨l9, l10⟩ := area_bd h1 h2
  go_enter Try.func25, Try.ntmps25
  go_wp2_with (first | (go_at_call 47; first | ((with_reducible refine (Calls.later (l01In_b _ h1)).mono ?_); rintro e w' ⟨rfl, xl, rfl⟩; have hsz := xl.bel.size; (try simp only [World.size_alloc, World.size_setCell, World.size_drew] at hsz); (try have hz0 : w.heap.size < xl.w.heap.size := (by omega)); (try have hz1 : w.heap.size + 1 < xl.w.heap.size := (by omega)); (try have hz2 : w.heap.size + 1 + 1 < xl.w.heap.size := (by omega))) | ((with_reducible refine (l01In_b _ h1).mono ?_); rintro e w' ⟨rfl, xl, rfl⟩; have hsz := xl.bel.size; (try simp only [World.size_alloc, World.size_setCell, World.size_drew] at hsz); (try have hz0 : w.heap.size < xl.w.heap.size := (by omega)); (try have hz1 : w.heap.size + 1 < xl.w.heap.size := (by omega)); (try have hz2 : w.heap.size + 1 + 1 < xl.w.heap.size := (by omega))) | ((with_reducible refine (Calls.later (l01In_b _ h2)).mono ?_); rintro e w' ⟨rfl, xl, rfl⟩; have hsz := xl.bel.size; (try simp only [World.size_alloc, World.size_setCell, World.size_drew] at hsz); (try have hz0 : w.heap.size < xl.w.heap.size := (by omega)); (try have hz1 : w.heap.size + 1 < xl.w.heap.size := (by omega)); (try have hz2 : w.heap.size + 1 + 1 < xl.w.heap.size := (by omega))) | ((with_reducible refine (l01In_b _ h2).mono ?_); rintro e w' ⟨rfl, xl, rfl⟩; have hsz := xl.bel.size; (try simp only [World.size_alloc, World.size_setCell, World.size_drew] at hsz); (try have hz0 : w.heap.size < xl.w.heap.size := (by omega)); (try have hz1 : w.heap.size + 1 < xl.w.heap.size := (by omega)); (try have hz2 : w.heap.size + 1 + 1 < xl.w.heap.size := (by omega)))) | (go_at_call 26; first | ((with_reducible refine (Calls.later (sIsPoint_b _ h3)).mono ?_); rintro e w' ⟨rfl, xl, rfl⟩; have hsz := xl.bel.size; (try simp only [World.size_alloc, World.size_setCell, World.size_drew] at hsz); (try have hz0 : w.heap.size < xl.w.heap.size := (by omega)); (try have hz1 : w.heap.size + 1 < xl.w.heap.size := (by omega)); (try have hz2 : w.heap.size + 1 + 1 < xl.w.heap.size := (by omega))) | ((with_reducible refine (sIsPoint_b _ h3).mono ?_); rintro e w' ⟨rfl, xl, rfl⟩; have hsz := xl.bel.size; (try simp only [World.size_alloc, World.size_setCell, World.size_drew] at hsz); (try have hz0 : w.heap.size < xl.w.heap.size := (by omega)); (try have hz1 : w.heap.size + 1 < xl.w.heap.size := (by omega)); (try have hz2 : w.heap.size + 1 + 1 < xl.w.heap.size := (by omega))) | ((with_reducible refine (Calls.later (sIsPoint_b _ h4)).mono ?_); rintro e w' ⟨rfl, xl, rfl⟩; have hsz := xl.bel.size; (try simp only [World.size_alloc, World.size_setCell, World.size_drew] at hsz); (try have hz0 : w.heap.size < xl.w.heap.size := (by omega)); (try have hz1 : w.heap.size + 1 < xl.w.heap.size := (by omega)); (try have hz2 : w.heap.size + 1 + 1 < xl.w.heap.size := (by omega))) | ((with_reducible refine (sIsPoint_b _ h4).mono ?_); rintro e w' ⟨rfl, xl, rfl⟩; have hsz := xl.bel.size; (try simp only [World.size_alloc, World.size_setCell, World.size_drew] at hsz); (try have hz0 : w.heap.size < xl.w.heap.size := (by omega)); (try have hz1 : w.heap.size + 1 < xl.w.heap.size := (by omega)); (try have hz2 : w.heap.size + 1 + 1 < xl.w.heap.size := (by omega)))))
  go_ret
  refine .mk (by rw [X.out]; rfl) ?_
  (repeat (first | (with_reducible exact Below.refl _ _) | (with_reducible assumption) | (with_reducible refine Later.out _ ?_) | (with_reducible refine bel_alloc ?_ _) | (with_reducible refine bel_drew ?_) | (with_reducible refine bel_drewN ?_ _) | (with_reducible refine bel_set ?_ ?_ _) | (with_reducible refine After.out _ ?_ ?_) | (dsimp only; omega) | omega | (simp only [World.size_alloc, World.size_setCell, World.size_drew]; omega)))
theorem sIsMask_b {b : Bool} (h : isMaskB x y W H n = b) : Calls Try.prog 25 #[.agg #[.int .i64 x, .int .i64 y, .int .i64 W, .int .i64 H, .slice a n c]] w (Ret w (.bool b)) := by
  subst h; exact sIsMask_any _ _ _ _ _ _ _ _
end
end Go.Proofs.Ytkkhjbdnpobpnaa

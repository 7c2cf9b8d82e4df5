import Derived.Test.YtklcaphkfdlipaaGreatDoorPackVg
import Derived.Test.YtklcaphkfdlipaaGreatDoorEdgS
/- BorderOf: the walks of both sides. -/
set_option linter.unusedSimpArgs false
set_option linter.unusedVariables false
namespace Go.Proofs.YtklcaphkfdlipaaGreatDoor
open Go.RowKit
set_option maxHeartbeats 1000000 in
theorem sView_any (R : List (List Pt)) (V : List Vw) (x y : Int) (a b : Option Addr) (n c m d : Nat) (w : World) (hn : R.length = n) (hm : n ≤ 1048576) (ok : ∀ r ∈ R, r.length ≤ 1048576) (hr : RingsR w a R)
    (hn' : V.length = m) (hm' : m ≤ 1048576) (ok' : ∀ v ∈ V, VwOk v) (hr' : ViewsR w b V) :
    Calls Tryz.prog 66 #[.slice a n c, .slice b m d, .int .i64 x, .int .i64 y] w (Ret w (.int .i64 (viewC R V [x, y]))) := by
  have CA := fun (w : World) (hr : RingsR w a R) (hr' : ViewsR w b V) => sAreViews_any R V a b n c m d w hn hm ok hr hn' hm' ok' hr'
  have X : viewC R V [x, y] = if viewsB R V then (if inB x 0 ((m : Int) - 1) && inB y 0 ((m : Int) - 1) then 0 else 2) else 1 := by rw [← hn']; unfold viewC; simp
  generalize viewC R V [x, y] = K at *
  generalize viewsB R V = B at *
  replace CA := Lib.hid CA
  replace hr := Lib.hid hr
  replace hr' := Lib.hid hr'
  clear ok ok' hn' hn
  cases B
  · have X2 := Lib.hid (show K = 1 by rw [X]; rfl)
    clear X
    go_enter Tryz.func66, Tryz.ntmps66
    go_wp2_with fail
    with_reducible refine (CA.out _ (hr.out.bel (by (repeat (first | (with_reducible first | exact Below.refl _ _ | assumption | refine Later.out _ ?_ | refine bel_alloc ?_ _ | refine bel_drew ?_ | refine bel_drewN ?_ _ | refine bel_set ?_ ?_ _ | refine After.out _ ?_ ?_) | (dsimp only; omega) | omega | (simp only [World.size_alloc, World.size_setCell, World.size_drew]; omega))))) (hr'.out.bel (by (repeat (first | (with_reducible first | exact Below.refl _ _ | assumption | refine Later.out _ ?_ | refine bel_alloc ?_ _ | refine bel_drew ?_ | refine bel_drewN ?_ _ | refine bel_set ?_ ?_ _ | refine After.out _ ?_ ?_) | (dsimp only; omega) | omega | (simp only [World.size_alloc, World.size_setCell, World.size_drew]; omega)))))).mono ?_
    rintro e w' ⟨rfl, y1, rfl⟩
    have hsy1 := y1.bel.size
    (try simp only [World.size_alloc, World.size_setCell, World.size_drew] at hsy1)
    go_wp2_with fail
    go_ret
    exact .mk (by rw [X2.out]; rfl) (by (repeat (first | (with_reducible first | exact Below.refl _ _ | assumption | refine Later.out _ ?_ | refine bel_alloc ?_ _ | refine bel_drew ?_ | refine bel_drewN ?_ _ | refine bel_set ?_ ?_ _ | refine After.out _ ?_ ?_) | (dsimp only; omega) | omega | (simp only [World.size_alloc, World.size_setCell, World.size_drew]; omega))))
  · cases hx : inB x 0 ((m : Int) - 1)
    · have X2 := Lib.hid (show K = 2 by rw [X, hx]; rfl)
      replace hx := Lib.hid hx
      clear X
      go_enter Tryz.func66, Tryz.ntmps66
      go_wp2_with fail
      with_reducible refine (CA.out _ (hr.out.bel (by (repeat (first | (with_reducible first | exact Below.refl _ _ | assumption | refine Later.out _ ?_ | refine bel_alloc ?_ _ | refine bel_drew ?_ | refine bel_drewN ?_ _ | refine bel_set ?_ ?_ _ | refine After.out _ ?_ ?_) | (dsimp only; omega) | omega | (simp only [World.size_alloc, World.size_setCell, World.size_drew]; omega))))) (hr'.out.bel (by (repeat (first | (with_reducible first | exact Below.refl _ _ | assumption | refine Later.out _ ?_ | refine bel_alloc ?_ _ | refine bel_drew ?_ | refine bel_drewN ?_ _ | refine bel_set ?_ ?_ _ | refine After.out _ ?_ ?_) | (dsimp only; omega) | omega | (simp only [World.size_alloc, World.size_setCell, World.size_drew]; omega)))))).mono ?_
      rintro e w' ⟨rfl, y1, rfl⟩
      have hsy1 := y1.bel.size
      (try simp only [World.size_alloc, World.size_setCell, World.size_drew] at hsy1)
      go_wp2_with fail
      with_reducible refine (l01In_b _ hx.out).mono ?_
      rintro e w' ⟨rfl, y2, rfl⟩
      have hsy2 := y2.bel.size
      (try simp only [World.size_alloc, World.size_setCell, World.size_drew] at hsy2)
      go_wp2_with fail
      go_ret
      exact .mk (by rw [X2.out]; rfl) (by (repeat (first | (with_reducible first | exact Below.refl _ _ | assumption | refine Later.out _ ?_ | refine bel_alloc ?_ _ | refine bel_drew ?_ | refine bel_drewN ?_ _ | refine bel_set ?_ ?_ _ | refine After.out _ ?_ ?_) | (dsimp only; omega) | omega | (simp only [World.size_alloc, World.size_setCell, World.size_drew]; omega))))
    · cases hy : inB y 0 ((m : Int) - 1)
      · have X2 := Lib.hid (show K = 2 by rw [X, hx, hy]; rfl)
        replace hx := Lib.hid hx
        replace hy := Lib.hid hy
        clear X
        go_enter Tryz.func66, Tryz.ntmps66
        go_wp2_with fail
        with_reducible refine (CA.out _ (hr.out.bel (by (repeat (first | (with_reducible first | exact Below.refl _ _ | assumption | refine Later.out _ ?_ | refine bel_alloc ?_ _ | refine bel_drew ?_ | refine bel_drewN ?_ _ | refine bel_set ?_ ?_ _ | refine After.out _ ?_ ?_) | (dsimp only; omega) | omega | (simp only [World.size_alloc, World.size_setCell, World.size_drew]; omega))))) (hr'.out.bel (by (repeat (first | (with_reducible first | exact Below.refl _ _ | assumption | refine Later.out _ ?_ | refine bel_alloc ?_ _ | refine bel_drew ?_ | refine bel_drewN ?_ _ | refine bel_set ?_ ?_ _ | refine After.out _ ?_ ?_) | (dsimp only; omega) | omega | (simp only [World.size_alloc, World.size_setCell, World.size_drew]; omega)))))).mono ?_
        rintro e w' ⟨rfl, y1, rfl⟩
        have hsy1 := y1.bel.size
        (try simp only [World.size_alloc, World.size_setCell, World.size_drew] at hsy1)
        go_wp2_with fail
        with_reducible refine (l01In_b _ hx.out).mono ?_
        rintro e w' ⟨rfl, y2, rfl⟩
        have hsy2 := y2.bel.size
        (try simp only [World.size_alloc, World.size_setCell, World.size_drew] at hsy2)
        go_wp2_with fail
        with_reducible refine (l01In_b _ hy.out).mono ?_
        rintro e w' ⟨rfl, y3, rfl⟩
        have hsy3 := y3.bel.size
        (try simp only [World.size_alloc, World.size_setCell, World.size_drew] at hsy3)
        go_wp2_with fail
        go_ret
        exact .mk (by rw [X2.out]; rfl) (by (repeat (first | (with_reducible first | exact Below.refl _ _ | assumption | refine Later.out _ ?_ | refine bel_alloc ?_ _ | refine bel_drew ?_ | refine bel_drewN ?_ _ | refine bel_set ?_ ?_ _ | refine After.out _ ?_ ?_) | (dsimp only; omega) | omega | (simp only [World.size_alloc, World.size_setCell, World.size_drew]; omega))))
      · have X2 := Lib.hid (show K = 0 by rw [X, hx, hy]; rfl)
        replace hx := Lib.hid hx
        replace hy := Lib.hid hy
        clear X
        go_enter Tryz.func66, Tryz.ntmps66
        go_wp2_with fail
        with_reducible refine (CA.out _ (hr.out.bel (by (repeat (first | (with_reducible first | exact Below.refl _ _ | assumption | refine Later.out _ ?_ | refine bel_alloc ?_ _ | refine bel_drew ?_ | refine bel_drewN ?_ _ | refine bel_set ?_ ?_ _ | refine After.out _ ?_ ?_) | (dsimp only; omega) | omega | (simp only [World.size_alloc, World.size_setCell, World.size_drew]; omega))))) (hr'.out.bel (by (repeat (first | (with_reducible first | exact Below.refl _ _ | assumption | refine Later.out _ ?_ | refine bel_alloc ?_ _ | refine bel_drew ?_ | refine bel_drewN ?_ _ | refine bel_set ?_ ?_ _ | refine After.out _ ?_ ?_) | (dsimp only; omega) | omega | (simp only [World.size_alloc, World.size_setCell, World.size_drew]; omega)))))).mono ?_
        rintro e w' ⟨rfl, y1, rfl⟩
        have hsy1 := y1.bel.size
        (try simp only [World.size_alloc, World.size_setCell, World.size_drew] at hsy1)
        go_wp2_with fail
        with_reducible refine (l01In_b _ hx.out).mono ?_
        rintro e w' ⟨rfl, y2, rfl⟩
        have hsy2 := y2.bel.size
        (try simp only [World.size_alloc, World.size_setCell, World.size_drew] at hsy2)
        go_wp2_with fail
        with_reducible refine (l01In_b _ hy.out).mono ?_
        rintro e w' ⟨rfl, y3, rfl⟩
        have hsy3 := y3.bel.size
        (try simp only [World.size_alloc, World.size_setCell, World.size_drew] at hsy3)
        go_wp2_with fail
        go_ret
        exact .mk (by rw [X2.out]; rfl) (by (repeat (first | (with_reducible first | exact Below.refl _ _ | assumption | refine Later.out _ ?_ | refine bel_alloc ?_ _ | refine bel_drew ?_ | refine bel_drewN ?_ _ | refine bel_set ?_ ?_ _ | refine After.out _ ?_ ?_) | (dsimp only; omega) | omega | (simp only [World.size_alloc, World.size_setCell, World.size_drew]; omega))))
end Go.Proofs.YtklcaphkfdlipaaGreatDoor

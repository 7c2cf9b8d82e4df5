import Derived.Test.YtpblghjegbfjeaaMasksL
import Derived.Test.YtpblghjegbfjeaaDrawN
import Derived.Test.YtpblghjegbfjeaaLikeM
/- The law Masks: the numbers of points of a union and of what both have in common, and of all pieces. -/
set_option linter.unusedSimpArgs false
set_option linter.unusedVariables false
namespace Go.Proofs.Ytpblghjegbfjeaa
open Go.RowKit
theorem countV_ex (x y W H : Int) (l : List Bool) (hm : l.length ≤ 1048576) : ∃ cn cc : Int, countPointsV x y W H l = .tuple #[.int .i64 cn, .int .i64 cc] ∧ (isMaskB x y W H l.length = true → cn = cntB l l.length ∧ cc = 0) ∧ 0 ≤ cn ∧ cn ≤ 1048576 := by
  unfold countPointsV
  have := cntB_le l l.length
  cases h : isMaskB x y W H l.length
  · exact ⟨0, 1, rfl, by simp, by omega, by omega⟩
  · exact ⟨_, 0, rfl, fun _ => ⟨rfl, rfl⟩, by omega, by omega⟩
set_option maxRecDepth 8000 in
set_option maxHeartbeats 8000000 in
theorem lawMasks_any (a : Option Addr) (n c : Nat) (bs : List Int) (w : World) (hr : Row w a (byteCells bs)) (hl : bs.length = n) (hm : n ≤ maxLen) (hx : ∀ x ∈ bs, 0 ≤ x ∧ x ≤ 255) :
    Calls Try.prog 10 #[.slice a n c] w (Ret w (.bool true)) := by
  by_cases hbig : 4096 < n
  · clear hr hl hx
    go_enter Try.func10, Try.ntmps10
    go_wp2_with fail
    with_reducible refine (big_yes _ _ _ _ hbig hm).mono ?_
    rintro e w' ⟨rfl, y0, rfl⟩
    have hsy0 := y0.bel.size
    (try simp only [World.size_alloc, World.size_setCell, World.size_drew] at hsy0)
    go_wp2_with fail
    go_ret
    refine .mk rfl ?_
    (repeat (first | (with_reducible exact Below.refl _ _) | (with_reducible assumption) | (with_reducible refine Later.out _ ?_) | (with_reducible refine bel_alloc ?_ _) | (with_reducible refine bel_drew ?_) | (with_reducible refine bel_drewN ?_ _) | (with_reducible refine bel_set ?_ ?_ _) | (with_reducible refine After.out _ ?_ ?_) | (dsimp only; omega) | omega | (simp only [World.size_alloc, World.size_setCell, World.size_drew]; omega)))
  have hn4 : n ≤ 4096 := by omega
  replace hr := Lib.hid hr
  replace hx := Lib.hid hx
  replace hl := Lib.hid hl
  clear hbig hm
  go_enter Try.func10, Try.ntmps10
  go_wp2_with fail
  with_reducible refine (big_no _ _ _ _ hn4).mono ?_
  rintro e w' ⟨rfl, y0, rfl⟩
  have hsy0 := y0.bel.size
  (try simp only [World.size_alloc, World.size_setCell, World.size_drew] at hsy0)
  go_wp2_with fail
  with_reducible refine (drawTwoMasks_any a n c bs _ (hr.out.bel (by (repeat (first | (with_reducible exact Below.refl _ _) | (with_reducible assumption) | (with_reducible refine Later.out _ ?_) | (with_reducible refine bel_alloc ?_ _) | (with_reducible refine bel_drew ?_) | (with_reducible refine bel_drewN ?_ _) | (with_reducible refine bel_set ?_ ?_ _) | (with_reducible refine After.out _ ?_ ?_) | (dsimp only; omega) | omega | (simp only [World.size_alloc, World.size_setCell, World.size_drew]; omega))))) hl.out hn4 hx.out).mono ?_
  rintro e w' ⟨x, y, W, H, a1, n1, c1, l1, x', y', W', H', a2, n2, c2, l2, hn1, hn2, hm1, hm2, rfl, z, rfl, hr1, hr2⟩
  have hsz := z.bel.size
  (try simp only [World.size_alloc, World.size_setCell, World.size_drew] at hsz)
  subst hn1 hn2
  obtain ⟨X, Y, X2, Y2, code, Lo, La, Ld, co, ca, cd, lo, la, ld, hcode⟩ := comb_all x y W H x' y' W' H' l1 l2 hm1 hm2
  replace hr1 := Lib.hid hr1.row
  replace hr2 := Lib.hid hr2.row
  replace co := Lib.hid co
  replace ca := Lib.hid ca
  replace cd := Lib.hid cd
  replace hcode := Lib.hid hcode
  go_wp2_with fail
  with_reducible refine (or_impl x y W H x' y' W' H' l1 l2 _ _ _ _ _ _ _ X Y X2 Y2 code Lo co.out rfl rfl hm1 hm2 (hr1.out.bel (by (repeat (first | (with_reducible exact Below.refl _ _) | (with_reducible assumption) | (with_reducible refine Later.out _ ?_) | (with_reducible refine bel_alloc ?_ _) | (with_reducible refine bel_drew ?_) | (with_reducible refine bel_drewN ?_ _) | (with_reducible refine bel_set ?_ ?_ _) | (with_reducible refine After.out _ ?_ ?_) | (dsimp only; omega) | omega | (simp only [World.size_alloc, World.size_setCell, World.size_drew]; omega))))) (hr2.out.bel (by (repeat (first | (with_reducible exact Below.refl _ _) | (with_reducible assumption) | (with_reducible refine Later.out _ ?_) | (with_reducible refine bel_alloc ?_ _) | (with_reducible refine bel_drew ?_) | (with_reducible refine bel_drewN ?_ _) | (with_reducible refine bel_set ?_ ?_ _) | (with_reducible refine After.out _ ?_ ?_) | (dsimp only; omega) | omega | (simp only [World.size_alloc, World.size_setCell, World.size_drew]; omega)))))).mono ?_
  rintro e w' ⟨a3, c3, rfl, hown, y3, rfl⟩
  have hsy3 := y3.bel.size
  (try simp only [World.size_alloc, World.size_setCell, World.size_drew] at hsy3)
  have O3 := Lib.hid (Owns.of hown)
  clear hown
  go_wp2_with fail
  with_reducible refine (or_spec x y W H x' y' W' H' l1 l2 _ _ _ _ _ _ _ X Y X2 Y2 code Lo co.out rfl rfl hm1 hm2 (hr1.out.bel (by (repeat (first | (with_reducible exact Below.refl _ _) | (with_reducible assumption) | (with_reducible refine Later.out _ ?_) | (with_reducible refine bel_alloc ?_ _) | (with_reducible refine bel_drew ?_) | (with_reducible refine bel_drewN ?_ _) | (with_reducible refine bel_set ?_ ?_ _) | (with_reducible refine After.out _ ?_ ?_) | (dsimp only; omega) | omega | (simp only [World.size_alloc, World.size_setCell, World.size_drew]; omega))))) (hr2.out.bel (by (repeat (first | (with_reducible exact Below.refl _ _) | (with_reducible assumption) | (with_reducible refine Later.out _ ?_) | (with_reducible refine bel_alloc ?_ _) | (with_reducible refine bel_drew ?_) | (with_reducible refine bel_drewN ?_ _) | (with_reducible refine bel_set ?_ ?_ _) | (with_reducible refine After.out _ ?_ ?_) | (dsimp only; omega) | omega | (simp only [World.size_alloc, World.size_setCell, World.size_drew]; omega)))))).mono ?_
  rintro e w' ⟨a4, c4, rfl, hown, y4, rfl⟩
  have hsy4 := y4.bel.size
  (try simp only [World.size_alloc, World.size_setCell, World.size_drew] at hsy4)
  have O4 := Lib.hid (Owns.of hown)
  clear hown
  go_wp2_with fail
  with_reducible refine (and_impl x y W H x' y' W' H' l1 l2 _ _ _ _ _ _ _ X Y X2 Y2 code La ca.out rfl rfl hm1 hm2 (hr1.out.bel (by (repeat (first | (with_reducible exact Below.refl _ _) | (with_reducible assumption) | (with_reducible refine Later.out _ ?_) | (with_reducible refine bel_alloc ?_ _) | (with_reducible refine bel_drew ?_) | (with_reducible refine bel_drewN ?_ _) | (with_reducible refine bel_set ?_ ?_ _) | (with_reducible refine After.out _ ?_ ?_) | (dsimp only; omega) | omega | (simp only [World.size_alloc, World.size_setCell, World.size_drew]; omega))))) (hr2.out.bel (by (repeat (first | (with_reducible exact Below.refl _ _) | (with_reducible assumption) | (with_reducible refine Later.out _ ?_) | (with_reducible refine bel_alloc ?_ _) | (with_reducible refine bel_drew ?_) | (with_reducible refine bel_drewN ?_ _) | (with_reducible refine bel_set ?_ ?_ _) | (with_reducible refine After.out _ ?_ ?_) | (dsimp only; omega) | omega | (simp only [World.size_alloc, World.size_setCell, World.size_drew]; omega)))))).mono ?_
  rintro e w' ⟨a5, c5, rfl, hown, y5, rfl⟩
  have hsy5 := y5.bel.size
  (try simp only [World.size_alloc, World.size_setCell, World.size_drew] at hsy5)
  have O5 := Lib.hid (Owns.of hown)
  clear hown
  go_wp2_with fail
  with_reducible refine (and_spec x y W H x' y' W' H' l1 l2 _ _ _ _ _ _ _ X Y X2 Y2 code La ca.out rfl rfl hm1 hm2 (hr1.out.bel (by (repeat (first | (with_reducible exact Below.refl _ _) | (with_reducible assumption) | (with_reducible refine Later.out _ ?_) | (with_reducible refine bel_alloc ?_ _) | (with_reducible refine bel_drew ?_) | (with_reducible refine bel_drewN ?_ _) | (with_reducible refine bel_set ?_ ?_ _) | (with_reducible refine After.out _ ?_ ?_) | (dsimp only; omega) | omega | (simp only [World.size_alloc, World.size_setCell, World.size_drew]; omega))))) (hr2.out.bel (by (repeat (first | (with_reducible exact Below.refl _ _) | (with_reducible assumption) | (with_reducible refine Later.out _ ?_) | (with_reducible refine bel_alloc ?_ _) | (with_reducible refine bel_drew ?_) | (with_reducible refine bel_drewN ?_ _) | (with_reducible refine bel_set ?_ ?_ _) | (with_reducible refine After.out _ ?_ ?_) | (dsimp only; omega) | omega | (simp only [World.size_alloc, World.size_setCell, World.size_drew]; omega)))))).mono ?_
  rintro e w' ⟨a6, c6, rfl, hown, y6, rfl⟩
  have hsy6 := y6.bel.size
  (try simp only [World.size_alloc, World.size_setCell, World.size_drew] at hsy6)
  have O6 := Lib.hid (Owns.of hown)
  clear hown
  go_wp2_with fail
  with_reducible refine (dif_impl x y W H x' y' W' H' l1 l2 _ _ _ _ _ _ _ X Y X2 Y2 code Ld cd.out rfl rfl hm1 hm2 (hr1.out.bel (by (repeat (first | (with_reducible exact Below.refl _ _) | (with_reducible assumption) | (with_reducible refine Later.out _ ?_) | (with_reducible refine bel_alloc ?_ _) | (with_reducible refine bel_drew ?_) | (with_reducible refine bel_drewN ?_ _) | (with_reducible refine bel_set ?_ ?_ _) | (with_reducible refine After.out _ ?_ ?_) | (dsimp only; omega) | omega | (simp only [World.size_alloc, World.size_setCell, World.size_drew]; omega))))) (hr2.out.bel (by (repeat (first | (with_reducible exact Below.refl _ _) | (with_reducible assumption) | (with_reducible refine Later.out _ ?_) | (with_reducible refine bel_alloc ?_ _) | (with_reducible refine bel_drew ?_) | (with_reducible refine bel_drewN ?_ _) | (with_reducible refine bel_set ?_ ?_ _) | (with_reducible refine After.out _ ?_ ?_) | (dsimp only; omega) | omega | (simp only [World.size_alloc, World.size_setCell, World.size_drew]; omega)))))).mono ?_
  rintro e w' ⟨a7, c7, rfl, hown, y7, rfl⟩
  have hsy7 := y7.bel.size
  (try simp only [World.size_alloc, World.size_setCell, World.size_drew] at hsy7)
  have O7 := Lib.hid (Owns.of hown)
  clear hown
  go_wp2_with fail
  with_reducible refine (dif_spec x y W H x' y' W' H' l1 l2 _ _ _ _ _ _ _ X Y X2 Y2 code Ld cd.out rfl rfl hm1 hm2 (hr1.out.bel (by (repeat (first | (with_reducible exact Below.refl _ _) | (with_reducible assumption) | (with_reducible refine Later.out _ ?_) | (with_reducible refine bel_alloc ?_ _) | (with_reducible refine bel_drew ?_) | (with_reducible refine bel_drewN ?_ _) | (with_reducible refine bel_set ?_ ?_ _) | (with_reducible refine After.out _ ?_ ?_) | (dsimp only; omega) | omega | (simp only [World.size_alloc, World.size_setCell, World.size_drew]; omega))))) (hr2.out.bel (by (repeat (first | (with_reducible exact Below.refl _ _) | (with_reducible assumption) | (with_reducible refine Later.out _ ?_) | (with_reducible refine bel_alloc ?_ _) | (with_reducible refine bel_drew ?_) | (with_reducible refine bel_drewN ?_ _) | (with_reducible refine bel_set ?_ ?_ _) | (with_reducible refine After.out _ ?_ ?_) | (dsimp only; omega) | omega | (simp only [World.size_alloc, World.size_setCell, World.size_drew]; omega)))))).mono ?_
  rintro e w' ⟨a8, c8, rfl, hown, y8, rfl⟩
  have hsy8 := y8.bel.size
  (try simp only [World.size_alloc, World.size_setCell, World.size_drew] at hsy8)
  have O8 := Lib.hid (Owns.of hown)
  clear hown
  go_wp2_with fail
  with_reducible refine (drawOneMask_any a n c bs _ (hr.out.bel (by (repeat (first | (with_reducible exact Below.refl _ _) | (with_reducible assumption) | (with_reducible refine Later.out _ ?_) | (with_reducible refine bel_alloc ?_ _) | (with_reducible refine bel_drew ?_) | (with_reducible refine bel_drewN ?_ _) | (with_reducible refine bel_set ?_ ?_ _) | (with_reducible refine After.out _ ?_ ?_) | (dsimp only; omega) | omega | (simp only [World.size_alloc, World.size_setCell, World.size_drew]; omega))))) hl.out hn4 hx.out).mono ?_
  rintro e w' ⟨x3, y3', W3, H3, a9, n9, c9, l3, hn3, hm3, rfl, z9, rfl, hr3⟩
  have hsz9 := z9.bel.size
  (try simp only [World.size_alloc, World.size_setCell, World.size_drew] at hsz9)
  subst hn3
  replace hr3 := Lib.hid hr3.row
  obtain ⟨pc, L, hR⟩ : ∃ code L, piecesR x3 y3' W3 H3 l3 = (code, L) := ⟨_, _, rfl⟩
  have hL : L.length ≤ 1048576 := by have := piecesR_len x3 y3' W3 H3 l3; rw [hR] at this; simp only at this; omega
  obtain ⟨cn, cc, hV, hVm, hcn0, hcn1⟩ := countV_ex x3 y3' W3 H3 l3 hm3
  have hpc : pc = 0 → isMaskB x3 y3' W3 H3 l3.length = true ∧ L = piecesN x3 y3' W3 H3 l3 := by
    intro h0
    unfold piecesR at hR
    cases h1 : isMaskB x3 y3' W3 H3 l3.length
    · rw [h1] at hR; simp only [Bool.false_eq_true, if_false, Prod.mk.injEq] at hR; omega
    · rw [h1] at hR; simp only [if_true, Prod.mk.injEq] at hR; exact ⟨rfl, hR.2.symm⟩
  have CC1 := fun a c w hr => countPoints_any x3 y3' W3 H3 l3 a l3.length c w rfl hm3 hr
  have CC2 := fun a c w hr => sCountPoints_any x3 y3' W3 H3 l3 a l3.length c w rfl hm3 hr
  rw [hV] at CC1 CC2
  replace CC1 := Lib.hid CC1
  replace CC2 := Lib.hid CC2
  replace hR := Lib.hid hR
  replace hVm := Lib.hid hVm
  replace hpc := Lib.hid hpc
  clear hV
  go_wp2_with fail
  with_reducible refine (piecesOf_impl x3 y3' W3 H3 l3 _ _ _ _ pc L hR.out rfl hm3 (hr3.out.bel (by (repeat (first | (with_reducible exact Below.refl _ _) | (with_reducible assumption) | (with_reducible refine Later.out _ ?_) | (with_reducible refine bel_alloc ?_ _) | (with_reducible refine bel_drew ?_) | (with_reducible refine bel_drewN ?_ _) | (with_reducible refine bel_set ?_ ?_ _) | (with_reducible refine After.out _ ?_ ?_) | (dsimp only; omega) | omega | (simp only [World.size_alloc, World.size_setCell, World.size_drew]; omega)))))).mono ?_
  rintro e w' ⟨a10, c10, rfl, hown, y10, rfl⟩
  have hsy10 := y10.bel.size
  (try simp only [World.size_alloc, World.size_setCell, World.size_drew] at hsy10)
  have O10 := Lib.hid (Owns.of hown)
  clear hown
  go_wp2_with fail
  with_reducible refine (piecesOf_spec x3 y3' W3 H3 l3 _ _ _ _ pc L hR.out rfl hm3 (hr3.out.bel (by (repeat (first | (with_reducible exact Below.refl _ _) | (with_reducible assumption) | (with_reducible refine Later.out _ ?_) | (with_reducible refine bel_alloc ?_ _) | (with_reducible refine bel_drew ?_) | (with_reducible refine bel_drewN ?_ _) | (with_reducible refine bel_set ?_ ?_ _) | (with_reducible refine After.out _ ?_ ?_) | (dsimp only; omega) | omega | (simp only [World.size_alloc, World.size_setCell, World.size_drew]; omega)))))).mono ?_
  rintro e w' ⟨a11, c11, rfl, hown, y11, rfl⟩
  have hsy11 := y11.bel.size
  (try simp only [World.size_alloc, World.size_setCell, World.size_drew] at hsy11)
  have O11 := Lib.hid (Owns.of hown)
  clear hown
  go_wp2_with fail
  with_reducible refine (CC1.out _ _ _ (hr3.out.bel (by (repeat (first | (with_reducible exact Below.refl _ _) | (with_reducible assumption) | (with_reducible refine Later.out _ ?_) | (with_reducible refine bel_alloc ?_ _) | (with_reducible refine bel_drew ?_) | (with_reducible refine bel_drewN ?_ _) | (with_reducible refine bel_set ?_ ?_ _) | (with_reducible refine After.out _ ?_ ?_) | (dsimp only; omega) | omega | (simp only [World.size_alloc, World.size_setCell, World.size_drew]; omega)))))).mono ?_
  rintro e w' ⟨rfl, y12, rfl⟩
  have hsy12 := y12.bel.size
  (try simp only [World.size_alloc, World.size_setCell, World.size_drew] at hsy12)
  go_wp2_with fail
  with_reducible refine (CC2.out _ _ _ (hr3.out.bel (by (repeat (first | (with_reducible exact Below.refl _ _) | (with_reducible assumption) | (with_reducible refine Later.out _ ?_) | (with_reducible refine bel_alloc ?_ _) | (with_reducible refine bel_drew ?_) | (with_reducible refine bel_drewN ?_ _) | (with_reducible refine bel_set ?_ ?_ _) | (with_reducible refine After.out _ ?_ ?_) | (dsimp only; omega) | omega | (simp only [World.size_alloc, World.size_setCell, World.size_drew]; omega)))))).mono ?_
  rintro e w' ⟨rfl, y13, rfl⟩
  have hsy13 := y13.bel.size
  (try simp only [World.size_alloc, World.size_setCell, World.size_drew] at hsy13)
  go_wp2_with fail
  with_reducible refine (likeMask_same _ _ _ _ Lo _ _ _ _ _ _ _ rfl rfl lo (O3.out.row.bel (by (repeat (first | (with_reducible exact Below.refl _ _) | (with_reducible assumption) | (with_reducible refine Later.out _ ?_) | (with_reducible refine bel_alloc ?_ _) | (with_reducible refine bel_drew ?_) | (with_reducible refine bel_drewN ?_ _) | (with_reducible refine bel_set ?_ ?_ _) | (with_reducible refine After.out _ ?_ ?_) | (dsimp only; omega) | omega | (simp only [World.size_alloc, World.size_setCell, World.size_drew]; omega))))) (O4.out.row.bel (by (repeat (first | (with_reducible exact Below.refl _ _) | (with_reducible assumption) | (with_reducible refine Later.out _ ?_) | (with_reducible refine bel_alloc ?_ _) | (with_reducible refine bel_drew ?_) | (with_reducible refine bel_drewN ?_ _) | (with_reducible refine bel_set ?_ ?_ _) | (with_reducible refine After.out _ ?_ ?_) | (dsimp only; omega) | omega | (simp only [World.size_alloc, World.size_setCell, World.size_drew]; omega)))))).mono ?_
  rintro e w' ⟨rfl, y14, rfl⟩
  have hsy14 := y14.bel.size
  (try simp only [World.size_alloc, World.size_setCell, World.size_drew] at hsy14)
  go_wp2_with fail
  with_reducible refine (likeMask_same _ _ _ _ La _ _ _ _ _ _ _ rfl rfl la (O5.out.row.bel (by (repeat (first | (with_reducible exact Below.refl _ _) | (with_reducible assumption) | (with_reducible refine Later.out _ ?_) | (with_reducible refine bel_alloc ?_ _) | (with_reducible refine bel_drew ?_) | (with_reducible refine bel_drewN ?_ _) | (with_reducible refine bel_set ?_ ?_ _) | (with_reducible refine After.out _ ?_ ?_) | (dsimp only; omega) | omega | (simp only [World.size_alloc, World.size_setCell, World.size_drew]; omega))))) (O6.out.row.bel (by (repeat (first | (with_reducible exact Below.refl _ _) | (with_reducible assumption) | (with_reducible refine Later.out _ ?_) | (with_reducible refine bel_alloc ?_ _) | (with_reducible refine bel_drew ?_) | (with_reducible refine bel_drewN ?_ _) | (with_reducible refine bel_set ?_ ?_ _) | (with_reducible refine After.out _ ?_ ?_) | (dsimp only; omega) | omega | (simp only [World.size_alloc, World.size_setCell, World.size_drew]; omega)))))).mono ?_
  rintro e w' ⟨rfl, y15, rfl⟩
  have hsy15 := y15.bel.size
  (try simp only [World.size_alloc, World.size_setCell, World.size_drew] at hsy15)
  go_wp2_with fail
  with_reducible refine (likeMask_same _ _ _ _ Ld _ _ _ _ _ _ _ rfl rfl ld (O7.out.row.bel (by (repeat (first | (with_reducible exact Below.refl _ _) | (with_reducible assumption) | (with_reducible refine Later.out _ ?_) | (with_reducible refine bel_alloc ?_ _) | (with_reducible refine bel_drew ?_) | (with_reducible refine bel_drewN ?_ _) | (with_reducible refine bel_set ?_ ?_ _) | (with_reducible refine After.out _ ?_ ?_) | (dsimp only; omega) | omega | (simp only [World.size_alloc, World.size_setCell, World.size_drew]; omega))))) (O8.out.row.bel (by (repeat (first | (with_reducible exact Below.refl _ _) | (with_reducible assumption) | (with_reducible refine Later.out _ ?_) | (with_reducible refine bel_alloc ?_ _) | (with_reducible refine bel_drew ?_) | (with_reducible refine bel_drewN ?_ _) | (with_reducible refine bel_set ?_ ?_ _) | (with_reducible refine After.out _ ?_ ?_) | (dsimp only; omega) | omega | (simp only [World.size_alloc, World.size_setCell, World.size_drew]; omega)))))).mono ?_
  rintro e w' ⟨rfl, y16, rfl⟩
  have hsy16 := y16.bel.size
  (try simp only [World.size_alloc, World.size_setCell, World.size_drew] at hsy16)
  go_wp2_with fail
  with_reducible refine (likeInts_same rfl rfl hL hL (O10.out.row.bel (by (repeat (first | (with_reducible exact Below.refl _ _) | (with_reducible assumption) | (with_reducible refine Later.out _ ?_) | (with_reducible refine bel_alloc ?_ _) | (with_reducible refine bel_drew ?_) | (with_reducible refine bel_drewN ?_ _) | (with_reducible refine bel_set ?_ ?_ _) | (with_reducible refine After.out _ ?_ ?_) | (dsimp only; omega) | omega | (simp only [World.size_alloc, World.size_setCell, World.size_drew]; omega))))) (O11.out.row.bel (by (repeat (first | (with_reducible exact Below.refl _ _) | (with_reducible assumption) | (with_reducible refine Later.out _ ?_) | (with_reducible refine bel_alloc ?_ _) | (with_reducible refine bel_drew ?_) | (with_reducible refine bel_drewN ?_ _) | (with_reducible refine bel_set ?_ ?_ _) | (with_reducible refine After.out _ ?_ ?_) | (dsimp only; omega) | omega | (simp only [World.size_alloc, World.size_setCell, World.size_drew]; omega)))))).mono ?_
  rintro e w' ⟨rfl, y17, rfl⟩
  have hsy17 := y17.bel.size
  (try simp only [World.size_alloc, World.size_setCell, World.size_drew] at hsy17)
  by_cases hpc0 : pc = 0
  · obtain ⟨hMx, hLx⟩ := hpc.out hpc0
    obtain ⟨hcn, hcc⟩ := hVm.out hMx
    have hsum : L.sum = cn := by rw [hLx, hcn]; exact piecesN_sum hMx
    have hLb : ∀ v ∈ L, 0 ≤ v ∧ v ≤ 1048576 := fun v hv => by rw [hLx] at hv; have := piecesN_mem v hv; omega
    have CS := fun a c w hr => sum_any L a L.length c w rfl hL hLb hr
    rw [hsum] at CS
    replace CS := Lib.hid CS
    clear hMx hLx hcn hsum hLb
    subst hpc0
    go_wp2_with fail
    with_reducible refine (CS.out _ _ _ (O10.out.row.bel (by (repeat (first | (with_reducible exact Below.refl _ _) | (with_reducible assumption) | (with_reducible refine Later.out _ ?_) | (with_reducible refine bel_alloc ?_ _) | (with_reducible refine bel_drew ?_) | (with_reducible refine bel_drewN ?_ _) | (with_reducible refine bel_set ?_ ?_ _) | (with_reducible refine After.out _ ?_ ?_) | (dsimp only; omega) | omega | (simp only [World.size_alloc, World.size_setCell, World.size_drew]; omega)))))).mono ?_
    rintro e w' ⟨rfl, y18, rfl⟩
    have hsy18 := y18.bel.size
    (try simp only [World.size_alloc, World.size_setCell, World.size_drew] at hsy18)
    by_cases hcode0 : code = 0
    · obtain ⟨t1, t2, t3, t4, t5, t6, t7⟩ := hcode.out hcode0
      have CA := fun a c w hr => countPoints_any x y W H l1 a l1.length c w rfl hm1 hr
      have CB := fun a c w hr => countPoints_any x' y' W' H' l2 a l2.length c w rfl hm2 hr
      have CU := fun a c w hr => countPoints_any X Y X2 Y2 Lo a Lo.length c w rfl lo hr
      have CM := fun a c w hr => countPoints_any X Y X2 Y2 La a La.length c w rfl la hr
      have CD := fun a c w hr => countPoints_any X Y X2 Y2 Ld a Ld.length c w rfl ld hr
      simp only [countPointsV, t1, t2, t3, t4, t5, if_true] at CA CB CU CM CD
      have b1 := cntB_le l1 l1.length
      have b2 := cntB_le l2 l2.length
      have b3 := cntB_le Lo Lo.length
      have b4 := cntB_le La La.length
      have b5 := cntB_le Ld Ld.length
      obtain ⟨n1, hn1⟩ : ∃ n : Nat, cntB l1 l1.length = n := ⟨_, rfl⟩
      obtain ⟨n2, hn2⟩ : ∃ n : Nat, cntB l2 l2.length = n := ⟨_, rfl⟩
      obtain ⟨n3, hn3⟩ : ∃ n : Nat, cntB Lo Lo.length = n := ⟨_, rfl⟩
      obtain ⟨n4, hn4⟩ : ∃ n : Nat, cntB La La.length = n := ⟨_, rfl⟩
      obtain ⟨n5, hn5⟩ : ∃ n : Nat, cntB Ld Ld.length = n := ⟨_, rfl⟩
      rw [hn1] at CA b1
      rw [hn2] at CB b2
      rw [hn3] at CU b3
      rw [hn4] at CM b4
      rw [hn5] at CD b5
      rw [hn1, hn2, hn3, hn4] at t6
      rw [hn1, hn4, hn5] at t7
      replace CA := Lib.hid CA
      replace CB := Lib.hid CB
      replace CU := Lib.hid CU
      replace CM := Lib.hid CM
      replace CD := Lib.hid CD
      have q1 : ((n3 : Int) + n4 == n1 + n2) = true := by rw [beq_iff_eq]; exact t6
      have q2 : ((n5 : Int) + n4 == n1) = true := by rw [beq_iff_eq]; exact t7
      replace t6 := Lib.hid t6
      replace t7 := Lib.hid t7
      clear hn1 hn2 hn3 hn4 hn5 t1 t2 t3 t4 t5
      subst hcode0
      go_wp2_with fail
      with_reducible refine (CA.out _ _ _ (hr1.out.bel (by (repeat (first | (with_reducible exact Below.refl _ _) | (with_reducible assumption) | (with_reducible refine Later.out _ ?_) | (with_reducible refine bel_alloc ?_ _) | (with_reducible refine bel_drew ?_) | (with_reducible refine bel_drewN ?_ _) | (with_reducible refine bel_set ?_ ?_ _) | (with_reducible refine After.out _ ?_ ?_) | (dsimp only; omega) | omega | (simp only [World.size_alloc, World.size_setCell, World.size_drew]; omega)))))).mono ?_
      rintro e w' ⟨rfl, y19, rfl⟩
      have hsy19 := y19.bel.size
      (try simp only [World.size_alloc, World.size_setCell, World.size_drew] at hsy19)
      go_wp2_with fail
      with_reducible refine (CB.out _ _ _ (hr2.out.bel (by (repeat (first | (with_reducible exact Below.refl _ _) | (with_reducible assumption) | (with_reducible refine Later.out _ ?_) | (with_reducible refine bel_alloc ?_ _) | (with_reducible refine bel_drew ?_) | (with_reducible refine bel_drewN ?_ _) | (with_reducible refine bel_set ?_ ?_ _) | (with_reducible refine After.out _ ?_ ?_) | (dsimp only; omega) | omega | (simp only [World.size_alloc, World.size_setCell, World.size_drew]; omega)))))).mono ?_
      rintro e w' ⟨rfl, y20, rfl⟩
      have hsy20 := y20.bel.size
      (try simp only [World.size_alloc, World.size_setCell, World.size_drew] at hsy20)
      go_wp2_with fail
      with_reducible refine (CU.out _ _ _ (O3.out.row.bel (by (repeat (first | (with_reducible exact Below.refl _ _) | (with_reducible assumption) | (with_reducible refine Later.out _ ?_) | (with_reducible refine bel_alloc ?_ _) | (with_reducible refine bel_drew ?_) | (with_reducible refine bel_drewN ?_ _) | (with_reducible refine bel_set ?_ ?_ _) | (with_reducible refine After.out _ ?_ ?_) | (dsimp only; omega) | omega | (simp only [World.size_alloc, World.size_setCell, World.size_drew]; omega)))))).mono ?_
      rintro e w' ⟨rfl, y21, rfl⟩
      have hsy21 := y21.bel.size
      (try simp only [World.size_alloc, World.size_setCell, World.size_drew] at hsy21)
      go_wp2_with fail
      with_reducible refine (CM.out _ _ _ (O5.out.row.bel (by (repeat (first | (with_reducible exact Below.refl _ _) | (with_reducible assumption) | (with_reducible refine Later.out _ ?_) | (with_reducible refine bel_alloc ?_ _) | (with_reducible refine bel_drew ?_) | (with_reducible refine bel_drewN ?_ _) | (with_reducible refine bel_set ?_ ?_ _) | (with_reducible refine After.out _ ?_ ?_) | (dsimp only; omega) | omega | (simp only [World.size_alloc, World.size_setCell, World.size_drew]; omega)))))).mono ?_
      rintro e w' ⟨rfl, y22, rfl⟩
      have hsy22 := y22.bel.size
      (try simp only [World.size_alloc, World.size_setCell, World.size_drew] at hsy22)
      go_wp2_with fail
      with_reducible refine (CD.out _ _ _ (O7.out.row.bel (by (repeat (first | (with_reducible exact Below.refl _ _) | (with_reducible assumption) | (with_reducible refine Later.out _ ?_) | (with_reducible refine bel_alloc ?_ _) | (with_reducible refine bel_drew ?_) | (with_reducible refine bel_drewN ?_ _) | (with_reducible refine bel_set ?_ ?_ _) | (with_reducible refine After.out _ ?_ ?_) | (dsimp only; omega) | omega | (simp only [World.size_alloc, World.size_setCell, World.size_drew]; omega)))))).mono ?_
      rintro e w' ⟨rfl, y23, rfl⟩
      have hsy23 := y23.bel.size
      (try simp only [World.size_alloc, World.size_setCell, World.size_drew] at hsy23)
      go_wp2_with fail
      go_ret
      refine .mk rfl ?_
      (repeat (first | (with_reducible exact Below.refl _ _) | (with_reducible assumption) | (with_reducible refine Later.out _ ?_) | (with_reducible refine bel_alloc ?_ _) | (with_reducible refine bel_drew ?_) | (with_reducible refine bel_drewN ?_ _) | (with_reducible refine bel_set ?_ ?_ _) | (with_reducible refine After.out _ ?_ ?_) | (dsimp only; omega) | omega | (simp only [World.size_alloc, World.size_setCell, World.size_drew]; omega)))
    · have hcode1 : (code != 0) = true := by simpa using hcode0
      go_wp2_with fail
      go_ret
      refine .mk rfl ?_
      (repeat (first | (with_reducible exact Below.refl _ _) | (with_reducible assumption) | (with_reducible refine Later.out _ ?_) | (with_reducible refine bel_alloc ?_ _) | (with_reducible refine bel_drew ?_) | (with_reducible refine bel_drewN ?_ _) | (with_reducible refine bel_set ?_ ?_ _) | (with_reducible refine After.out _ ?_ ?_) | (dsimp only; omega) | omega | (simp only [World.size_alloc, World.size_setCell, World.size_drew]; omega)))
  · have hpc1 : (pc == 0) = false := by simpa using hpc0
    by_cases hcode0 : code = 0
    · obtain ⟨t1, t2, t3, t4, t5, t6, t7⟩ := hcode.out hcode0
      have CA := fun a c w hr => countPoints_any x y W H l1 a l1.length c w rfl hm1 hr
      have CB := fun a c w hr => countPoints_any x' y' W' H' l2 a l2.length c w rfl hm2 hr
      have CU := fun a c w hr => countPoints_any X Y X2 Y2 Lo a Lo.length c w rfl lo hr
      have CM := fun a c w hr => countPoints_any X Y X2 Y2 La a La.length c w rfl la hr
      have CD := fun a c w hr => countPoints_any X Y X2 Y2 Ld a Ld.length c w rfl ld hr
      simp only [countPointsV, t1, t2, t3, t4, t5, if_true] at CA CB CU CM CD
      have b1 := cntB_le l1 l1.length
      have b2 := cntB_le l2 l2.length
      have b3 := cntB_le Lo Lo.length
      have b4 := cntB_le La La.length
      have b5 := cntB_le Ld Ld.length
      obtain ⟨n1, hn1⟩ : ∃ n : Nat, cntB l1 l1.length = n := ⟨_, rfl⟩
      obtain ⟨n2, hn2⟩ : ∃ n : Nat, cntB l2 l2.length = n := ⟨_, rfl⟩
      obtain ⟨n3, hn3⟩ : ∃ n : Nat, cntB Lo Lo.length = n := ⟨_, rfl⟩
      obtain ⟨n4, hn4⟩ : ∃ n : Nat, cntB La La.length = n := ⟨_, rfl⟩
      obtain ⟨n5, hn5⟩ : ∃ n : Nat, cntB Ld Ld.length = n := ⟨_, rfl⟩
      rw [hn1] at CA b1
      rw [hn2] at CB b2
      rw [hn3] at CU b3
      rw [hn4] at CM b4
      rw [hn5] at CD b5
      rw [hn1, hn2, hn3, hn4] at t6
      rw [hn1, hn4, hn5] at t7
      replace CA := Lib.hid CA
      replace CB := Lib.hid CB
      replace CU := Lib.hid CU
      replace CM := Lib.hid CM
      replace CD := Lib.hid CD
      have q1 : ((n3 : Int) + n4 == n1 + n2) = true := by rw [beq_iff_eq]; exact t6
      have q2 : ((n5 : Int) + n4 == n1) = true := by rw [beq_iff_eq]; exact t7
      replace t6 := Lib.hid t6
      replace t7 := Lib.hid t7
      clear hn1 hn2 hn3 hn4 hn5 t1 t2 t3 t4 t5
      subst hcode0
      go_wp2_with fail
      with_reducible refine (CA.out _ _ _ (hr1.out.bel (by (repeat (first | (with_reducible exact Below.refl _ _) | (with_reducible assumption) | (with_reducible refine Later.out _ ?_) | (with_reducible refine bel_alloc ?_ _) | (with_reducible refine bel_drew ?_) | (with_reducible refine bel_drewN ?_ _) | (with_reducible refine bel_set ?_ ?_ _) | (with_reducible refine After.out _ ?_ ?_) | (dsimp only; omega) | omega | (simp only [World.size_alloc, World.size_setCell, World.size_drew]; omega)))))).mono ?_
      rintro e w' ⟨rfl, y19, rfl⟩
      have hsy19 := y19.bel.size
      (try simp only [World.size_alloc, World.size_setCell, World.size_drew] at hsy19)
      go_wp2_with fail
      with_reducible refine (CB.out _ _ _ (hr2.out.bel (by (repeat (first | (with_reducible exact Below.refl _ _) | (with_reducible assumption) | (with_reducible refine Later.out _ ?_) | (with_reducible refine bel_alloc ?_ _) | (with_reducible refine bel_drew ?_) | (with_reducible refine bel_drewN ?_ _) | (with_reducible refine bel_set ?_ ?_ _) | (with_reducible refine After.out _ ?_ ?_) | (dsimp only; omega) | omega | (simp only [World.size_alloc, World.size_setCell, World.size_drew]; omega)))))).mono ?_
      rintro e w' ⟨rfl, y20, rfl⟩
      have hsy20 := y20.bel.size
      (try simp only [World.size_alloc, World.size_setCell, World.size_drew] at hsy20)
      go_wp2_with fail
      with_reducible refine (CU.out _ _ _ (O3.out.row.bel (by (repeat (first | (with_reducible exact Below.refl _ _) | (with_reducible assumption) | (with_reducible refine Later.out _ ?_) | (with_reducible refine bel_alloc ?_ _) | (with_reducible refine bel_drew ?_) | (with_reducible refine bel_drewN ?_ _) | (with_reducible refine bel_set ?_ ?_ _) | (with_reducible refine After.out _ ?_ ?_) | (dsimp only; omega) | omega | (simp only [World.size_alloc, World.size_setCell, World.size_drew]; omega)))))).mono ?_
      rintro e w' ⟨rfl, y21, rfl⟩
      have hsy21 := y21.bel.size
      (try simp only [World.size_alloc, World.size_setCell, World.size_drew] at hsy21)
      go_wp2_with fail
      with_reducible refine (CM.out _ _ _ (O5.out.row.bel (by (repeat (first | (with_reducible exact Below.refl _ _) | (with_reducible assumption) | (with_reducible refine Later.out _ ?_) | (with_reducible refine bel_alloc ?_ _) | (with_reducible refine bel_drew ?_) | (with_reducible refine bel_drewN ?_ _) | (with_reducible refine bel_set ?_ ?_ _) | (with_reducible refine After.out _ ?_ ?_) | (dsimp only; omega) | omega | (simp only [World.size_alloc, World.size_setCell, World.size_drew]; omega)))))).mono ?_
      rintro e w' ⟨rfl, y22, rfl⟩
      have hsy22 := y22.bel.size
      (try simp only [World.size_alloc, World.size_setCell, World.size_drew] at hsy22)
      go_wp2_with fail
      with_reducible refine (CD.out _ _ _ (O7.out.row.bel (by (repeat (first | (with_reducible exact Below.refl _ _) | (with_reducible assumption) | (with_reducible refine Later.out _ ?_) | (with_reducible refine bel_alloc ?_ _) | (with_reducible refine bel_drew ?_) | (with_reducible refine bel_drewN ?_ _) | (with_reducible refine bel_set ?_ ?_ _) | (with_reducible refine After.out _ ?_ ?_) | (dsimp only; omega) | omega | (simp only [World.size_alloc, World.size_setCell, World.size_drew]; omega)))))).mono ?_
      rintro e w' ⟨rfl, y23, rfl⟩
      have hsy23 := y23.bel.size
      (try simp only [World.size_alloc, World.size_setCell, World.size_drew] at hsy23)
      go_wp2_with fail
      go_ret
      refine .mk rfl ?_
      (repeat (first | (with_reducible exact Below.refl _ _) | (with_reducible assumption) | (with_reducible refine Later.out _ ?_) | (with_reducible refine bel_alloc ?_ _) | (with_reducible refine bel_drew ?_) | (with_reducible refine bel_drewN ?_ _) | (with_reducible refine bel_set ?_ ?_ _) | (with_reducible refine After.out _ ?_ ?_) | (dsimp only; omega) | omega | (simp only [World.size_alloc, World.size_setCell, World.size_drew]; omega)))
    · have hcode1 : (code != 0) = true := by simpa using hcode0
      go_wp2_with fail
      go_ret
      refine .mk rfl ?_
      (repeat (first | (with_reducible exact Below.refl _ _) | (with_reducible assumption) | (with_reducible refine Later.out _ ?_) | (with_reducible refine bel_alloc ?_ _) | (with_reducible refine bel_drew ?_) | (with_reducible refine bel_drewN ?_ _) | (with_reducible refine bel_set ?_ ?_ _) | (with_reducible refine After.out _ ?_ ?_) | (dsimp only; omega) | omega | (simp only [World.size_alloc, World.size_setCell, World.size_drew]; omega)))
end Go.Proofs.Ytpblghjegbfjeaa

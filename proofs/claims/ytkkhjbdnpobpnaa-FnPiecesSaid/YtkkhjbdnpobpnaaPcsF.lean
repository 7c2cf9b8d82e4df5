import Derived.Test.YtkkhjbdnpobpnaaPackMc
import Derived.Test.YtkkhjbdnpobpnaaPackMb
import Derived.Test.YtkkhjbdnpobpnaaDice
import Derived.Test.YtkkhjbdnpobpnaaLikeM
import Derived.Test.YtkkhjbdnpobpnaaSideO
import Derived.Test.YtkkhjbdnpobpnaaRingN
import Derived.Test.YtkkhjbdnpobpnaaHasI
import Derived.Test.YtkkhjbdnpobpnaaPiecesOf
import Derived.Test.YtkkhjbdnpobpnaaMaskV
/- The law Pieces: a piece is in one part, and the mask of a ring has the points inside and on its border. -/
set_option linter.unusedSimpArgs false
set_option linter.unusedVariables false
namespace Go.Proofs.Ytkkhjbdnpobpnaa
open Go.RowKit
theorem DiceOk.btw {w w' : World} {g : Nat} (h : DiceOk w g) {k : Nat} (hb : Between k (k + 1) w w') (hk : g < k) : DiceOk w' g := h.keep fun i hi => hb.block i (by have := h.lt; omega) (.inl (by omega))
theorem DiceOk.drew {w : World} {g : Nat} (h : DiceOk w g) : DiceOk w.drew g := h.keep fun i hi => rfl
set_option maxRecDepth 8000 in
set_option maxHeartbeats 8000000 in
theorem lawPieces_any (a : Option Addr) (n c : Nat) (bs : List Int) (w : World) (hr : Row w a (byteCells bs)) (hl : bs.length = n) (hm : n ≤ maxLen) (hx : ∀ x ∈ bs, 0 ≤ x ∧ x ≤ 255) :
    Calls Try.prog 3 #[.slice a n c] w (Ret w (.bool true)) := by
  by_cases hbig : 4096 < n
  · clear hr hl hx
    go_enter Try.func3, Try.ntmps3
    go_wp2_with fail
    with_reducible refine (big_yes _ _ _ _ hbig hm).mono ?_
    rintro e w' ⟨rfl, y0, rfl⟩
    have hsy0 := y0.bel.size
    (try simp only [World.size_alloc, World.size_setCell, World.size_drew] at hsy0)
    go_wp2_with fail
    go_ret
    refine .mk rfl ?_
    (repeat (first | (with_reducible exact Below.refl _ _) | (with_reducible assumption) | (with_reducible refine Later.out _ ?_) | (with_reducible refine bel_alloc ?_ _) | (with_reducible refine bel_drew ?_) | (with_reducible refine bel_drewN ?_ _) | (with_reducible refine bel_set ?_ ?_ _) | (with_reducible refine After.out _ ?_ ?_) | (dsimp only; omega) | omega | (simp only [World.size_alloc, World.size_setCell, World.size_drew]; omega)))
  have hn4 : n ≤ 4096 := by omega
  replace hr := Lib.hid hr
  replace hx := Lib.hid hx
  replace hl := Lib.hid hl
  clear hbig hm
  go_enter Try.func3, Try.ntmps3
  go_wp2_with fail
  with_reducible refine (big_no _ _ _ _ hn4).mono ?_
  rintro e w' ⟨rfl, y0, rfl⟩
  have hsy0 := y0.bel.size
  (try simp only [World.size_alloc, World.size_setCell, World.size_drew] at hsy0)
  go_wp2_with fail
  with_reducible refine (drawPieceAt_any a n c bs _ (hr.out.bel (by (repeat (first | (with_reducible exact Below.refl _ _) | (with_reducible assumption) | (with_reducible refine Later.out _ ?_) | (with_reducible refine bel_alloc ?_ _) | (with_reducible refine bel_drew ?_) | (with_reducible refine bel_drewN ?_ _) | (with_reducible refine bel_set ?_ ?_ _) | (with_reducible refine After.out _ ?_ ?_) | (dsimp only; omega) | omega | (simp only [World.size_alloc, World.size_setCell, World.size_drew]; omega))))) hl.out hn4 hx.out).mono ?_
  rintro e w' ⟨px, py, x, y, W, H, a1, n1, c1, l1, hl1, hm1, rfl, z1, rfl, hr1⟩
  have hsz1 := z1.bel.size
  (try simp only [World.size_alloc, World.size_setCell, World.size_drew] at hsz1)
  subst hl1
  replace hr1 := Lib.hid hr1
  obtain ⟨X, Y, X2, Y2, code, P, hP⟩ : ∃ X Y X2 Y2 code P, atR x y W H px py l1 = ((X, Y, X2, Y2, code), P) := ⟨_, _, _, _, _, _, rfl⟩
  have hPc := at_cases hP
  have hPl : P.length ≤ 1048576 := by rcases hPc with ⟨_, _, _, _, _, h, _⟩ | ⟨_, h⟩ <;> omega
  replace hP := Lib.hid hP
  replace hPc := Lib.hid hPc
  go_wp2_with fail
  with_reducible refine (at_impl x y W H px py l1 _ _ _ _ X Y X2 Y2 code P hP.out rfl hm1 (hr1.out.bel (by (repeat (first | (with_reducible exact Below.refl _ _) | (with_reducible assumption) | (with_reducible refine Later.out _ ?_) | (with_reducible refine bel_alloc ?_ _) | (with_reducible refine bel_drew ?_) | (with_reducible refine bel_drewN ?_ _) | (with_reducible refine bel_set ?_ ?_ _) | (with_reducible refine After.out _ ?_ ?_) | (dsimp only; omega) | omega | (simp only [World.size_alloc, World.size_setCell, World.size_drew]; omega)))))).mono ?_
  rintro e w' ⟨a2, c2, rfl, hown, y2, rfl⟩
  have hsy2 := y2.bel.size
  (try simp only [World.size_alloc, World.size_setCell, World.size_drew] at hsy2)
  have O2 := Lib.hid (Owns.of hown)
  clear hown
  go_wp2_with fail
  with_reducible refine (at_spec x y W H px py l1 _ _ _ _ X Y X2 Y2 code P hP.out rfl hm1 (hr1.out.bel (by (repeat (first | (with_reducible exact Below.refl _ _) | (with_reducible assumption) | (with_reducible refine Later.out _ ?_) | (with_reducible refine bel_alloc ?_ _) | (with_reducible refine bel_drew ?_) | (with_reducible refine bel_drewN ?_ _) | (with_reducible refine bel_set ?_ ?_ _) | (with_reducible refine After.out _ ?_ ?_) | (dsimp only; omega) | omega | (simp only [World.size_alloc, World.size_setCell, World.size_drew]; omega)))))).mono ?_
  rintro e w' ⟨a3, c3, rfl, hown, y3, rfl⟩
  have hsy3 := y3.bel.size
  (try simp only [World.size_alloc, World.size_setCell, World.size_drew] at hsy3)
  have O3 := Lib.hid (Owns.of hown)
  clear hown
  go_wp2_with fail
  with_reducible refine (drawMaskOfRing_any a n c bs _ (hr.out.bel (by (repeat (first | (with_reducible exact Below.refl _ _) | (with_reducible assumption) | (with_reducible refine Later.out _ ?_) | (with_reducible refine bel_alloc ?_ _) | (with_reducible refine bel_drew ?_) | (with_reducible refine bel_drewN ?_ _) | (with_reducible refine bel_set ?_ ?_ _) | (with_reducible refine After.out _ ?_ ?_) | (dsimp only; omega) | omega | (simp only [World.size_alloc, World.size_setCell, World.size_drew]; omega))))) hl.out hn4 hx.out).mono ?_
  rintro e w' ⟨L, pa, pn, pc, mx, my, mW, mH, a4, n4, c4, l4, k12, hpl, hpc, hpm, hl4, hm4, rfl, z4, rfl, hrp, hr4⟩
  have hsz4 := z4.bel.size
  (try simp only [World.size_alloc, World.size_setCell, World.size_drew] at hsz4)
  replace hrp := Lib.hid hrp
  clear hr4
  obtain ⟨X', Y', X2', Y2', code', R, hR⟩ : ∃ X Y X2 Y2 code R, ringR L mx my mW mH n4 = ((X, Y, X2, Y2, code), R) := ⟨_, _, _, _, _, _, rfl⟩
  have hRc := ring_cases hR
  have hRl : R.length ≤ 1048576 := by rcases hRc with ⟨_, _, _, _, _, h, _⟩ | ⟨_, h⟩ <;> omega
  replace hR := Lib.hid hR
  replace hRc := Lib.hid hRc
  have CSo := Lib.hid (fun p w hR hp hpb hr => sideOf_impl L p pa pn pc w hpl (by omega) hpc hpm hR hp hpb hr)
  have CI := Lib.hid (fun w hr => ring_impl L mx my mW mH pa a4 pn pc n4 c4 w X' Y' X2' Y2' code' R hR.out hpl (by omega) hpc hpm hm4 hr)
  have CJ := Lib.hid (fun w hr => ring_spec L mx my mW mH pa a4 pn pc n4 c4 w X' Y' X2' Y2' code' R hR.out hpl (by omega) hm4 hr)
  clear hR
  go_wp2_with fail
  with_reducible refine (CI.out _ (hrp.out.bel (by (repeat (first | (with_reducible exact Below.refl _ _) | (with_reducible assumption) | (with_reducible refine Later.out _ ?_) | (with_reducible refine bel_alloc ?_ _) | (with_reducible refine bel_drew ?_) | (with_reducible refine bel_drewN ?_ _) | (with_reducible refine bel_set ?_ ?_ _) | (with_reducible refine After.out _ ?_ ?_) | (dsimp only; omega) | omega | (simp only [World.size_alloc, World.size_setCell, World.size_drew]; omega)))))).mono ?_
  rintro e w' ⟨a5, c5, rfl, hown, y5, rfl⟩
  have hsy5 := y5.bel.size
  (try simp only [World.size_alloc, World.size_setCell, World.size_drew] at hsy5)
  have O5 := Lib.hid (Owns.of hown)
  clear hown
  go_wp2_with fail
  with_reducible refine (CJ.out _ (hrp.out.bel (by (repeat (first | (with_reducible exact Below.refl _ _) | (with_reducible assumption) | (with_reducible refine Later.out _ ?_) | (with_reducible refine bel_alloc ?_ _) | (with_reducible refine bel_drew ?_) | (with_reducible refine bel_drewN ?_ _) | (with_reducible refine bel_set ?_ ?_ _) | (with_reducible refine After.out _ ?_ ?_) | (dsimp only; omega) | omega | (simp only [World.size_alloc, World.size_setCell, World.size_drew]; omega)))))).mono ?_
  rintro e w' ⟨a6, c6, rfl, hown, y6, rfl⟩
  have hsy6 := y6.bel.size
  (try simp only [World.size_alloc, World.size_setCell, World.size_drew] at hsy6)
  have O6 := Lib.hid (Owns.of hown)
  clear hown
  go_wp2_with fail
  with_reducible refine (likeMask_same X Y X2 Y2 P _ _ _ _ _ _ _ rfl rfl hPl (O2.out.row.bel (by (repeat (first | (with_reducible exact Below.refl _ _) | (with_reducible assumption) | (with_reducible refine Later.out _ ?_) | (with_reducible refine bel_alloc ?_ _) | (with_reducible refine bel_drew ?_) | (with_reducible refine bel_drewN ?_ _) | (with_reducible refine bel_set ?_ ?_ _) | (with_reducible refine After.out _ ?_ ?_) | (dsimp only; omega) | omega | (simp only [World.size_alloc, World.size_setCell, World.size_drew]; omega))))) (O3.out.row.bel (by (repeat (first | (with_reducible exact Below.refl _ _) | (with_reducible assumption) | (with_reducible refine Later.out _ ?_) | (with_reducible refine bel_alloc ?_ _) | (with_reducible refine bel_drew ?_) | (with_reducible refine bel_drewN ?_ _) | (with_reducible refine bel_set ?_ ?_ _) | (with_reducible refine After.out _ ?_ ?_) | (dsimp only; omega) | omega | (simp only [World.size_alloc, World.size_setCell, World.size_drew]; omega)))))).mono ?_
  rintro e w' ⟨rfl, y7, rfl⟩
  have hsy7 := y7.bel.size
  (try simp only [World.size_alloc, World.size_setCell, World.size_drew] at hsy7)
  go_wp2_with fail
  with_reducible refine (likeMask_same X' Y' X2' Y2' R _ _ _ _ _ _ _ rfl rfl hRl (O5.out.row.bel (by (repeat (first | (with_reducible exact Below.refl _ _) | (with_reducible assumption) | (with_reducible refine Later.out _ ?_) | (with_reducible refine bel_alloc ?_ _) | (with_reducible refine bel_drew ?_) | (with_reducible refine bel_drewN ?_ _) | (with_reducible refine bel_set ?_ ?_ _) | (with_reducible refine After.out _ ?_ ?_) | (dsimp only; omega) | omega | (simp only [World.size_alloc, World.size_setCell, World.size_drew]; omega))))) (O6.out.row.bel (by (repeat (first | (with_reducible exact Below.refl _ _) | (with_reducible assumption) | (with_reducible refine Later.out _ ?_) | (with_reducible refine bel_alloc ?_ _) | (with_reducible refine bel_drew ?_) | (with_reducible refine bel_drewN ?_ _) | (with_reducible refine bel_set ?_ ?_ _) | (with_reducible refine After.out _ ?_ ?_) | (dsimp only; omega) | omega | (simp only [World.size_alloc, World.size_setCell, World.size_drew]; omega)))))).mono ?_
  rintro e w' ⟨rfl, y8, rfl⟩
  have hsy8 := y8.bel.size
  (try simp only [World.size_alloc, World.size_setCell, World.size_drew] at hsy8)
  clear hP CI CJ
  rcases hRc.out with ⟨rfl, rfl, rfl, rfl, rfl, hRn, hMR, hRB, rfl⟩ | ⟨rfl, -⟩
  · clear hRc
    have hrows5 := Lib.hid O5.out.row
    have hlt5 := O5.out.lt
    have hpt := Lib.hid (fun (i j : Int) (i0 : 0 ≤ i) (i1 : i < X2') (j0 : 0 ≤ j) (j1 : j < Y2') => ring_pt hMR i0 i1 j0 j1)
    have hat := Lib.hid (fun (i j : Int) (i0 : 0 ≤ i) (i1 : i < X2') (j0 : 0 ≤ j) (j1 : j < Y2') => ring_at (L := L) hMR i0 i1 j0 j1)
    have hB := box_of hMR
    obtain ⟨b1, b2, b3, b4, b5, b6, b7, b8, b9, b10⟩ := hB
    replace hRB := Lib.hid hRB
    clear hMR b9
    go_wp2_with fail
    with_reducible refine (roll_any a n c bs 1901 _ (hr.out.bel (by (repeat (first | (with_reducible exact Below.refl _ _) | (with_reducible assumption) | (with_reducible refine Later.out _ ?_) | (with_reducible refine bel_alloc ?_ _) | (with_reducible refine bel_drew ?_) | (with_reducible refine bel_drewN ?_ _) | (with_reducible refine bel_set ?_ ?_ _) | (with_reducible refine After.out _ ?_ ?_) | (dsimp only; omega) | omega | (simp only [World.size_alloc, World.size_setCell, World.size_drew]; omega))))) hl.out hn4 hx.out).mono ?_
    rintro e w' ⟨gd, hgd, rfl, yd, rfl, hD⟩
    have hsd := yd.bel.size
    (try simp only [World.size_alloc, World.size_setCell, World.size_drew] at hsd hgd)
    replace hD := Lib.hid hD
    go_wp2_with fail
    go_loopw [16] (fun i wr => ∃ k : Nat, k ≤ 5 ∧ i = .int .i64 k ∧ DiceOk wr gd ∧ Between gd (gd + 1) yd.w wr) (fun i _ => 5 - (intOf i).toNat)
    case atStart => exact ⟨0, by omega, rfl, hD.out, Between.refl _ _ _⟩
    case round =>
      clear hD
      obtain ⟨k, hk, rfl, hD, hb⟩ := hrel
      obtain ⟨q, rfl⟩ := AfterC.mk hb
      have hqs := q.btw.size
      clear hb
      have hDl := hD.lt
      replace hD := Lib.hid hD
      by_cases hlt : k < 5
      · have hk' : (k : Int) < 5 := by omega
        go_wp2_with fail
        refine wp_region_float 17 [(0, true), (1, true), (2, true), (3, true), (4, true), (5, true), (8, true), (9, true), (10, true), (11, true), (12, true), (13, true), (6, false), (7, true), (14, false), (15, true), (16, true), (17, false), (18, false)] (C := AfterC gd (gd + 1) _) (by kernel_rfl) (by kernel_rfl) (by kernel_rfl) rfl (fun _ _ d _ _ h => by cases d <;> exact h) (AfterC.mk ((Between.refl _ _ _).drew)) ?_
        repeat (any_goals (first | (with_reducible apply plan_nil) | ((with_reducible apply float_quiet); (first | (with_reducible exact nth0) | (with_reducible exact nth1) | (with_reducible exact nth2) | (with_reducible exact nth3) | (with_reducible exact nth4) | (with_reducible exact nth5) | (with_reducible exact nth6) | (with_reducible exact nth7) | (with_reducible exact nth8) | (with_reducible exact nth9) | (with_reducible exact nth10) | (with_reducible exact nth11) | (with_reducible exact nth12) | (with_reducible exact nth13) | (with_reducible exact nth14) | (with_reducible exact nth15) | (with_reducible exact nth16) | (with_reducible exact nth17) | (with_reducible exact nth18) | (with_reducible exact nth19) | (with_reducible exact nth20) | (with_reducible exact nth21) | (with_reducible exact nth22) | (with_reducible exact nth23)); rfl; intro KP hKP; go_big_quiet_op; go_big_quiet_on) | ((with_reducible apply float_skip); (first | (with_reducible exact nth0) | (with_reducible exact nth1) | (with_reducible exact nth2) | (with_reducible exact nth3) | (with_reducible exact nth4) | (with_reducible exact nth5) | (with_reducible exact nth6) | (with_reducible exact nth7) | (with_reducible exact nth8) | (with_reducible exact nth9) | (with_reducible exact nth10) | (with_reducible exact nth11) | (with_reducible exact nth12) | (with_reducible exact nth13) | (with_reducible exact nth14) | (with_reducible exact nth15) | (with_reducible exact nth16) | (with_reducible exact nth17) | (with_reducible exact nth18) | (with_reducible exact nth19) | (with_reducible exact nth20) | (with_reducible exact nth21) | (with_reducible exact nth22) | (with_reducible exact nth23)); rfl; rfl; simp only [Act.put, List.setIfInBounds_toArray, List.set_cons_zero, List.set_cons_succ]) | ((with_reducible apply plan_quiet); (first | (with_reducible exact nth0) | (with_reducible exact nth1) | (with_reducible exact nth2) | (with_reducible exact nth3) | (with_reducible exact nth4) | (with_reducible exact nth5) | (with_reducible exact nth6) | (with_reducible exact nth7) | (with_reducible exact nth8) | (with_reducible exact nth9) | (with_reducible exact nth10) | (with_reducible exact nth11) | (with_reducible exact nth12) | (with_reducible exact nth13) | (with_reducible exact nth14) | (with_reducible exact nth15) | (with_reducible exact nth16) | (with_reducible exact nth17) | (with_reducible exact nth18) | (with_reducible exact nth19) | (with_reducible exact nth20) | (with_reducible exact nth21) | (with_reducible exact nth22) | (with_reducible exact nth23)); rfl; intro KP hKP; go_big_quiet_op; go_big_quiet_on) | ((with_reducible apply plan_skip_q); (first | (with_reducible exact nth0) | (with_reducible exact nth1) | (with_reducible exact nth2) | (with_reducible exact nth3) | (with_reducible exact nth4) | (with_reducible exact nth5) | (with_reducible exact nth6) | (with_reducible exact nth7) | (with_reducible exact nth8) | (with_reducible exact nth9) | (with_reducible exact nth10) | (with_reducible exact nth11) | (with_reducible exact nth12) | (with_reducible exact nth13) | (with_reducible exact nth14) | (with_reducible exact nth15) | (with_reducible exact nth16) | (with_reducible exact nth17) | (with_reducible exact nth18) | (with_reducible exact nth19) | (with_reducible exact nth20) | (with_reducible exact nth21) | (with_reducible exact nth22) | (with_reducible exact nth23)); rfl; rfl; simp only [Act.put, List.setIfInBounds_toArray, List.set_cons_zero, List.set_cons_succ]) | ((with_reducible apply float_fork); rfl; (first | (with_reducible exact nth0) | (with_reducible exact nth1) | (with_reducible exact nth2) | (with_reducible exact nth3) | (with_reducible exact nth4) | (with_reducible exact nth5) | (with_reducible exact nth6) | (with_reducible exact nth7) | (with_reducible exact nth8) | (with_reducible exact nth9) | (with_reducible exact nth10) | (with_reducible exact nth11) | (with_reducible exact nth12) | (with_reducible exact nth13) | (with_reducible exact nth14) | (with_reducible exact nth15) | (with_reducible exact nth16) | (with_reducible exact nth17) | (with_reducible exact nth18) | (with_reducible exact nth19) | (with_reducible exact nth20) | (with_reducible exact nth21) | (with_reducible exact nth22) | (with_reducible exact nth23)); (first | (with_reducible exact nth0) | (with_reducible exact nth1) | (with_reducible exact nth2) | (with_reducible exact nth3) | (with_reducible exact nth4) | (with_reducible exact nth5) | (with_reducible exact nth6) | (with_reducible exact nth7) | (with_reducible exact nth8) | (with_reducible exact nth9) | (with_reducible exact nth10) | (with_reducible exact nth11) | (with_reducible exact nth12) | (with_reducible exact nth13) | (with_reducible exact nth14) | (with_reducible exact nth15) | (with_reducible exact nth16) | (with_reducible exact nth17) | (with_reducible exact nth18) | (with_reducible exact nth19) | (with_reducible exact nth20) | (with_reducible exact nth21) | (with_reducible exact nth22) | (with_reducible exact nth23)); rfl; rfl; (intro KP hKP; go_wp2_with (first | (go_at_call 13; have _tst := D2.out; (with_reducible refine (below_any gd Y2' _ (by first | exact D2.out | exact D2.out.below (by (repeat (first | (with_reducible exact Below.refl _ _) | (with_reducible assumption) | (with_reducible refine Later.out _ ?_) | (with_reducible refine bel_alloc ?_ _) | (with_reducible refine bel_drew ?_) | (with_reducible refine bel_drewN ?_ _) | (with_reducible refine bel_set ?_ ?_ _) | (with_reducible refine After.out _ ?_ ?_) | (dsimp only; omega) | omega | (simp only [World.size_alloc, World.size_setCell, World.size_drew]; omega)))) (by omega)) b7).mono ?_); rintro e w' ⟨r2, ⟨r20, r21⟩, rfl, q2, rfl, hd⟩; have hs_q2 := q2.btw.size; have D3 := Lib.hid hd; clear hd; (try simp only [World.size_alloc, World.size_setCell, World.size_drew] at hs_q2)) | (go_at_call 13; (with_reducible refine (below_any gd X2' _ (by first | exact hD.out | exact hD.out.drew | exact hD.out.below (by (repeat (first | (with_reducible exact Below.refl _ _) | (with_reducible assumption) | (with_reducible refine Later.out _ ?_) | (with_reducible refine bel_alloc ?_ _) | (with_reducible refine bel_drew ?_) | (with_reducible refine bel_drewN ?_ _) | (with_reducible refine bel_set ?_ ?_ _) | (with_reducible refine After.out _ ?_ ?_) | (dsimp only; omega) | omega | (simp only [World.size_alloc, World.size_setCell, World.size_drew]; omega)))) (by omega)) b5).mono ?_); rintro e w' ⟨r1, ⟨r10, r11⟩, rfl, q1, rfl, hd⟩; have hs_q1 := q1.btw.size; have D2 := Lib.hid hd; clear hd; (try simp only [World.size_alloc, World.size_setCell, World.size_drew] at hs_q1))); refine hKP _ _ (AfterC.mk (by (repeat (first | (with_reducible exact Between.refl _ _ _) | (with_reducible refine Between.drew ?_) | (with_reducible refine Between.drewN ?_ _) | (with_reducible refine btw_own ?_ ?_ _) | (with_reducible refine btw_later _ ?_) | (with_reducible refine btw_alloc ?_ _) | (with_reducible refine btw_after _ ?_) | (with_reducible refine btw_beyond _ ?_ ?_) | (with_reducible refine Aft.btw _ ?_ ?_) | (with_reducible assumption) | (dsimp only; omega) | omega | ((try simp only [World.size_alloc, World.size_setCell, World.size_drew]); omega))))) ?_; clear hKP KP); rotate_left; (intro KP hKP; go_wp2_with fail; refine hKP _ _ (AfterC.mk (by (repeat (first | (with_reducible exact Between.refl _ _ _) | (with_reducible refine Between.drew ?_) | (with_reducible refine Between.drewN ?_ _) | (with_reducible refine btw_own ?_ ?_ _) | (with_reducible refine btw_later _ ?_) | (with_reducible refine btw_alloc ?_ _) | (with_reducible refine btw_after _ ?_) | (with_reducible refine btw_beyond _ ?_ ?_) | (with_reducible refine Aft.btw _ ?_ ?_) | (with_reducible assumption) | (dsimp only; omega) | omega | ((try simp only [World.size_alloc, World.size_setCell, World.size_drew]); omega))))) ?_; clear hKP KP); (try simp only [List.filter, bne_self_eq_false, Nat.reduceBNe])) | ((with_reducible apply float_last); (first | (with_reducible exact nth0) | (with_reducible exact nth1) | (with_reducible exact nth2) | (with_reducible exact nth3) | (with_reducible exact nth4) | (with_reducible exact nth5) | (with_reducible exact nth6) | (with_reducible exact nth7) | (with_reducible exact nth8) | (with_reducible exact nth9) | (with_reducible exact nth10) | (with_reducible exact nth11) | (with_reducible exact nth12) | (with_reducible exact nth13) | (with_reducible exact nth14) | (with_reducible exact nth15) | (with_reducible exact nth16) | (with_reducible exact nth17) | (with_reducible exact nth18) | (with_reducible exact nth19) | (with_reducible exact nth20) | (with_reducible exact nth21) | (with_reducible exact nth22) | (with_reducible exact nth23)); rfl; (intro KP hKP; go_wp2_with fail; refine hKP _ _ (AfterC.mk (by (repeat (first | (with_reducible exact Between.refl _ _ _) | (with_reducible refine Between.drew ?_) | (with_reducible refine Between.drewN ?_ _) | (with_reducible refine btw_own ?_ ?_ _) | (with_reducible refine btw_later _ ?_) | (with_reducible refine btw_alloc ?_ _) | (with_reducible refine btw_after _ ?_) | (with_reducible refine btw_beyond _ ?_ ?_) | (with_reducible refine Aft.btw _ ?_ ?_) | (with_reducible assumption) | (dsimp only; omega) | omega | ((try simp only [World.size_alloc, World.size_setCell, World.size_drew]); omega))))) ?_; clear hKP KP)) | ((with_reducible apply plan_loud); (first | (with_reducible exact nth0) | (with_reducible exact nth1) | (with_reducible exact nth2) | (with_reducible exact nth3) | (with_reducible exact nth4) | (with_reducible exact nth5) | (with_reducible exact nth6) | (with_reducible exact nth7) | (with_reducible exact nth8) | (with_reducible exact nth9) | (with_reducible exact nth10) | (with_reducible exact nth11) | (with_reducible exact nth12) | (with_reducible exact nth13) | (with_reducible exact nth14) | (with_reducible exact nth15) | (with_reducible exact nth16) | (with_reducible exact nth17) | (with_reducible exact nth18) | (with_reducible exact nth19) | (with_reducible exact nth20) | (with_reducible exact nth21) | (with_reducible exact nth22) | (with_reducible exact nth23)); rfl; (intro KP hKP; go_wp2_with (first | (go_at_call 13; have _tst := D2.out; (with_reducible refine (below_any gd Y2' _ (by first | exact D2.out | exact D2.out.below (by (repeat (first | (with_reducible exact Below.refl _ _) | (with_reducible assumption) | (with_reducible refine Later.out _ ?_) | (with_reducible refine bel_alloc ?_ _) | (with_reducible refine bel_drew ?_) | (with_reducible refine bel_drewN ?_ _) | (with_reducible refine bel_set ?_ ?_ _) | (with_reducible refine After.out _ ?_ ?_) | (dsimp only; omega) | omega | (simp only [World.size_alloc, World.size_setCell, World.size_drew]; omega)))) (by omega)) b7).mono ?_); rintro e w' ⟨r2, ⟨r20, r21⟩, rfl, q2, rfl, hd⟩; have hs_q2 := q2.btw.size; have D3 := Lib.hid hd; clear hd; (try simp only [World.size_alloc, World.size_setCell, World.size_drew] at hs_q2)) | (go_at_call 13; (with_reducible refine (below_any gd X2' _ (by first | exact hD.out | exact hD.out.drew | exact hD.out.below (by (repeat (first | (with_reducible exact Below.refl _ _) | (with_reducible assumption) | (with_reducible refine Later.out _ ?_) | (with_reducible refine bel_alloc ?_ _) | (with_reducible refine bel_drew ?_) | (with_reducible refine bel_drewN ?_ _) | (with_reducible refine bel_set ?_ ?_ _) | (with_reducible refine After.out _ ?_ ?_) | (dsimp only; omega) | omega | (simp only [World.size_alloc, World.size_setCell, World.size_drew]; omega)))) (by omega)) b5).mono ?_); rintro e w' ⟨r1, ⟨r10, r11⟩, rfl, q1, rfl, hd⟩; have hs_q1 := q1.btw.size; have D2 := Lib.hid hd; clear hd; (try simp only [World.size_alloc, World.size_setCell, World.size_drew] at hs_q1))); refine hKP _ _ (AfterC.mk (by (repeat (first | (with_reducible exact Between.refl _ _ _) | (with_reducible refine Between.drew ?_) | (with_reducible refine Between.drewN ?_ _) | (with_reducible refine btw_own ?_ ?_ _) | (with_reducible refine btw_later _ ?_) | (with_reducible refine btw_alloc ?_ _) | (with_reducible refine btw_after _ ?_) | (with_reducible refine btw_beyond _ ?_ ?_) | (with_reducible refine Aft.btw _ ?_ ?_) | (with_reducible assumption) | (dsimp only; omega) | omega | ((try simp only [World.size_alloc, World.size_setCell, World.size_drew]); omega))))) ?_; clear hKP KP))))
        all_goals
          have u1 := r10
          have CS1 := Lib.hid (fun w hr => show Calls Try.prog 14 #[.slice pa pn pc, .agg #[.int .i64 (X' + r1), .int .i64 (Y' + r2)]] w (Ret w (.tuple #[.int .i64 (sideZ L ⟨X' + r1, Y' + r2⟩), .int .i64 0])) from CSo.out ⟨X' + r1, Y' + r2⟩ w hRB.out (hpt.out r1 r2 r10 r11 r20 r21).2 (hpt.out r1 r2 r10 r11 r20 r21).1 hr)
          obtain ⟨K, hK, hKm, hRK⟩ := hat.out r1 r2 r10 r11 r20 r21
          generalize sideZ L ⟨X' + r1, Y' + r2⟩ = sd at CS1 hRK
          replace hRK := Lib.hid hRK
          go_wp2_with fail
          with_reducible refine (CS1.out _ (hrp.out.bel (by (repeat (first | (with_reducible exact Below.refl _ _) | (with_reducible assumption) | (with_reducible refine Later.out _ ?_) | (with_reducible refine bel_alloc ?_ _) | (with_reducible refine bel_drew ?_) | (with_reducible refine bel_drewN ?_ _) | (with_reducible refine bel_set ?_ ?_ _) | (with_reducible refine After.out _ ?_ ?_) | (dsimp only; omega) | omega | (simp only [World.size_alloc, World.size_setCell, World.size_drew]; omega)))))).mono ?_
          rintro e w' ⟨rfl, ys, rfl⟩
          have hss := ys.bel.size
          (try simp only [World.size_alloc, World.size_setCell, World.size_drew] at hss)
          obtain ⟨bk, ok, rfl, hkc⟩ := hrows5.out K (.bool (decide (0 ≤ sd))) (by unfold boolCells; rw [List.getElem?_map, hRK.out]; rfl)
          have hkb : bk < y5.w.heap.size := World.block_lt_of_cell? _ _ hkc
          have hix : wrap64 (wrap64 (wrap64 ((Y' + r2 - Y') * X2') + (X' + r1)) - X') = (K : Int) := by
            have e1 : (Y' + r2 - Y') * X2' = r2 * X2' := by rw [Int.add_comm, Int.add_sub_cancel]
            rw [e1]
            have e2 : wrap64 (r2 * X2') = r2 * X2' := by unfold wrap64; omega
            rw [e2]
            unfold wrap64; omega
          go_wp2_with fail
          have hqb := q.btw
          go_roundw
          case rel => exact ⟨k + 1, by omega, rfl, by first | (refine D3.out.btw (k := q2.w.heap.size) ?_ (by omega); (repeat (first | (with_reducible exact Between.refl _ _ _) | (with_reducible refine Between.drew ?_) | (with_reducible refine Between.drewN ?_ _) | (with_reducible refine Between.set ?_ ?_ ?_ _) | (with_reducible refine btw_later _ ?_) | (with_reducible refine btw_alloc ?_ _) | (with_reducible refine btw_after _ ?_) | (with_reducible assumption) | (dsimp only; omega) | omega)); done) | (refine D3.out.btw (k := q1.w.heap.size) ?_ (by omega); (repeat (first | (with_reducible exact Between.refl _ _ _) | (with_reducible refine Between.drew ?_) | (with_reducible refine Between.drewN ?_ _) | (with_reducible refine Between.set ?_ ?_ ?_ _) | (with_reducible refine btw_later _ ?_) | (with_reducible refine btw_alloc ?_ _) | (with_reducible refine btw_after _ ?_) | (with_reducible assumption) | (dsimp only; omega) | omega)); done) | (refine D3.out.btw (k := q.w.heap.size) ?_ (by omega); (repeat (first | (with_reducible exact Between.refl _ _ _) | (with_reducible refine Between.drew ?_) | (with_reducible refine Between.drewN ?_ _) | (with_reducible refine Between.set ?_ ?_ ?_ _) | (with_reducible refine btw_later _ ?_) | (with_reducible refine btw_alloc ?_ _) | (with_reducible refine btw_after _ ?_) | (with_reducible assumption) | (dsimp only; omega) | omega)); done), by (repeat (first | (with_reducible exact Between.refl _ _ _) | (with_reducible refine Between.drew ?_) | (with_reducible refine Between.drewN ?_ _) | (with_reducible refine btw_own ?_ ?_ _) | (with_reducible refine btw_later _ ?_) | (with_reducible refine btw_alloc ?_ _) | (with_reducible refine btw_after _ ?_) | (with_reducible refine btw_beyond _ ?_ ?_) | (with_reducible refine Aft.btw _ ?_ ?_) | (with_reducible assumption) | (dsimp only; omega) | omega | ((try simp only [World.size_alloc, World.size_setCell, World.size_drew]); omega)))⟩
          case measure => simp [intOf]; omega
      · obtain rfl : k = 5 := by omega
        rcases hPc.out with ⟨rfl, rfl, rfl, rfl, rfl, hPn, hM, s, hs, hPe⟩ | ⟨rfl | rfl, -⟩
        · obtain ⟨v, D, LD, LW, p1, p2, p3, p4, p5, p6, p7, p8⟩ := piece_law hM hs hPe
          clear hM hs hPe hPc
          have CP1 := Lib.hid (fun a c w hr => piecesOf_impl _ _ _ _ P a P.length c w 0 [v] p1 rfl hPl hr)
          have CD := Lib.hid (fun a a' c c' w hr hr' => dif_impl _ _ _ _ _ _ _ _ l1 P a a' l1.length P.length c c' w _ _ _ _ 0 D p2 rfl rfl hm1 hPl hr hr')
          have CP2 := Lib.hid (fun a c w hr => piecesOf_impl _ _ _ _ D a D.length c w 0 LD p4 rfl (by omega) hr)
          have CP3 := Lib.hid (fun a c w hr => piecesOf_impl _ _ _ _ l1 a l1.length c w 0 LW p5 rfl hm1 hr)
          have CH := fun a c w hr => hasInt_any v LW a LW.length c w rfl (by omega) hr
          rw [p7] at CH
          replace CH := Lib.hid CH
          have p6' : wrap64 ((LW.length : Int) - 1) = (LD.length : Int) := by unfold wrap64; omega
          clear p1 p2 p3 p4 p5 p6 p7 p8 hPn
          go_wp2_with fail
          with_reducible refine (CP1.out _ _ _ (O2.out.row.bel (by (repeat (first | (with_reducible exact Below.refl _ _) | (with_reducible assumption) | (with_reducible refine Later.out _ ?_) | (with_reducible refine bel_alloc ?_ _) | (with_reducible refine bel_drew ?_) | (with_reducible refine bel_drewN ?_ _) | (with_reducible refine bel_set ?_ ?_ _) | (with_reducible refine After.out _ ?_ ?_) | (dsimp only; omega) | omega | (simp only [World.size_alloc, World.size_setCell, World.size_drew]; omega)))))).mono ?_
          rintro e w' ⟨a9, c9, rfl, hown, y9, rfl⟩
          have hsy9 := y9.bel.size
          (try simp only [World.size_alloc, World.size_setCell, World.size_drew] at hsy9)
          have O9 := Lib.hid (Owns.of hown)
          clear hown
          obtain ⟨b9, o9, e9, hb9, hc9⟩ := O9.out.row.int (k := 0) (by simp)
          cases e9
          simp only [Nat.add_zero, List.getElem_cons_zero] at hc9
          go_wp2_with fail
          with_reducible refine (CD.out _ _ _ _ _ (hr1.out.bel (by (repeat (first | (with_reducible exact Below.refl _ _) | (with_reducible assumption) | (with_reducible refine Later.out _ ?_) | (with_reducible refine bel_alloc ?_ _) | (with_reducible refine bel_drew ?_) | (with_reducible refine bel_drewN ?_ _) | (with_reducible refine bel_set ?_ ?_ _) | (with_reducible refine After.out _ ?_ ?_) | (dsimp only; omega) | omega | (simp only [World.size_alloc, World.size_setCell, World.size_drew]; omega))))) (O2.out.row.bel (by (repeat (first | (with_reducible exact Below.refl _ _) | (with_reducible assumption) | (with_reducible refine Later.out _ ?_) | (with_reducible refine bel_alloc ?_ _) | (with_reducible refine bel_drew ?_) | (with_reducible refine bel_drewN ?_ _) | (with_reducible refine bel_set ?_ ?_ _) | (with_reducible refine After.out _ ?_ ?_) | (dsimp only; omega) | omega | (simp only [World.size_alloc, World.size_setCell, World.size_drew]; omega)))))).mono ?_
          rintro e w' ⟨a10, c10, rfl, hown, y10, rfl⟩
          have hsy10 := y10.bel.size
          (try simp only [World.size_alloc, World.size_setCell, World.size_drew] at hsy10)
          have O10 := Lib.hid (Owns.of hown)
          clear hown
          go_wp2_with fail
          with_reducible refine (CP2.out _ _ _ (O10.out.row.bel (by (repeat (first | (with_reducible exact Below.refl _ _) | (with_reducible assumption) | (with_reducible refine Later.out _ ?_) | (with_reducible refine bel_alloc ?_ _) | (with_reducible refine bel_drew ?_) | (with_reducible refine bel_drewN ?_ _) | (with_reducible refine bel_set ?_ ?_ _) | (with_reducible refine After.out _ ?_ ?_) | (dsimp only; omega) | omega | (simp only [World.size_alloc, World.size_setCell, World.size_drew]; omega)))))).mono ?_
          rintro e w' ⟨a11, c11, rfl, hown, y11, rfl⟩
          have hsy11 := y11.bel.size
          (try simp only [World.size_alloc, World.size_setCell, World.size_drew] at hsy11)
          have O11 := Lib.hid (Owns.of hown)
          clear hown
          go_wp2_with fail
          with_reducible refine (CP3.out _ _ _ (hr1.out.bel (by (repeat (first | (with_reducible exact Below.refl _ _) | (with_reducible assumption) | (with_reducible refine Later.out _ ?_) | (with_reducible refine bel_alloc ?_ _) | (with_reducible refine bel_drew ?_) | (with_reducible refine bel_drewN ?_ _) | (with_reducible refine bel_set ?_ ?_ _) | (with_reducible refine After.out _ ?_ ?_) | (dsimp only; omega) | omega | (simp only [World.size_alloc, World.size_setCell, World.size_drew]; omega)))))).mono ?_
          rintro e w' ⟨a12, c12, rfl, hown, y12, rfl⟩
          have hsy12 := y12.bel.size
          (try simp only [World.size_alloc, World.size_setCell, World.size_drew] at hsy12)
          have O12 := Lib.hid (Owns.of hown)
          clear hown
          go_wp2_with fail
          with_reducible refine (CH.out _ _ _ (O12.out.row.bel (by (repeat (first | (with_reducible exact Below.refl _ _) | (with_reducible assumption) | (with_reducible refine Later.out _ ?_) | (with_reducible refine bel_alloc ?_ _) | (with_reducible refine bel_drew ?_) | (with_reducible refine bel_drewN ?_ _) | (with_reducible refine bel_set ?_ ?_ _) | (with_reducible refine After.out _ ?_ ?_) | (dsimp only; omega) | omega | (simp only [World.size_alloc, World.size_setCell, World.size_drew]; omega)))))).mono ?_
          rintro e w' ⟨rfl, y13, rfl⟩
          have hsy13 := y13.bel.size
          (try simp only [World.size_alloc, World.size_setCell, World.size_drew] at hsy13)
          go_wp2_with fail
          go_ret
          refine .mk rfl ?_
          (repeat (first | (with_reducible exact Below.refl _ _) | (with_reducible assumption) | (with_reducible refine Later.out _ ?_) | (with_reducible refine bel_alloc ?_ _) | (with_reducible refine bel_drew ?_) | (with_reducible refine bel_drewN ?_ _) | (with_reducible refine bel_set ?_ ?_ _) | (with_reducible refine After.out _ ?_ ?_) | (dsimp only; omega) | omega | (simp only [World.size_alloc, World.size_setCell, World.size_drew]; omega)))
        · go_wp2_with fail
          go_ret
          refine .mk rfl ?_
          (repeat (first | (with_reducible exact Below.refl _ _) | (with_reducible assumption) | (with_reducible refine Later.out _ ?_) | (with_reducible refine bel_alloc ?_ _) | (with_reducible refine bel_drew ?_) | (with_reducible refine bel_drewN ?_ _) | (with_reducible refine bel_set ?_ ?_ _) | (with_reducible refine After.out _ ?_ ?_) | (dsimp only; omega) | omega | (simp only [World.size_alloc, World.size_setCell, World.size_drew]; omega)))
        · go_wp2_with fail
          go_ret
          refine .mk rfl ?_
          (repeat (first | (with_reducible exact Below.refl _ _) | (with_reducible assumption) | (with_reducible refine Later.out _ ?_) | (with_reducible refine bel_alloc ?_ _) | (with_reducible refine bel_drew ?_) | (with_reducible refine bel_drewN ?_ _) | (with_reducible refine bel_set ?_ ?_ _) | (with_reducible refine After.out _ ?_ ?_) | (dsimp only; omega) | omega | (simp only [World.size_alloc, World.size_setCell, World.size_drew]; omega)))
  · clear hRc
    rcases hPc.out with ⟨rfl, rfl, rfl, rfl, rfl, hPn, hM, s, hs, hPe⟩ | ⟨rfl | rfl, -⟩
    · obtain ⟨v, D, LD, LW, p1, p2, p3, p4, p5, p6, p7, p8⟩ := piece_law hM hs hPe
      clear hM hs hPe hPc
      have CP1 := Lib.hid (fun a c w hr => piecesOf_impl _ _ _ _ P a P.length c w 0 [v] p1 rfl hPl hr)
      have CD := Lib.hid (fun a a' c c' w hr hr' => dif_impl _ _ _ _ _ _ _ _ l1 P a a' l1.length P.length c c' w _ _ _ _ 0 D p2 rfl rfl hm1 hPl hr hr')
      have CP2 := Lib.hid (fun a c w hr => piecesOf_impl _ _ _ _ D a D.length c w 0 LD p4 rfl (by omega) hr)
      have CP3 := Lib.hid (fun a c w hr => piecesOf_impl _ _ _ _ l1 a l1.length c w 0 LW p5 rfl hm1 hr)
      have CH := fun a c w hr => hasInt_any v LW a LW.length c w rfl (by omega) hr
      rw [p7] at CH
      replace CH := Lib.hid CH
      have p6' : wrap64 ((LW.length : Int) - 1) = (LD.length : Int) := by unfold wrap64; omega
      clear p1 p2 p3 p4 p5 p6 p7 p8 hPn
      go_wp2_with fail
      with_reducible refine (CP1.out _ _ _ (O2.out.row.bel (by (repeat (first | (with_reducible exact Below.refl _ _) | (with_reducible assumption) | (with_reducible refine Later.out _ ?_) | (with_reducible refine bel_alloc ?_ _) | (with_reducible refine bel_drew ?_) | (with_reducible refine bel_drewN ?_ _) | (with_reducible refine bel_set ?_ ?_ _) | (with_reducible refine After.out _ ?_ ?_) | (dsimp only; omega) | omega | (simp only [World.size_alloc, World.size_setCell, World.size_drew]; omega)))))).mono ?_
      rintro e w' ⟨a9, c9, rfl, hown, y9, rfl⟩
      have hsy9 := y9.bel.size
      (try simp only [World.size_alloc, World.size_setCell, World.size_drew] at hsy9)
      have O9 := Lib.hid (Owns.of hown)
      clear hown
      obtain ⟨b9, o9, e9, hb9, hc9⟩ := O9.out.row.int (k := 0) (by simp)
      cases e9
      simp only [Nat.add_zero, List.getElem_cons_zero] at hc9
      go_wp2_with fail
      with_reducible refine (CD.out _ _ _ _ _ (hr1.out.bel (by (repeat (first | (with_reducible exact Below.refl _ _) | (with_reducible assumption) | (with_reducible refine Later.out _ ?_) | (with_reducible refine bel_alloc ?_ _) | (with_reducible refine bel_drew ?_) | (with_reducible refine bel_drewN ?_ _) | (with_reducible refine bel_set ?_ ?_ _) | (with_reducible refine After.out _ ?_ ?_) | (dsimp only; omega) | omega | (simp only [World.size_alloc, World.size_setCell, World.size_drew]; omega))))) (O2.out.row.bel (by (repeat (first | (with_reducible exact Below.refl _ _) | (with_reducible assumption) | (with_reducible refine Later.out _ ?_) | (with_reducible refine bel_alloc ?_ _) | (with_reducible refine bel_drew ?_) | (with_reducible refine bel_drewN ?_ _) | (with_reducible refine bel_set ?_ ?_ _) | (with_reducible refine After.out _ ?_ ?_) | (dsimp only; omega) | omega | (simp only [World.size_alloc, World.size_setCell, World.size_drew]; omega)))))).mono ?_
      rintro e w' ⟨a10, c10, rfl, hown, y10, rfl⟩
      have hsy10 := y10.bel.size
      (try simp only [World.size_alloc, World.size_setCell, World.size_drew] at hsy10)
      have O10 := Lib.hid (Owns.of hown)
      clear hown
      go_wp2_with fail
      with_reducible refine (CP2.out _ _ _ (O10.out.row.bel (by (repeat (first | (with_reducible exact Below.refl _ _) | (with_reducible assumption) | (with_reducible refine Later.out _ ?_) | (with_reducible refine bel_alloc ?_ _) | (with_reducible refine bel_drew ?_) | (with_reducible refine bel_drewN ?_ _) | (with_reducible refine bel_set ?_ ?_ _) | (with_reducible refine After.out _ ?_ ?_) | (dsimp only; omega) | omega | (simp only [World.size_alloc, World.size_setCell, World.size_drew]; omega)))))).mono ?_
      rintro e w' ⟨a11, c11, rfl, hown, y11, rfl⟩
      have hsy11 := y11.bel.size
      (try simp only [World.size_alloc, World.size_setCell, World.size_drew] at hsy11)
      have O11 := Lib.hid (Owns.of hown)
      clear hown
      go_wp2_with fail
      with_reducible refine (CP3.out _ _ _ (hr1.out.bel (by (repeat (first | (with_reducible exact Below.refl _ _) | (with_reducible assumption) | (with_reducible refine Later.out _ ?_) | (with_reducible refine bel_alloc ?_ _) | (with_reducible refine bel_drew ?_) | (with_reducible refine bel_drewN ?_ _) | (with_reducible refine bel_set ?_ ?_ _) | (with_reducible refine After.out _ ?_ ?_) | (dsimp only; omega) | omega | (simp only [World.size_alloc, World.size_setCell, World.size_drew]; omega)))))).mono ?_
      rintro e w' ⟨a12, c12, rfl, hown, y12, rfl⟩
      have hsy12 := y12.bel.size
      (try simp only [World.size_alloc, World.size_setCell, World.size_drew] at hsy12)
      have O12 := Lib.hid (Owns.of hown)
      clear hown
      go_wp2_with fail
      with_reducible refine (CH.out _ _ _ (O12.out.row.bel (by (repeat (first | (with_reducible exact Below.refl _ _) | (with_reducible assumption) | (with_reducible refine Later.out _ ?_) | (with_reducible refine bel_alloc ?_ _) | (with_reducible refine bel_drew ?_) | (with_reducible refine bel_drewN ?_ _) | (with_reducible refine bel_set ?_ ?_ _) | (with_reducible refine After.out _ ?_ ?_) | (dsimp only; omega) | omega | (simp only [World.size_alloc, World.size_setCell, World.size_drew]; omega)))))).mono ?_
      rintro e w' ⟨rfl, y13, rfl⟩
      have hsy13 := y13.bel.size
      (try simp only [World.size_alloc, World.size_setCell, World.size_drew] at hsy13)
      go_wp2_with fail
      go_ret
      refine .mk rfl ?_
      (repeat (first | (with_reducible exact Below.refl _ _) | (with_reducible assumption) | (with_reducible refine Later.out _ ?_) | (with_reducible refine bel_alloc ?_ _) | (with_reducible refine bel_drew ?_) | (with_reducible refine bel_drewN ?_ _) | (with_reducible refine bel_set ?_ ?_ _) | (with_reducible refine After.out _ ?_ ?_) | (dsimp only; omega) | omega | (simp only [World.size_alloc, World.size_setCell, World.size_drew]; omega)))
    · go_wp2_with fail
      go_ret
      refine .mk rfl ?_
      (repeat (first | (with_reducible exact Below.refl _ _) | (with_reducible assumption) | (with_reducible refine Later.out _ ?_) | (with_reducible refine bel_alloc ?_ _) | (with_reducible refine bel_drew ?_) | (with_reducible refine bel_drewN ?_ _) | (with_reducible refine bel_set ?_ ?_ _) | (with_reducible refine After.out _ ?_ ?_) | (dsimp only; omega) | omega | (simp only [World.size_alloc, World.size_setCell, World.size_drew]; omega)))
    · go_wp2_with fail
      go_ret
      refine .mk rfl ?_
      (repeat (first | (with_reducible exact Below.refl _ _) | (with_reducible assumption) | (with_reducible refine Later.out _ ?_) | (with_reducible refine bel_alloc ?_ _) | (with_reducible refine bel_drew ?_) | (with_reducible refine bel_drewN ?_ _) | (with_reducible refine bel_set ?_ ?_ _) | (with_reducible refine After.out _ ?_ ?_) | (dsimp only; omega) | omega | (simp only [World.size_alloc, World.size_setCell, World.size_drew]; omega)))
end Go.Proofs.Ytkkhjbdnpobpnaa

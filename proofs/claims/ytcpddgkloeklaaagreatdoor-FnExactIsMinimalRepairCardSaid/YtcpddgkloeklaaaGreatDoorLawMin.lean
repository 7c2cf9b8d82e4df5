import Derived.Test.YtcpddgkloeklaaaGreatDoorMinC
import Derived.Test.YtcpddgkloeklaaaGreatDoorLawAre
/- The law IsMinimalRepair. -/
set_option linter.unusedSimpArgs false
set_option linter.unusedVariables false
namespace Go.Proofs.YtcpddgkloeklaaaGreatDoor
open Go.RowKit
set_option maxRecDepth 8000 in
set_option maxHeartbeats 4000000 in
theorem lawIsMinimalRepair_any (L0 : List Clm) (a0 : Option Addr) (n0 c0 : Nat) (l1 : List Int) (a1 : Option Addr) (n1 c1 : Nat) (w : World) (hn0 : L0.length = n0) (hm0 : n0 ≤ maxLen) (hr0 : Row w a0 (clmsCells L0)) (hmx0 : ∀ c ∈ L0, ClmMax c) (hn1 : l1.length = n1) (hm1 : n1 ≤ maxLen) (hr1 : Row w a1 (intCells l1)) (hx : Max w) :
    Calls Tryz.prog 3 #[.slice a0 n0 c0, .slice a1 n1 c1] w (Ret w (.bool true)) := by
  by_cases hbg1 : 1048576 < n1
  · have h1 : decide ((1048576 : Int) < (n1 : Int)) = true := by simp; omega
    have h2 : (1048576 : Int) < (n1 : Int) := by omega
    clear hx hmx0 hr0 hn0 hr1 hn1
    go_enter Tryz.func3, Tryz.ntmps3
    go_wp2_with fail
    go_ret
    exact .mk rfl (by (repeat (first | (with_reducible exact Below.refl _ _) | (with_reducible assumption) | (with_reducible refine Later.out _ ?_) | (with_reducible refine bel_alloc ?_ _) | (with_reducible refine bel_drew ?_) | (with_reducible refine bel_drewN ?_ _) | (with_reducible refine bel_set ?_ ?_ _) | (with_reducible refine After.out _ ?_ ?_) | (dsimp only; omega) | omega | (simp only [World.size_alloc, World.size_setCell, World.size_drew]; omega))))
  have hm11 : n1 ≤ 1048576 := by omega
  have g11 : decide ((1048576 : Int) < (n1 : Int)) = false := by simp; omega
  have g21 : ¬ (1048576 : Int) < (n1 : Int) := by omega
  have C1 := fun w hr => szClaimS_any L0 a0 n0 c0 1048576 w hn0 hm0 hr hmx0 (by omega) (by omega)
  by_cases hbig : (1048576 : Int) - listSz L0 < 0
  · rw [szR_no hbig] at C1
    replace C1 := Lib.hid (C1 w hr0)
    clear hx hmx0 hr0 hn0 hr1 hn1
    go_enter Tryz.func3, Tryz.ntmps3
    go_wp2_with fail
    with_reducible refine (C1.out).mono ?_
    rintro e w' ⟨rfl, y0, rfl⟩
    have hsy0 := y0.bel.size
    (try simp only [World.size_alloc, World.size_setCell, World.size_drew] at hsy0)
    go_wp2_with fail
    go_ret
    exact .mk rfl (by (repeat (first | (with_reducible exact Below.refl _ _) | (with_reducible assumption) | (with_reducible refine Later.out _ ?_) | (with_reducible refine bel_alloc ?_ _) | (with_reducible refine bel_drew ?_) | (with_reducible refine bel_drewN ?_ _) | (with_reducible refine bel_set ?_ ?_ _) | (with_reducible refine After.out _ ?_ ?_) | (dsimp only; omega) | omega | (simp only [World.size_alloc, World.size_setCell, World.size_drew]; omega))))
  rw [szR_yes hbig] at C1
  replace C1 := Lib.hid (C1 w hr0)
  have hlen := listSz_len hbig (by omega)
  have hm0 : n0 ≤ 1048576 := by omega
  have ok := listSz_ok hbig (by omega)
  have hnn := listSz_nonneg L0
  replace hx := Lib.hid hx
  replace hr0 := Lib.hid hr0
  replace hr1 := Lib.hid hr1
  have CT := fun w hr => toClaimS_any L0 a0 n0 c0 w hn0 hm0 hr
  have CQ := fun a c a' c' w hr hr' => eqClaimS_same L0 a a' n0 c n0 c' w hn0 hn0 hm0 hr hr'
  have CN1 := fun w hr => toInt64S_any l1 a1 n1 c1 w hn1 hm11 hr
  have CE1 := fun a c a' c' w hr hr' => eqInt64S_same (l := l1) (a := a) (c := c) (a' := a') (c' := c') (w := w) hn1 hn1 hm11 hm11 hr hr'
  have CS := fun a0 c0 a1 c1 w hr0 hr1 hc1 => mini_spec L0 l1 a0 n0 c0 a1 n1 c1 w hn0 hm0 hn1 hm11 hr0 hr1 ok hc1
  have CI := fun a0 c0 a1 c1 w hr0 hr1 hc1 hx => mini_impl L0 l1 a0 n0 c0 a1 n1 c1 w hn0 hm0 hn1 hm11 hr0 hr1 ok hc1 hx
  obtain ⟨R, hR⟩ : ∃ R, miniR L0 l1 = R := ⟨_, rfl⟩
  obtain ⟨K0, hK0⟩ : ∃ R, codeZ L0 l1 = R := ⟨_, rfl⟩
  simp only [hR, hK0] at CI CS
  replace CT := Lib.hid CT
  replace CQ := Lib.hid CQ
  replace CI := Lib.hid CI
  replace CS := Lib.hid CS
  replace CN1 := Lib.hid CN1
  replace CE1 := Lib.hid CE1
  clear hR hK0 ok hn0 hmx0 hn1
  go_enter Tryz.func3, Tryz.ntmps3
  go_wp2_with fail
  with_reducible refine (C1.out).mono ?_
  rintro e w' ⟨rfl, y0, rfl⟩
  have hsy0 := y0.bel.size
  (try simp only [World.size_alloc, World.size_setCell, World.size_drew] at hsy0)
  go_wp2_with fail
  with_reducible refine (CT.out _ (hr0.out.bel (by (repeat (first | (with_reducible exact Below.refl _ _) | (with_reducible assumption) | (with_reducible refine Later.out _ ?_) | (with_reducible refine bel_alloc ?_ _) | (with_reducible refine bel_drew ?_) | (with_reducible refine bel_drewN ?_ _) | (with_reducible refine bel_set ?_ ?_ _) | (with_reducible refine After.out _ ?_ ?_) | (dsimp only; omega) | omega | (simp only [World.size_alloc, World.size_setCell, World.size_drew]; omega)))))).mono ?_
  rintro e w' ⟨a101, c101, rfl, hown, y1, rfl⟩
  have hsy1 := y1.bel.size
  (try simp only [World.size_alloc, World.size_setCell, World.size_drew] at hsy1)
  have HO1 := Lib.hid (Owns.of hown)
  clear hown
  go_wp2_with fail
  with_reducible refine (CN1.out _ (hr1.out.bel (by (repeat (first | (with_reducible exact Below.refl _ _) | (with_reducible assumption) | (with_reducible refine Later.out _ ?_) | (with_reducible refine bel_alloc ?_ _) | (with_reducible refine bel_drew ?_) | (with_reducible refine bel_drewN ?_ _) | (with_reducible refine bel_set ?_ ?_ _) | (with_reducible refine After.out _ ?_ ?_) | (dsimp only; omega) | omega | (simp only [World.size_alloc, World.size_setCell, World.size_drew]; omega)))))).mono ?_
  rintro e w' ⟨a102, c102, rfl, hown, y2, rfl⟩
  have hsy2 := y2.bel.size
  (try simp only [World.size_alloc, World.size_setCell, World.size_drew] at hsy2)
  have HO2 := Lib.hid (Owns.of hown)
  clear hown
  go_wp2_with fail
  with_reducible refine (CS.out _ _ _ _ _ (HO1.out.row.bel (by (repeat (first | (with_reducible exact Below.refl _ _) | (with_reducible assumption) | (with_reducible refine Later.out _ ?_) | (with_reducible refine bel_alloc ?_ _) | (with_reducible refine bel_drew ?_) | (with_reducible refine bel_drewN ?_ _) | (with_reducible refine bel_set ?_ ?_ _) | (with_reducible refine After.out _ ?_ ?_) | (dsimp only; omega) | omega | (simp only [World.size_alloc, World.size_setCell, World.size_drew]; omega))))) HO2.out.row HO2.out.cap).mono ?_
  rintro e w' ⟨rfl, y3, rfl⟩
  have hsy3 := y3.bel.size
  (try simp only [World.size_alloc, World.size_setCell, World.size_drew] at hsy3)
  go_wp2_with fail
  with_reducible refine (CT.out _ (hr0.out.bel (by (repeat (first | (with_reducible exact Below.refl _ _) | (with_reducible assumption) | (with_reducible refine Later.out _ ?_) | (with_reducible refine bel_alloc ?_ _) | (with_reducible refine bel_drew ?_) | (with_reducible refine bel_drewN ?_ _) | (with_reducible refine bel_set ?_ ?_ _) | (with_reducible refine After.out _ ?_ ?_) | (dsimp only; omega) | omega | (simp only [World.size_alloc, World.size_setCell, World.size_drew]; omega)))))).mono ?_
  rintro e w' ⟨a104, c104, rfl, hown, y4, rfl⟩
  have hsy4 := y4.bel.size
  (try simp only [World.size_alloc, World.size_setCell, World.size_drew] at hsy4)
  have HO4 := Lib.hid (Owns.of hown)
  clear hown
  go_wp2_with fail
  with_reducible refine (CN1.out _ (hr1.out.bel (by (repeat (first | (with_reducible exact Below.refl _ _) | (with_reducible assumption) | (with_reducible refine Later.out _ ?_) | (with_reducible refine bel_alloc ?_ _) | (with_reducible refine bel_drew ?_) | (with_reducible refine bel_drewN ?_ _) | (with_reducible refine bel_set ?_ ?_ _) | (with_reducible refine After.out _ ?_ ?_) | (dsimp only; omega) | omega | (simp only [World.size_alloc, World.size_setCell, World.size_drew]; omega)))))).mono ?_
  rintro e w' ⟨a105, c105, rfl, hown, y5, rfl⟩
  have hsy5 := y5.bel.size
  (try simp only [World.size_alloc, World.size_setCell, World.size_drew] at hsy5)
  have HO5 := Lib.hid (Owns.of hown)
  clear hown
  go_wp2_with fail
  with_reducible refine (CI.out _ _ _ _ _ (HO4.out.row.bel (by (repeat (first | (with_reducible exact Below.refl _ _) | (with_reducible assumption) | (with_reducible refine Later.out _ ?_) | (with_reducible refine bel_alloc ?_ _) | (with_reducible refine bel_drew ?_) | (with_reducible refine bel_drewN ?_ _) | (with_reducible refine bel_set ?_ ?_ _) | (with_reducible refine After.out _ ?_ ?_) | (dsimp only; omega) | omega | (simp only [World.size_alloc, World.size_setCell, World.size_drew]; omega))))) HO5.out.row HO5.out.cap (hx.out.bel (by (repeat (first | (with_reducible exact Below.refl _ _) | (with_reducible assumption) | (with_reducible refine Later.out _ ?_) | (with_reducible refine bel_alloc ?_ _) | (with_reducible refine bel_drew ?_) | (with_reducible refine bel_drewN ?_ _) | (with_reducible refine bel_set ?_ ?_ _) | (with_reducible refine After.out _ ?_ ?_) | (dsimp only; omega) | omega | (simp only [World.size_alloc, World.size_setCell, World.size_drew]; omega)))))).mono ?_
  rintro e w' ⟨rfl, y6, rfl⟩
  have hsy6 := y6.bel.size
  (try simp only [World.size_alloc, World.size_setCell, World.size_drew] at hsy6)
  go_wp2_with fail
  with_reducible refine (CT.out _ (hr0.out.bel (by (repeat (first | (with_reducible exact Below.refl _ _) | (with_reducible assumption) | (with_reducible refine Later.out _ ?_) | (with_reducible refine bel_alloc ?_ _) | (with_reducible refine bel_drew ?_) | (with_reducible refine bel_drewN ?_ _) | (with_reducible refine bel_set ?_ ?_ _) | (with_reducible refine After.out _ ?_ ?_) | (dsimp only; omega) | omega | (simp only [World.size_alloc, World.size_setCell, World.size_drew]; omega)))))).mono ?_
  rintro e w' ⟨a107, c107, rfl, hown, y7, rfl⟩
  have hsy7 := y7.bel.size
  (try simp only [World.size_alloc, World.size_setCell, World.size_drew] at hsy7)
  have HO7 := Lib.hid (Owns.of hown)
  clear hown
  go_wp2_with fail
  with_reducible refine (CQ.out _ _ _ _ _ (HO4.out.row.bel (by (repeat (first | (with_reducible exact Below.refl _ _) | (with_reducible assumption) | (with_reducible refine Later.out _ ?_) | (with_reducible refine bel_alloc ?_ _) | (with_reducible refine bel_drew ?_) | (with_reducible refine bel_drewN ?_ _) | (with_reducible refine bel_set ?_ ?_ _) | (with_reducible refine After.out _ ?_ ?_) | (dsimp only; omega) | omega | (simp only [World.size_alloc, World.size_setCell, World.size_drew]; omega))))) HO7.out.row).mono ?_
  rintro e w' ⟨rfl, y8, rfl⟩
  have hsy8 := y8.bel.size
  (try simp only [World.size_alloc, World.size_setCell, World.size_drew] at hsy8)
  go_wp2_with fail
  with_reducible refine (CN1.out _ (hr1.out.bel (by (repeat (first | (with_reducible exact Below.refl _ _) | (with_reducible assumption) | (with_reducible refine Later.out _ ?_) | (with_reducible refine bel_alloc ?_ _) | (with_reducible refine bel_drew ?_) | (with_reducible refine bel_drewN ?_ _) | (with_reducible refine bel_set ?_ ?_ _) | (with_reducible refine After.out _ ?_ ?_) | (dsimp only; omega) | omega | (simp only [World.size_alloc, World.size_setCell, World.size_drew]; omega)))))).mono ?_
  rintro e w' ⟨a109, c109, rfl, hown, y9, rfl⟩
  have hsy9 := y9.bel.size
  (try simp only [World.size_alloc, World.size_setCell, World.size_drew] at hsy9)
  have HO9 := Lib.hid (Owns.of hown)
  clear hown
  go_wp2_with fail
  with_reducible refine (CE1.out _ _ _ _ _ (HO5.out.row.bel (by (repeat (first | (with_reducible exact Below.refl _ _) | (with_reducible assumption) | (with_reducible refine Later.out _ ?_) | (with_reducible refine bel_alloc ?_ _) | (with_reducible refine bel_drew ?_) | (with_reducible refine bel_drewN ?_ _) | (with_reducible refine bel_set ?_ ?_ _) | (with_reducible refine After.out _ ?_ ?_) | (dsimp only; omega) | omega | (simp only [World.size_alloc, World.size_setCell, World.size_drew]; omega))))) HO9.out.row).mono ?_
  rintro e w' ⟨rfl, y10, rfl⟩
  have hsy10 := y10.bel.size
  (try simp only [World.size_alloc, World.size_setCell, World.size_drew] at hsy10)
  go_wp2_with fail
  go_ret
  exact .mk rfl (by (repeat (first | (with_reducible exact Below.refl _ _) | (with_reducible assumption) | (with_reducible refine Later.out _ ?_) | (with_reducible refine bel_alloc ?_ _) | (with_reducible refine bel_drew ?_) | (with_reducible refine bel_drewN ?_ _) | (with_reducible refine bel_set ?_ ?_ _) | (with_reducible refine After.out _ ?_ ?_) | (dsimp only; omega) | omega | (simp only [World.size_alloc, World.size_setCell, World.size_drew]; omega))))
end Go.Proofs.YtcpddgkloeklaaaGreatDoor

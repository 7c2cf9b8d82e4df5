import Derived.Test.YtcpddgkloeklaaaGreatDoorPackG
import Derived.Test.YtcpddgkloeklaaaGreatDoorPackAb
/- The law SourcesOf. -/
set_option linter.unusedSimpArgs false
set_option linter.unusedVariables false
namespace Go.Proofs.YtcpddgkloeklaaaGreatDoor
open Go.RowKit
set_option maxRecDepth 8000 in
set_option maxHeartbeats 4000000 in
theorem lawSourcesOf_any (L0 : List Clm) (a0 : Option Addr) (n0 c0 : Nat) (l1 : List Int) (a1 : Option Addr) (n1 c1 : Nat) (w : World) (hn0 : L0.length = n0) (hm0 : n0 ≤ maxLen) (hr0 : Row w a0 (clmsCells L0)) (hmx0 : ∀ c ∈ L0, ClmMax c) (hn1 : l1.length = n1) (hm1 : n1 ≤ maxLen) (hr1 : Row w a1 (intCells l1)) (hx : Max w) :
    Calls Tryz.prog 6 #[.slice a0 n0 c0, .slice a1 n1 c1] w (Ret w (.bool true)) := by
  by_cases hbg1 : 1048576 < n1
  · have h1 : decide ((1048576 : Int) < (n1 : Int)) = true := by simp; omega
    have h2 : (1048576 : Int) < (n1 : Int) := by omega
    clear hx hmx0 hr0 hn0 hr1 hn1
    go_enter Tryz.func6, Tryz.ntmps6
    go_wp2_with fail
    go_ret
    exact .mk rfl (by (repeat (first | (with_reducible exact Below.refl _ _) | (with_reducible assumption) | (with_reducible refine Later.out _ ?_) | (with_reducible refine bel_alloc ?_ _) | (with_reducible refine bel_drew ?_) | (with_reducible refine bel_drewN ?_ _) | (with_reducible refine bel_set ?_ ?_ _) | (with_reducible refine After.out _ ?_ ?_) | (dsimp only; omega) | omega | (simp only [World.size_alloc, World.size_setCell, World.size_drew]; omega))))
  have hm11 : n1 ≤ 1048576 := by omega
  have g11 : decide ((1048576 : Int) < (n1 : Int)) = false := by simp; omega
  have g21 : ¬ (1048576 : Int) < (n1 : Int) := by omega
  have C1 := fun w hr => szClaimS_any L0 a0 n0 c0 1048576 w hn0 hm0 hr hmx0 (by omega) (by omega)
  by_cases hbig : (1048576 : Int) - listSz L0 < 0
  · rw [szR_no hbig] at C1
    replace C1 := Lib.hid (C1 w hr0)
    clear hx hmx0 hr0 hn0 hr1 hn1
    go_enter Tryz.func6, Tryz.ntmps6
    go_wp2_with fail
    with_reducible refine (C1.out).mono ?_
    rintro e w' ⟨rfl, y0, rfl⟩
    have hsy0 := y0.bel.size
    (try simp only [World.size_alloc, World.size_setCell, World.size_drew] at hsy0)
    go_wp2_with fail
    go_ret
    exact .mk rfl (by (repeat (first | (with_reducible exact Below.refl _ _) | (with_reducible assumption) | (with_reducible refine Later.out _ ?_) | (with_reducible refine bel_alloc ?_ _) | (with_reducible refine bel_drew ?_) | (with_reducible refine bel_drewN ?_ _) | (with_reducible refine bel_set ?_ ?_ _) | (with_reducible refine After.out _ ?_ ?_) | (dsimp only; omega) | omega | (simp only [World.size_alloc, World.size_setCell, World.size_drew]; omega))))
  rw [szR_yes hbig] at C1
  replace C1 := Lib.hid (C1 w hr0)
  have hlen := listSz_len hbig (by omega)
  have hm0 : n0 ≤ 1048576 := by omega
  have ok := listSz_ok hbig (by omega)
  have hnn := listSz_nonneg L0
  replace hx := Lib.hid hx
  replace hr0 := Lib.hid hr0
  replace hr1 := Lib.hid hr1
  have CT := fun w hr => toClaimS_any L0 a0 n0 c0 w hn0 hm0 hr
  have CQ := fun a c a' c' w hr hr' => eqClaimS_same L0 a a' n0 c n0 c' w hn0 hn0 hm0 hr hr'
  have CN1 := fun w hr => toInt64S_any l1 a1 n1 c1 w hn1 hm11 hr
  have CE1 := fun a c a' c' w hr hr' => eqInt64S_same (l := l1) (a := a) (c := c) (a' := a') (c' := c') (w := w) hn1 hn1 hm11 hm11 hr hr'
  have CS := fun a0 c0 a1 c1 w hr0 hr1 => src_spec L0 l1 a0 n0 c0 a1 n1 c1 w hn0 hm0 hn1 hm11 hr0 hr1 ok
  have CI := fun a0 c0 a1 c1 w hr0 hr1 hx => src_impl L0 l1 a0 n0 c0 a1 n1 c1 w hn0 hm0 hn1 hm11 hr0 hr1 ok hx
  have hRl := srcR_len L0 l1 (hn := hn0) (hm := hm0)
  obtain ⟨R, hR⟩ : ∃ R, srcR L0 l1 = R := ⟨_, rfl⟩
  obtain ⟨K0, hK0⟩ : ∃ R, codeZ L0 l1 = R := ⟨_, rfl⟩
  simp only [hR, hK0] at CI CS
  rw [hR] at hRl
  have CG := fun a c a' c' w hr hr' => eqStringS_same R a a' R.length c R.length c' w rfl rfl hRl hr hr'
  replace CT := Lib.hid CT
  replace CQ := Lib.hid CQ
  replace CI := Lib.hid CI
  replace CS := Lib.hid CS
  replace CN1 := Lib.hid CN1
  replace CE1 := Lib.hid CE1
  replace CG := Lib.hid CG
  clear hR hK0 ok hn0 hmx0 hn1
  go_enter Tryz.func6, Tryz.ntmps6
  go_wp2_with fail
  with_reducible refine (C1.out).mono ?_
  rintro e w' ⟨rfl, y0, rfl⟩
  have hsy0 := y0.bel.size
  (try simp only [World.size_alloc, World.size_setCell, World.size_drew] at hsy0)
  go_wp2_with fail
  with_reducible refine (CT.out _ (hr0.out.bel (by (repeat (first | (with_reducible exact Below.refl _ _) | (with_reducible assumption) | (with_reducible refine Later.out _ ?_) | (with_reducible refine bel_alloc ?_ _) | (with_reducible refine bel_drew ?_) | (with_reducible refine bel_drewN ?_ _) | (with_reducible refine bel_set ?_ ?_ _) | (with_reducible refine After.out _ ?_ ?_) | (dsimp only; omega) | omega | (simp only [World.size_alloc, World.size_setCell, World.size_drew]; omega)))))).mono ?_
  rintro e w' ⟨a101, c101, rfl, hown, y1, rfl⟩
  have hsy1 := y1.bel.size
  (try simp only [World.size_alloc, World.size_setCell, World.size_drew] at hsy1)
  have HO1 := Lib.hid (Owns.of hown)
  clear hown
  go_wp2_with fail
  with_reducible refine (CN1.out _ (hr1.out.bel (by (repeat (first | (with_reducible exact Below.refl _ _) | (with_reducible assumption) | (with_reducible refine Later.out _ ?_) | (with_reducible refine bel_alloc ?_ _) | (with_reducible refine bel_drew ?_) | (with_reducible refine bel_drewN ?_ _) | (with_reducible refine bel_set ?_ ?_ _) | (with_reducible refine After.out _ ?_ ?_) | (dsimp only; omega) | omega | (simp only [World.size_alloc, World.size_setCell, World.size_drew]; omega)))))).mono ?_
  rintro e w' ⟨a102, c102, rfl, hown, y2, rfl⟩
  have hsy2 := y2.bel.size
  (try simp only [World.size_alloc, World.size_setCell, World.size_drew] at hsy2)
  have HO2 := Lib.hid (Owns.of hown)
  clear hown
  go_wp2_with fail
  with_reducible refine (CS.out _ _ _ _ _ (HO1.out.row.bel (by (repeat (first | (with_reducible exact Below.refl _ _) | (with_reducible assumption) | (with_reducible refine Later.out _ ?_) | (with_reducible refine bel_alloc ?_ _) | (with_reducible refine bel_drew ?_) | (with_reducible refine bel_drewN ?_ _) | (with_reducible refine bel_set ?_ ?_ _) | (with_reducible refine After.out _ ?_ ?_) | (dsimp only; omega) | omega | (simp only [World.size_alloc, World.size_setCell, World.size_drew]; omega))))) HO2.out.row).mono ?_
  rintro e w' ⟨a103, c103, rfl, hown, y3, rfl⟩
  have hsy3 := y3.bel.size
  (try simp only [World.size_alloc, World.size_setCell, World.size_drew] at hsy3)
  have HO3 := Lib.hid (Owns.of hown)
  clear hown
  go_wp2_with fail
  with_reducible refine (CT.out _ (hr0.out.bel (by (repeat (first | (with_reducible exact Below.refl _ _) | (with_reducible assumption) | (with_reducible refine Later.out _ ?_) | (with_reducible refine bel_alloc ?_ _) | (with_reducible refine bel_drew ?_) | (with_reducible refine bel_drewN ?_ _) | (with_reducible refine bel_set ?_ ?_ _) | (with_reducible refine After.out _ ?_ ?_) | (dsimp only; omega) | omega | (simp only [World.size_alloc, World.size_setCell, World.size_drew]; omega)))))).mono ?_
  rintro e w' ⟨a104, c104, rfl, hown, y4, rfl⟩
  have hsy4 := y4.bel.size
  (try simp only [World.size_alloc, World.size_setCell, World.size_drew] at hsy4)
  have HO4 := Lib.hid (Owns.of hown)
  clear hown
  go_wp2_with fail
  with_reducible refine (CN1.out _ (hr1.out.bel (by (repeat (first | (with_reducible exact Below.refl _ _) | (with_reducible assumption) | (with_reducible refine Later.out _ ?_) | (with_reducible refine bel_alloc ?_ _) | (with_reducible refine bel_drew ?_) | (with_reducible refine bel_drewN ?_ _) | (with_reducible refine bel_set ?_ ?_ _) | (with_reducible refine After.out _ ?_ ?_) | (dsimp only; omega) | omega | (simp only [World.size_alloc, World.size_setCell, World.size_drew]; omega)))))).mono ?_
  rintro e w' ⟨a105, c105, rfl, hown, y5, rfl⟩
  have hsy5 := y5.bel.size
  (try simp only [World.size_alloc, World.size_setCell, World.size_drew] at hsy5)
  have HO5 := Lib.hid (Owns.of hown)
  clear hown
  go_wp2_with fail
  with_reducible refine (CI.out _ _ _ _ _ (HO4.out.row.bel (by (repeat (first | (with_reducible exact Below.refl _ _) | (with_reducible assumption) | (with_reducible refine Later.out _ ?_) | (with_reducible refine bel_alloc ?_ _) | (with_reducible refine bel_drew ?_) | (with_reducible refine bel_drewN ?_ _) | (with_reducible refine bel_set ?_ ?_ _) | (with_reducible refine After.out _ ?_ ?_) | (dsimp only; omega) | omega | (simp only [World.size_alloc, World.size_setCell, World.size_drew]; omega))))) HO5.out.row (hx.out.bel (by (repeat (first | (with_reducible exact Below.refl _ _) | (with_reducible assumption) | (with_reducible refine Later.out _ ?_) | (with_reducible refine bel_alloc ?_ _) | (with_reducible refine bel_drew ?_) | (with_reducible refine bel_drewN ?_ _) | (with_reducible refine bel_set ?_ ?_ _) | (with_reducible refine After.out _ ?_ ?_) | (dsimp only; omega) | omega | (simp only [World.size_alloc, World.size_setCell, World.size_drew]; omega)))))).mono ?_
  rintro e w' ⟨a106, c106, rfl, hown, y6, rfl⟩
  have hsy6 := y6.bel.size
  (try simp only [World.size_alloc, World.size_setCell, World.size_drew] at hsy6)
  have HO6 := Lib.hid (Owns.of hown)
  clear hown
  go_wp2_with fail
  with_reducible refine (CG.out _ _ _ _ _ HO6.out.row (HO3.out.row.bel (by (repeat (first | (with_reducible exact Below.refl _ _) | (with_reducible assumption) | (with_reducible refine Later.out _ ?_) | (with_reducible refine bel_alloc ?_ _) | (with_reducible refine bel_drew ?_) | (with_reducible refine bel_drewN ?_ _) | (with_reducible refine bel_set ?_ ?_ _) | (with_reducible refine After.out _ ?_ ?_) | (dsimp only; omega) | omega | (simp only [World.size_alloc, World.size_setCell, World.size_drew]; omega)))))).mono ?_
  rintro e w' ⟨rfl, y7, rfl⟩
  have hsy7 := y7.bel.size
  (try simp only [World.size_alloc, World.size_setCell, World.size_drew] at hsy7)
  go_wp2_with fail
  with_reducible refine (CT.out _ (hr0.out.bel (by (repeat (first | (with_reducible exact Below.refl _ _) | (with_reducible assumption) | (with_reducible refine Later.out _ ?_) | (with_reducible refine bel_alloc ?_ _) | (with_reducible refine bel_drew ?_) | (with_reducible refine bel_drewN ?_ _) | (with_reducible refine bel_set ?_ ?_ _) | (with_reducible refine After.out _ ?_ ?_) | (dsimp only; omega) | omega | (simp only [World.size_alloc, World.size_setCell, World.size_drew]; omega)))))).mono ?_
  rintro e w' ⟨a108, c108, rfl, hown, y8, rfl⟩
  have hsy8 := y8.bel.size
  (try simp only [World.size_alloc, World.size_setCell, World.size_drew] at hsy8)
  have HO8 := Lib.hid (Owns.of hown)
  clear hown
  go_wp2_with fail
  with_reducible refine (CQ.out _ _ _ _ _ (HO4.out.row.bel (by (repeat (first | (with_reducible exact Below.refl _ _) | (with_reducible assumption) | (with_reducible refine Later.out _ ?_) | (with_reducible refine bel_alloc ?_ _) | (with_reducible refine bel_drew ?_) | (with_reducible refine bel_drewN ?_ _) | (with_reducible refine bel_set ?_ ?_ _) | (with_reducible refine After.out _ ?_ ?_) | (dsimp only; omega) | omega | (simp only [World.size_alloc, World.size_setCell, World.size_drew]; omega))))) HO8.out.row).mono ?_
  rintro e w' ⟨rfl, y9, rfl⟩
  have hsy9 := y9.bel.size
  (try simp only [World.size_alloc, World.size_setCell, World.size_drew] at hsy9)
  go_wp2_with fail
  with_reducible refine (CN1.out _ (hr1.out.bel (by (repeat (first | (with_reducible exact Below.refl _ _) | (with_reducible assumption) | (with_reducible refine Later.out _ ?_) | (with_reducible refine bel_alloc ?_ _) | (with_reducible refine bel_drew ?_) | (with_reducible refine bel_drewN ?_ _) | (with_reducible refine bel_set ?_ ?_ _) | (with_reducible refine After.out _ ?_ ?_) | (dsimp only; omega) | omega | (simp only [World.size_alloc, World.size_setCell, World.size_drew]; omega)))))).mono ?_
  rintro e w' ⟨a110, c110, rfl, hown, y10, rfl⟩
  have hsy10 := y10.bel.size
  (try simp only [World.size_alloc, World.size_setCell, World.size_drew] at hsy10)
  have HO10 := Lib.hid (Owns.of hown)
  clear hown
  go_wp2_with fail
  with_reducible refine (CE1.out _ _ _ _ _ (HO5.out.row.bel (by (repeat (first | (with_reducible exact Below.refl _ _) | (with_reducible assumption) | (with_reducible refine Later.out _ ?_) | (with_reducible refine bel_alloc ?_ _) | (with_reducible refine bel_drew ?_) | (with_reducible refine bel_drewN ?_ _) | (with_reducible refine bel_set ?_ ?_ _) | (with_reducible refine After.out _ ?_ ?_) | (dsimp only; omega) | omega | (simp only [World.size_alloc, World.size_setCell, World.size_drew]; omega))))) HO10.out.row).mono ?_
  rintro e w' ⟨rfl, y11, rfl⟩
  have hsy11 := y11.bel.size
  (try simp only [World.size_alloc, World.size_setCell, World.size_drew] at hsy11)
  go_wp2_with fail
  with_reducible refine (markClaimS_any _ _ _ _ _ 1 _ _ (HO4.out.bel (B := y4.w.heap.size) (by (repeat (first | (with_reducible exact Below.refl _ _) | (with_reducible assumption) | (with_reducible refine Later.out _ ?_) | (with_reducible refine bel_alloc ?_ _) | (with_reducible refine bel_drew ?_) | (with_reducible refine bel_drewN ?_ _) | (with_reducible refine bel_set ?_ ?_ _) | (with_reducible refine After.out _ ?_ ?_) | (dsimp only; omega) | omega | (simp only [World.size_alloc, World.size_setCell, World.size_drew]; omega)))) (Nat.le_refl _)) (by ((try simp only [World.size_alloc, World.size_setCell, World.size_drew]); omega)) hm0 (by omega) (by omega)).mono ?_
  rintro e w' ⟨rfl, z0, rfl, hown⟩
  have hsz0 := z0.btw.size
  (try simp only [World.size_alloc, World.size_setCell, World.size_drew] at hsz0)
  have HMz0 := Lib.hid hown
  clear hown
  go_wp2_with fail
  with_reducible refine (markInt64S_any _ _ _ _ _ _ _ _ ((HO5.out.bel (B := y5.w.heap.size) (by (repeat (first | (with_reducible exact Below.refl _ _) | (with_reducible assumption) | (with_reducible refine Later.out _ ?_) | (with_reducible refine bel_alloc ?_ _) | (with_reducible refine bel_drew ?_) | (with_reducible refine bel_drewN ?_ _) | (with_reducible refine bel_set ?_ ?_ _) | (with_reducible refine After.out _ ?_ ?_) | (dsimp only; omega) | omega | (simp only [World.size_alloc, World.size_setCell, World.size_drew]; omega)))) (Nat.le_refl _)).btw z0.btw (by ((try simp only [World.size_alloc, World.size_setCell, World.size_drew]); omega))) hm11 (by omega) (by omega)).mono ?_
  rintro e w' ⟨rfl, z1, rfl, hown⟩
  have hsz1 := z1.btw.size
  (try simp only [World.size_alloc, World.size_setCell, World.size_drew] at hsz1)
  have HMz1 := Lib.hid hown
  clear hown
  have HG := Lib.hid (((HO6.out.bel (B := y6.w.heap.size) (by (repeat (first | (with_reducible exact Below.refl _ _) | (with_reducible assumption) | (with_reducible refine Later.out _ ?_) | (with_reducible refine bel_alloc ?_ _) | (with_reducible refine bel_drew ?_) | (with_reducible refine bel_drewN ?_ _) | (with_reducible refine bel_set ?_ ?_ _) | (with_reducible refine After.out _ ?_ ?_) | (dsimp only; omega) | omega | (simp only [World.size_alloc, World.size_setCell, World.size_drew]; omega)))) (Nat.le_refl _)).btw z0.btw (by ((try simp only [World.size_alloc, World.size_setCell, World.size_drew]); omega))).btw z1.btw (by ((try simp only [World.size_alloc, World.size_setCell, World.size_drew]); omega)))
  have HS := Lib.hid (((HO3.out.bel (B := y3.w.heap.size) (by (repeat (first | (with_reducible exact Below.refl _ _) | (with_reducible assumption) | (with_reducible refine Later.out _ ?_) | (with_reducible refine bel_alloc ?_ _) | (with_reducible refine bel_drew ?_) | (with_reducible refine bel_drewN ?_ _) | (with_reducible refine bel_set ?_ ?_ _) | (with_reducible refine After.out _ ?_ ?_) | (dsimp only; omega) | omega | (simp only [World.size_alloc, World.size_setCell, World.size_drew]; omega)))) (Nat.le_refl _)).btw z0.btw (by ((try simp only [World.size_alloc, World.size_setCell, World.size_drew]); omega))).btw z1.btw (by ((try simp only [World.size_alloc, World.size_setCell, World.size_drew]); omega)))
  go_wp2_with fail
  with_reducible refine (CG.out _ _ _ _ _ HG.out.row HS.out.row).mono ?_
  rintro e w' ⟨rfl, y12, rfl⟩
  have hsy12 := y12.bel.size
  (try simp only [World.size_alloc, World.size_setCell, World.size_drew] at hsy12)
  go_wp2_with fail
  with_reducible refine (markStringS_any _ _ _ _ _ 1 _ _ (HG.out.bel y12.bel (by ((try simp only [World.size_alloc, World.size_setCell, World.size_drew]); omega))) (by ((try simp only [World.size_alloc, World.size_setCell, World.size_drew]); omega)) (by omega) (by omega) (by omega)).mono ?_
  rintro e w' ⟨rfl, zg, rfl, hown⟩
  have hszg := zg.btw.size
  (try simp only [World.size_alloc, World.size_setCell, World.size_drew] at hszg)
  have HMg := Lib.hid hown
  clear hown
  go_wp2_with fail
  with_reducible refine (heldStringS_any _ _ _ 1 _ HMg.out.row (by omega) (by omega) (by omega)).mono ?_
  rintro e w' ⟨rfl, y13, rfl⟩
  have hsy13 := y13.bel.size
  (try simp only [World.size_alloc, World.size_setCell, World.size_drew] at hsy13)
  have HS2 := Lib.hid (((HS.out.bel y12.bel (by ((try simp only [World.size_alloc, World.size_setCell, World.size_drew]); omega))).btw zg.btw (by ((try simp only [World.size_alloc, World.size_setCell, World.size_drew]); omega))).bel y13.bel (by ((try simp only [World.size_alloc, World.size_setCell, World.size_drew]); omega)))
  go_wp2_with fail
  with_reducible refine (CT.out _ (hr0.out.bel (by (repeat (first | (with_reducible exact Below.refl _ _) | (with_reducible assumption) | (with_reducible refine Later.out _ ?_) | (with_reducible refine bel_alloc ?_ _) | (with_reducible refine bel_drew ?_) | (with_reducible refine bel_drewN ?_ _) | (with_reducible refine bel_set ?_ ?_ _) | (with_reducible refine After.out _ ?_ ?_) | (dsimp only; omega) | omega | (simp only [World.size_alloc, World.size_setCell, World.size_drew]; omega)))))).mono ?_
  rintro e w' ⟨a114, c114, rfl, hown, y14, rfl⟩
  have hsy14 := y14.bel.size
  (try simp only [World.size_alloc, World.size_setCell, World.size_drew] at hsy14)
  have HO14 := Lib.hid (Owns.of hown)
  clear hown
  go_wp2_with fail
  with_reducible refine (CN1.out _ (hr1.out.bel (by (repeat (first | (with_reducible exact Below.refl _ _) | (with_reducible assumption) | (with_reducible refine Later.out _ ?_) | (with_reducible refine bel_alloc ?_ _) | (with_reducible refine bel_drew ?_) | (with_reducible refine bel_drewN ?_ _) | (with_reducible refine bel_set ?_ ?_ _) | (with_reducible refine After.out _ ?_ ?_) | (dsimp only; omega) | omega | (simp only [World.size_alloc, World.size_setCell, World.size_drew]; omega)))))).mono ?_
  rintro e w' ⟨a115, c115, rfl, hown, y15, rfl⟩
  have hsy15 := y15.bel.size
  (try simp only [World.size_alloc, World.size_setCell, World.size_drew] at hsy15)
  have HO15 := Lib.hid (Owns.of hown)
  clear hown
  go_wp2_with fail
  with_reducible refine (CI.out _ _ _ _ _ (HO14.out.row.bel (by (repeat (first | (with_reducible exact Below.refl _ _) | (with_reducible assumption) | (with_reducible refine Later.out _ ?_) | (with_reducible refine bel_alloc ?_ _) | (with_reducible refine bel_drew ?_) | (with_reducible refine bel_drewN ?_ _) | (with_reducible refine bel_set ?_ ?_ _) | (with_reducible refine After.out _ ?_ ?_) | (dsimp only; omega) | omega | (simp only [World.size_alloc, World.size_setCell, World.size_drew]; omega))))) HO15.out.row (hx.out.bel (by (repeat (first | (with_reducible exact Below.refl _ _) | (with_reducible assumption) | (with_reducible refine Later.out _ ?_) | (with_reducible refine bel_alloc ?_ _) | (with_reducible refine bel_drew ?_) | (with_reducible refine bel_drewN ?_ _) | (with_reducible refine bel_set ?_ ?_ _) | (with_reducible refine After.out _ ?_ ?_) | (dsimp only; omega) | omega | (simp only [World.size_alloc, World.size_setCell, World.size_drew]; omega)))))).mono ?_
  rintro e w' ⟨a116, c116, rfl, hown, y16, rfl⟩
  have hsy16 := y16.bel.size
  (try simp only [World.size_alloc, World.size_setCell, World.size_drew] at hsy16)
  have HO16 := Lib.hid (Owns.of hown)
  clear hown
  go_wp2_with fail
  with_reducible refine (CG.out _ _ _ _ _ HO16.out.row (HS2.out.row.bel (by (repeat (first | (with_reducible exact Below.refl _ _) | (with_reducible assumption) | (with_reducible refine Later.out _ ?_) | (with_reducible refine bel_alloc ?_ _) | (with_reducible refine bel_drew ?_) | (with_reducible refine bel_drewN ?_ _) | (with_reducible refine bel_set ?_ ?_ _) | (with_reducible refine After.out _ ?_ ?_) | (dsimp only; omega) | omega | (simp only [World.size_alloc, World.size_setCell, World.size_drew]; omega)))))).mono ?_
  rintro e w' ⟨rfl, y17, rfl⟩
  have hsy17 := y17.bel.size
  (try simp only [World.size_alloc, World.size_setCell, World.size_drew] at hsy17)
  go_wp2_with fail
  with_reducible refine (heldStringS_any _ _ _ 1 _ (HMg.out.row.bel (by (repeat (first | (with_reducible exact Below.refl _ _) | (with_reducible assumption) | (with_reducible refine Later.out _ ?_) | (with_reducible refine bel_alloc ?_ _) | (with_reducible refine bel_drew ?_) | (with_reducible refine bel_drewN ?_ _) | (with_reducible refine bel_set ?_ ?_ _) | (with_reducible refine After.out _ ?_ ?_) | (dsimp only; omega) | omega | (simp only [World.size_alloc, World.size_setCell, World.size_drew]; omega))))) (by omega) (by omega) (by omega)).mono ?_
  rintro e w' ⟨rfl, y18, rfl⟩
  have hsy18 := y18.bel.size
  (try simp only [World.size_alloc, World.size_setCell, World.size_drew] at hsy18)
  go_wp2_with fail
  go_ret
  exact .mk rfl (by (repeat (first | (with_reducible exact Below.refl _ _) | (with_reducible assumption) | (with_reducible refine Later.out _ ?_) | (with_reducible refine bel_alloc ?_ _) | (with_reducible refine bel_drew ?_) | (with_reducible refine bel_drewN ?_ _) | (with_reducible refine bel_set ?_ ?_ _) | (with_reducible refine After.out _ ?_ ?_) | (dsimp only; omega) | omega | (simp only [World.size_alloc, World.size_setCell, World.size_drew]; omega))))
end Go.Proofs.YtcpddgkloeklaaaGreatDoor

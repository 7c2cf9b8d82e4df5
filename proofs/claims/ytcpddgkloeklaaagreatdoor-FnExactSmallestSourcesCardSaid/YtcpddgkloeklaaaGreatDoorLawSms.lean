import Derived.Test.YtcpddgkloeklaaaGreatDoorPackH
import Derived.Test.YtcpddgkloeklaaaGreatDoorPackGa
import Derived.Test.YtcpddgkloeklaaaGreatDoorPackAb
/- The law SmallestSources. -/
set_option linter.unusedSimpArgs false
set_option linter.unusedVariables false
namespace Go.Proofs.YtcpddgkloeklaaaGreatDoor
open Go.RowKit
set_option maxRecDepth 8000 in
set_option maxHeartbeats 4000000 in
theorem lawSmallestSources_any (L0 : List Clm) (a0 : Option Addr) (n0 c0 : Nat) (w : World) (hn0 : L0.length = n0) (hm0 : n0 ≤ maxLen) (hr0 : Row w a0 (clmsCells L0)) (hmx0 : ∀ c ∈ L0, ClmMax c) (hx : Max w) :
    Calls Tryz.prog 13 #[.slice a0 n0 c0] w (Ret w (.bool true)) := by
  have C1 := fun w hr => szClaimS_any L0 a0 n0 c0 1048576 w hn0 hm0 hr hmx0 (by omega) (by omega)
  by_cases hbig : (1048576 : Int) - listSz L0 < 0
  · rw [szR_no hbig] at C1
    replace C1 := Lib.hid (C1 w hr0)
    clear hx hmx0 hr0 hn0
    go_enter Tryz.func13, Tryz.ntmps13
    go_wp2_with fail
    with_reducible refine (C1.out).mono ?_
    rintro e w' ⟨rfl, y0, rfl⟩
    have hsy0 := y0.bel.size
    (try simp only [World.size_alloc, World.size_setCell, World.size_drew] at hsy0)
    go_wp2_with fail
    go_ret
    exact .mk rfl (by (repeat (first | (with_reducible exact Below.refl _ _) | (with_reducible assumption) | (with_reducible refine Later.out _ ?_) | (with_reducible refine bel_alloc ?_ _) | (with_reducible refine bel_drew ?_) | (with_reducible refine bel_drewN ?_ _) | (with_reducible refine bel_set ?_ ?_ _) | (with_reducible refine After.out _ ?_ ?_) | (dsimp only; omega) | omega | (simp only [World.size_alloc, World.size_setCell, World.size_drew]; omega))))
  rw [szR_yes hbig] at C1
  replace C1 := Lib.hid (C1 w hr0)
  have hlen := listSz_len hbig (by omega)
  have hm0 : n0 ≤ 1048576 := by omega
  have ok := listSz_ok hbig (by omega)
  have hnn := listSz_nonneg L0
  replace hx := Lib.hid hx
  replace hr0 := Lib.hid hr0
  have CT := fun w hr => toClaimS_any L0 a0 n0 c0 w hn0 hm0 hr
  have CQ := fun a c a' c' w hr hr' => eqClaimS_same L0 a a' n0 c n0 c' w hn0 hn0 hm0 hr hr'
  have CS := fun a0 c0 w hr0 => sms_spec L0 a0 n0 c0 w hn0 hm0 hr0 ok
  have CI := fun a0 c0 w hr0 hc0 hx => sms_impl L0 a0 n0 c0 w hn0 hm0 hr0 ok hc0 hx
  have hRl := smsR_len L0 (hn := hn0) (hm := hm0)
  obtain ⟨R, hR⟩ : ∃ R, smsR L0 = R := ⟨_, rfl⟩
  obtain ⟨K0, hK0⟩ : ∃ R, smsK L0 = R := ⟨_, rfl⟩
  simp only [hR, hK0] at CI CS
  rw [hR] at hRl
  have CG := fun a c a' c' w hr hr' => eqStringS_same R a a' R.length c R.length c' w rfl rfl hRl hr hr'
  replace CT := Lib.hid CT
  replace CQ := Lib.hid CQ
  replace CI := Lib.hid CI
  replace CS := Lib.hid CS
  replace CG := Lib.hid CG
  clear hR hK0 ok hn0 hmx0 
  go_enter Tryz.func13, Tryz.ntmps13
  go_wp2_with fail
  with_reducible refine (C1.out).mono ?_
  rintro e w' ⟨rfl, y0, rfl⟩
  have hsy0 := y0.bel.size
  (try simp only [World.size_alloc, World.size_setCell, World.size_drew] at hsy0)
  go_wp2_with fail
  with_reducible refine (CT.out _ (hr0.out.bel (by (repeat (first | (with_reducible exact Below.refl _ _) | (with_reducible assumption) | (with_reducible refine Later.out _ ?_) | (with_reducible refine bel_alloc ?_ _) | (with_reducible refine bel_drew ?_) | (with_reducible refine bel_drewN ?_ _) | (with_reducible refine bel_set ?_ ?_ _) | (with_reducible refine After.out _ ?_ ?_) | (dsimp only; omega) | omega | (simp only [World.size_alloc, World.size_setCell, World.size_drew]; omega)))))).mono ?_
  rintro e w' ⟨a101, c101, rfl, hown, y1, rfl⟩
  have hsy1 := y1.bel.size
  (try simp only [World.size_alloc, World.size_setCell, World.size_drew] at hsy1)
  have HO1 := Lib.hid (Owns.of hown)
  clear hown
  go_wp2_with fail
  with_reducible refine (CS.out _ _ _ HO1.out.row).mono ?_
  rintro e w' ⟨a102, c102, rfl, hown, y2, rfl⟩
  have hsy2 := y2.bel.size
  (try simp only [World.size_alloc, World.size_setCell, World.size_drew] at hsy2)
  have HO2 := Lib.hid (Owns.of hown)
  clear hown
  go_wp2_with fail
  with_reducible refine (CT.out _ (hr0.out.bel (by (repeat (first | (with_reducible exact Below.refl _ _) | (with_reducible assumption) | (with_reducible refine Later.out _ ?_) | (with_reducible refine bel_alloc ?_ _) | (with_reducible refine bel_drew ?_) | (with_reducible refine bel_drewN ?_ _) | (with_reducible refine bel_set ?_ ?_ _) | (with_reducible refine After.out _ ?_ ?_) | (dsimp only; omega) | omega | (simp only [World.size_alloc, World.size_setCell, World.size_drew]; omega)))))).mono ?_
  rintro e w' ⟨a103, c103, rfl, hown, y3, rfl⟩
  have hsy3 := y3.bel.size
  (try simp only [World.size_alloc, World.size_setCell, World.size_drew] at hsy3)
  have HO3 := Lib.hid (Owns.of hown)
  clear hown
  go_wp2_with fail
  with_reducible refine (CI.out _ _ _ HO3.out.row HO3.out.cap (hx.out.bel (by (repeat (first | (with_reducible exact Below.refl _ _) | (with_reducible assumption) | (with_reducible refine Later.out _ ?_) | (with_reducible refine bel_alloc ?_ _) | (with_reducible refine bel_drew ?_) | (with_reducible refine bel_drewN ?_ _) | (with_reducible refine bel_set ?_ ?_ _) | (with_reducible refine After.out _ ?_ ?_) | (dsimp only; omega) | omega | (simp only [World.size_alloc, World.size_setCell, World.size_drew]; omega)))))).mono ?_
  rintro e w' ⟨a104, c104, rfl, hown, y4, rfl⟩
  have hsy4 := y4.bel.size
  (try simp only [World.size_alloc, World.size_setCell, World.size_drew] at hsy4)
  have HO4 := Lib.hid (Owns.of hown)
  clear hown
  go_wp2_with fail
  with_reducible refine (CG.out _ _ _ _ _ HO4.out.row (HO2.out.row.bel (by (repeat (first | (with_reducible exact Below.refl _ _) | (with_reducible assumption) | (with_reducible refine Later.out _ ?_) | (with_reducible refine bel_alloc ?_ _) | (with_reducible refine bel_drew ?_) | (with_reducible refine bel_drewN ?_ _) | (with_reducible refine bel_set ?_ ?_ _) | (with_reducible refine After.out _ ?_ ?_) | (dsimp only; omega) | omega | (simp only [World.size_alloc, World.size_setCell, World.size_drew]; omega)))))).mono ?_
  rintro e w' ⟨rfl, y5, rfl⟩
  have hsy5 := y5.bel.size
  (try simp only [World.size_alloc, World.size_setCell, World.size_drew] at hsy5)
  go_wp2_with fail
  with_reducible refine (CT.out _ (hr0.out.bel (by (repeat (first | (with_reducible exact Below.refl _ _) | (with_reducible assumption) | (with_reducible refine Later.out _ ?_) | (with_reducible refine bel_alloc ?_ _) | (with_reducible refine bel_drew ?_) | (with_reducible refine bel_drewN ?_ _) | (with_reducible refine bel_set ?_ ?_ _) | (with_reducible refine After.out _ ?_ ?_) | (dsimp only; omega) | omega | (simp only [World.size_alloc, World.size_setCell, World.size_drew]; omega)))))).mono ?_
  rintro e w' ⟨a106, c106, rfl, hown, y6, rfl⟩
  have hsy6 := y6.bel.size
  (try simp only [World.size_alloc, World.size_setCell, World.size_drew] at hsy6)
  have HO6 := Lib.hid (Owns.of hown)
  clear hown
  go_wp2_with fail
  with_reducible refine (CQ.out _ _ _ _ _ (HO3.out.row.bel (by (repeat (first | (with_reducible exact Below.refl _ _) | (with_reducible assumption) | (with_reducible refine Later.out _ ?_) | (with_reducible refine bel_alloc ?_ _) | (with_reducible refine bel_drew ?_) | (with_reducible refine bel_drewN ?_ _) | (with_reducible refine bel_set ?_ ?_ _) | (with_reducible refine After.out _ ?_ ?_) | (dsimp only; omega) | omega | (simp only [World.size_alloc, World.size_setCell, World.size_drew]; omega))))) HO6.out.row).mono ?_
  rintro e w' ⟨rfl, y7, rfl⟩
  have hsy7 := y7.bel.size
  (try simp only [World.size_alloc, World.size_setCell, World.size_drew] at hsy7)
  go_wp2_with fail
  with_reducible refine (markClaimS_any _ _ _ _ _ 1 _ _ (HO3.out.bel (B := y3.w.heap.size) (by (repeat (first | (with_reducible exact Below.refl _ _) | (with_reducible assumption) | (with_reducible refine Later.out _ ?_) | (with_reducible refine bel_alloc ?_ _) | (with_reducible refine bel_drew ?_) | (with_reducible refine bel_drewN ?_ _) | (with_reducible refine bel_set ?_ ?_ _) | (with_reducible refine After.out _ ?_ ?_) | (dsimp only; omega) | omega | (simp only [World.size_alloc, World.size_setCell, World.size_drew]; omega)))) (Nat.le_refl _)) (by ((try simp only [World.size_alloc, World.size_setCell, World.size_drew]); omega)) hm0 (by omega) (by omega)).mono ?_
  rintro e w' ⟨rfl, z0, rfl, hown⟩
  have hsz0 := z0.btw.size
  (try simp only [World.size_alloc, World.size_setCell, World.size_drew] at hsz0)
  have HMz0 := Lib.hid hown
  clear hown
  have HG := Lib.hid ((HO4.out.bel (B := y4.w.heap.size) (by (repeat (first | (with_reducible exact Below.refl _ _) | (with_reducible assumption) | (with_reducible refine Later.out _ ?_) | (with_reducible refine bel_alloc ?_ _) | (with_reducible refine bel_drew ?_) | (with_reducible refine bel_drewN ?_ _) | (with_reducible refine bel_set ?_ ?_ _) | (with_reducible refine After.out _ ?_ ?_) | (dsimp only; omega) | omega | (simp only [World.size_alloc, World.size_setCell, World.size_drew]; omega)))) (Nat.le_refl _)).btw z0.btw (by ((try simp only [World.size_alloc, World.size_setCell, World.size_drew]); omega)))
  have HS := Lib.hid ((HO2.out.bel (B := y2.w.heap.size) (by (repeat (first | (with_reducible exact Below.refl _ _) | (with_reducible assumption) | (with_reducible refine Later.out _ ?_) | (with_reducible refine bel_alloc ?_ _) | (with_reducible refine bel_drew ?_) | (with_reducible refine bel_drewN ?_ _) | (with_reducible refine bel_set ?_ ?_ _) | (with_reducible refine After.out _ ?_ ?_) | (dsimp only; omega) | omega | (simp only [World.size_alloc, World.size_setCell, World.size_drew]; omega)))) (Nat.le_refl _)).btw z0.btw (by ((try simp only [World.size_alloc, World.size_setCell, World.size_drew]); omega)))
  go_wp2_with fail
  with_reducible refine (CG.out _ _ _ _ _ HG.out.row HS.out.row).mono ?_
  rintro e w' ⟨rfl, y8, rfl⟩
  have hsy8 := y8.bel.size
  (try simp only [World.size_alloc, World.size_setCell, World.size_drew] at hsy8)
  go_wp2_with fail
  with_reducible refine (markStringS_any _ _ _ _ _ 1 _ _ (HG.out.bel y8.bel (by ((try simp only [World.size_alloc, World.size_setCell, World.size_drew]); omega))) (by ((try simp only [World.size_alloc, World.size_setCell, World.size_drew]); omega)) (by omega) (by omega) (by omega)).mono ?_
  rintro e w' ⟨rfl, zg, rfl, hown⟩
  have hszg := zg.btw.size
  (try simp only [World.size_alloc, World.size_setCell, World.size_drew] at hszg)
  have HMg := Lib.hid hown
  clear hown
  go_wp2_with fail
  with_reducible refine (heldStringS_any _ _ _ 1 _ HMg.out.row (by omega) (by omega) (by omega)).mono ?_
  rintro e w' ⟨rfl, y9, rfl⟩
  have hsy9 := y9.bel.size
  (try simp only [World.size_alloc, World.size_setCell, World.size_drew] at hsy9)
  have HS2 := Lib.hid (((HS.out.bel y8.bel (by ((try simp only [World.size_alloc, World.size_setCell, World.size_drew]); omega))).btw zg.btw (by ((try simp only [World.size_alloc, World.size_setCell, World.size_drew]); omega))).bel y9.bel (by ((try simp only [World.size_alloc, World.size_setCell, World.size_drew]); omega)))
  go_wp2_with fail
  with_reducible refine (CT.out _ (hr0.out.bel (by (repeat (first | (with_reducible exact Below.refl _ _) | (with_reducible assumption) | (with_reducible refine Later.out _ ?_) | (with_reducible refine bel_alloc ?_ _) | (with_reducible refine bel_drew ?_) | (with_reducible refine bel_drewN ?_ _) | (with_reducible refine bel_set ?_ ?_ _) | (with_reducible refine After.out _ ?_ ?_) | (dsimp only; omega) | omega | (simp only [World.size_alloc, World.size_setCell, World.size_drew]; omega)))))).mono ?_
  rintro e w' ⟨a110, c110, rfl, hown, y10, rfl⟩
  have hsy10 := y10.bel.size
  (try simp only [World.size_alloc, World.size_setCell, World.size_drew] at hsy10)
  have HO10 := Lib.hid (Owns.of hown)
  clear hown
  go_wp2_with fail
  with_reducible refine (CI.out _ _ _ HO10.out.row HO10.out.cap (hx.out.bel (by (repeat (first | (with_reducible exact Below.refl _ _) | (with_reducible assumption) | (with_reducible refine Later.out _ ?_) | (with_reducible refine bel_alloc ?_ _) | (with_reducible refine bel_drew ?_) | (with_reducible refine bel_drewN ?_ _) | (with_reducible refine bel_set ?_ ?_ _) | (with_reducible refine After.out _ ?_ ?_) | (dsimp only; omega) | omega | (simp only [World.size_alloc, World.size_setCell, World.size_drew]; omega)))))).mono ?_
  rintro e w' ⟨a111, c111, rfl, hown, y11, rfl⟩
  have hsy11 := y11.bel.size
  (try simp only [World.size_alloc, World.size_setCell, World.size_drew] at hsy11)
  have HO11 := Lib.hid (Owns.of hown)
  clear hown
  go_wp2_with fail
  with_reducible refine (CG.out _ _ _ _ _ HO11.out.row (HS2.out.row.bel (by (repeat (first | (with_reducible exact Below.refl _ _) | (with_reducible assumption) | (with_reducible refine Later.out _ ?_) | (with_reducible refine bel_alloc ?_ _) | (with_reducible refine bel_drew ?_) | (with_reducible refine bel_drewN ?_ _) | (with_reducible refine bel_set ?_ ?_ _) | (with_reducible refine After.out _ ?_ ?_) | (dsimp only; omega) | omega | (simp only [World.size_alloc, World.size_setCell, World.size_drew]; omega)))))).mono ?_
  rintro e w' ⟨rfl, y12, rfl⟩
  have hsy12 := y12.bel.size
  (try simp only [World.size_alloc, World.size_setCell, World.size_drew] at hsy12)
  go_wp2_with fail
  with_reducible refine (heldStringS_any _ _ _ 1 _ (HMg.out.row.bel (by (repeat (first | (with_reducible exact Below.refl _ _) | (with_reducible assumption) | (with_reducible refine Later.out _ ?_) | (with_reducible refine bel_alloc ?_ _) | (with_reducible refine bel_drew ?_) | (with_reducible refine bel_drewN ?_ _) | (with_reducible refine bel_set ?_ ?_ _) | (with_reducible refine After.out _ ?_ ?_) | (dsimp only; omega) | omega | (simp only [World.size_alloc, World.size_setCell, World.size_drew]; omega))))) (by omega) (by omega) (by omega)).mono ?_
  rintro e w' ⟨rfl, y13, rfl⟩
  have hsy13 := y13.bel.size
  (try simp only [World.size_alloc, World.size_setCell, World.size_drew] at hsy13)
  go_wp2_with fail
  go_ret
  exact .mk rfl (by (repeat (first | (with_reducible exact Below.refl _ _) | (with_reducible assumption) | (with_reducible refine Later.out _ ?_) | (with_reducible refine bel_alloc ?_ _) | (with_reducible refine bel_drew ?_) | (with_reducible refine bel_drewN ?_ _) | (with_reducible refine bel_set ?_ ?_ _) | (with_reducible refine After.out _ ?_ ?_) | (dsimp only; omega) | omega | (simp only [World.size_alloc, World.size_setCell, World.size_drew]; omega))))
end Go.Proofs.YtcpddgkloeklaaaGreatDoor

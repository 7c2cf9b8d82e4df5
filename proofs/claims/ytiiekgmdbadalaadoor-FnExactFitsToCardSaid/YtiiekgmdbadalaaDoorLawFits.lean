import Derived.Test.YtiiekgmdbadalaaDoorFits
import Derived.Test.YtiiekgmdbadalaaDoorMark
import Derived.Test.YtiiekgmdbadalaaDoorLawAre
/- The law FitsTo. (BY HAND: turned from what lawgen.py prints.) -/
set_option linter.unusedSimpArgs false
set_option linter.unusedVariables false
namespace Go.Proofs.YtiiekgmdbadalaaDoor
open Go.RowKit
set_option maxRecDepth 8000 in
set_option maxHeartbeats 4000000 in
theorem lawFitsTo_any (L0 : List Clm) (a0 : Option Addr) (n0 c0 : Nat) (d1 : Clm) (w : World) (hn0 : L0.length = n0) (hm0 : n0 ≤ maxLen) (hr0 : Row w a0 (clmsCells L0)) (hmx0 : ∀ c ∈ L0, ClmMax c) (hmd1 : ClmMax d1) (hx : Max w) :
    Calls Tryd.prog 13 #[.slice a0 n0 c0, clmV d1] w (Ret w (.bool true)) := by
  have C1 := fun w hr => szClaimS_any L0 a0 n0 c0 1048576 w hn0 hm0 hr hmx0 (by omega) (by omega)
  by_cases hbig : (1048576 : Int) - listSz L0 < 0
  · rw [szR_no hbig] at C1
    replace C1 := Lib.hid C1
    replace hr0 := Lib.hid hr0
    clear hx hmx0 hn0 hmd1
    go_enter Tryd.func13, Tryd.ntmps13
    go_wp2_with fail
    with_reducible refine (C1.out _ (hr0.out.bel (by (repeat (first | (with_reducible exact Below.refl _ _) | (with_reducible assumption) | (with_reducible refine Later.out _ ?_) | (with_reducible refine bel_alloc ?_ _) | (with_reducible refine bel_drew ?_) | (with_reducible refine bel_drewN ?_ _) | (with_reducible refine bel_set ?_ ?_ _) | (with_reducible refine After.out _ ?_ ?_) | (dsimp only; omega) | omega | (simp only [World.size_alloc, World.size_setCell, World.size_drew]; omega)))))).mono ?_
    rintro e w' ⟨rfl, y0, rfl⟩
    have hsy0 := y0.bel.size
    (try simp only [World.size_alloc, World.size_setCell, World.size_drew] at hsy0)
    go_wp2_with fail
    go_ret
    exact .mk rfl (by (repeat (first | (with_reducible exact Below.refl _ _) | (with_reducible assumption) | (with_reducible refine Later.out _ ?_) | (with_reducible refine bel_alloc ?_ _) | (with_reducible refine bel_drew ?_) | (with_reducible refine bel_drewN ?_ _) | (with_reducible refine bel_set ?_ ?_ _) | (with_reducible refine After.out _ ?_ ?_) | (dsimp only; omega) | omega | (simp only [World.size_alloc, World.size_setCell, World.size_drew]; omega))))
  rw [szR_yes hbig] at C1
  replace C1 := Lib.hid C1
  replace hr0 := Lib.hid hr0
  have hlen := listSz_len hbig (by omega)
  have hm0 : n0 ≤ 1048576 := by omega
  have ok := listSz_ok hbig (by omega)
  have hnn := listSz_nonneg L0
  have nn1 := clmSz_nonneg d1
  have CZ1 := fun w => szClaim_any d1 (1048576 - listSz L0) w hmd1 (by omega) (by omega)
  by_cases hbig1 : (1048576 : Int) - listSz L0 - clmSz d1 < 0
  · rw [szR_no hbig1] at CZ1
    replace CZ1 := Lib.hid CZ1
    clear hx hmx0 hn0 hmd1
    go_enter Tryd.func13, Tryd.ntmps13
    go_wp2_with fail
    with_reducible refine (C1.out _ (hr0.out.bel (by (repeat (first | (with_reducible exact Below.refl _ _) | (with_reducible assumption) | (with_reducible refine Later.out _ ?_) | (with_reducible refine bel_alloc ?_ _) | (with_reducible refine bel_drew ?_) | (with_reducible refine bel_drewN ?_ _) | (with_reducible refine bel_set ?_ ?_ _) | (with_reducible refine After.out _ ?_ ?_) | (dsimp only; omega) | omega | (simp only [World.size_alloc, World.size_setCell, World.size_drew]; omega)))))).mono ?_
    rintro e w' ⟨rfl, y0, rfl⟩
    have hsy0 := y0.bel.size
    (try simp only [World.size_alloc, World.size_setCell, World.size_drew] at hsy0)
    go_wp2_with fail
    with_reducible refine (CZ1.out _).mono ?_
    rintro e w' ⟨rfl, y00, rfl⟩
    have hsy00 := y00.bel.size
    (try simp only [World.size_alloc, World.size_setCell, World.size_drew] at hsy00)
    go_wp2_with fail
    go_ret
    exact .mk rfl (by (repeat (first | (with_reducible exact Below.refl _ _) | (with_reducible assumption) | (with_reducible refine Later.out _ ?_) | (with_reducible refine bel_alloc ?_ _) | (with_reducible refine bel_drew ?_) | (with_reducible refine bel_drewN ?_ _) | (with_reducible refine bel_set ?_ ?_ _) | (with_reducible refine After.out _ ?_ ?_) | (dsimp only; omega) | omega | (simp only [World.size_alloc, World.size_setCell, World.size_drew]; omega))))
  rw [szR_yes hbig1] at CZ1
  have ok1 : ClmOk d1 := clmOk_of hbig1 (by omega)
  replace hx := Lib.hid hx
  have CT := fun w hr => toClaimS_any L0 a0 n0 c0 w hn0 hm0 hr
  have CQ := fun a c a' c' w hr hr' => eqClaimS_same L0 a a' n0 c n0 c' w hn0 hn0 hm0 hr hr'
  have CS := fun a0 c0 w hr0 => fits_spec L0 d1 a0 n0 c0 w hn0 hm0 hr0 ok ok1
  have CI := fun a0 c0 w hr0 hc0 hx => fits_impl L0 d1 a0 n0 c0 w hn0 hm0 hr0 ok ok1 hc0 hx
  obtain ⟨R, hR⟩ : ∃ R, fitsR L0 d1 = R := ⟨_, rfl⟩
  obtain ⟨K0, hK0⟩ : ∃ R, fitsK L0 d1 = R := ⟨_, rfl⟩
  simp only [hR, hK0] at CI CS
  replace CT := Lib.hid CT
  replace CQ := Lib.hid CQ
  replace CI := Lib.hid CI
  replace CS := Lib.hid CS
  replace CZ1 := Lib.hid CZ1
  clear hR hK0 ok hn0 hmx0 ok1 hmd1
  go_enter Tryd.func13, Tryd.ntmps13
  go_wp2_with fail
  with_reducible refine (C1.out _ (hr0.out.bel (by (repeat (first | (with_reducible exact Below.refl _ _) | (with_reducible assumption) | (with_reducible refine Later.out _ ?_) | (with_reducible refine bel_alloc ?_ _) | (with_reducible refine bel_drew ?_) | (with_reducible refine bel_drewN ?_ _) | (with_reducible refine bel_set ?_ ?_ _) | (with_reducible refine After.out _ ?_ ?_) | (dsimp only; omega) | omega | (simp only [World.size_alloc, World.size_setCell, World.size_drew]; omega)))))).mono ?_
  rintro e w' ⟨rfl, y0, rfl⟩
  have hsy0 := y0.bel.size
  (try simp only [World.size_alloc, World.size_setCell, World.size_drew] at hsy0)
  go_wp2_with fail
  with_reducible refine (CZ1.out _).mono ?_
  rintro e w' ⟨rfl, y00, rfl⟩
  have hsy00 := y00.bel.size
  (try simp only [World.size_alloc, World.size_setCell, World.size_drew] at hsy00)
  go_wp2_with fail
  refine wp_region_plan [(0, true), (2, true), (1, false), (3, false), (4, false), (5, true), (6, true), (7, true), (8, true), (9, true)] (C := LaterC _) (by kernel_rfl) (by kernel_rfl) (by kernel_rfl) rfl (fun _ _ d _ _ h => by cases d <;> exact h) (LaterC.mk ((Below.refl _ _).drew)) ?_
  first | (refine plan_quiet nth0 rfl ?_; intro KP hKP; go_big_quiet_op; go_big_quiet_on) | (refine plan_skip_q nth0 rfl rfl ?_; simp only [Act.put, List.setIfInBounds_toArray, List.set_cons_zero, List.set_cons_succ])
  first | (refine plan_quiet nth2 rfl ?_; intro KP hKP; go_big_quiet_op; go_big_quiet_on) | (refine plan_skip_q nth2 rfl rfl ?_; simp only [Act.put, List.setIfInBounds_toArray, List.set_cons_zero, List.set_cons_succ])
  first | (refine plan_loud nth1 rfl ?_; intro KP hKP; go_wp2_with (first | (go_at_call 27; (with_reducible refine (CT.out _ (hr0.out.bel (by (repeat (first | (with_reducible exact Below.refl _ _) | (with_reducible assumption) | (with_reducible refine Later.out _ ?_) | (with_reducible refine bel_alloc ?_ _) | (with_reducible refine bel_drew ?_) | (with_reducible refine bel_drewN ?_ _) | (with_reducible refine bel_set ?_ ?_ _) | (with_reducible refine After.out _ ?_ ?_) | (dsimp only; omega) | omega | (simp only [World.size_alloc, World.size_setCell, World.size_drew]; omega)))))).mono ?_); rintro e w' ⟨a101, c101, rfl, hown, y1, rfl⟩; have hsz := y1.bel.size; (try simp only [World.size_alloc, World.size_setCell, World.size_drew] at hsz); (try have hz0 : w.heap.size < y1.w.heap.size := (by omega)); (try have hz1 : w.heap.size + 1 < y1.w.heap.size := (by omega)); (try have hz2 : w.heap.size + 1 + 1 < y1.w.heap.size := (by omega)); have HO1 := Lib.hid (Owns.of hown); clear hown) | (go_at_call 21; (with_reducible refine (toClaim_any d1 _).mono ?_); rintro e w' ⟨rfl, y2, rfl⟩; have hs2 := y2.bel.size; (try simp only [World.size_alloc, World.size_setCell, World.size_drew] at hs2)) | (go_at_call 53; (with_reducible refine (CS.out _ _ _ (HO1.out.row.bel (by (repeat (first | (with_reducible exact Below.refl _ _) | (with_reducible assumption) | (with_reducible refine Later.out _ ?_) | (with_reducible refine bel_alloc ?_ _) | (with_reducible refine bel_drew ?_) | (with_reducible refine bel_drewN ?_ _) | (with_reducible refine bel_set ?_ ?_ _) | (with_reducible refine After.out _ ?_ ?_) | (dsimp only; omega) | omega | (simp only [World.size_alloc, World.size_setCell, World.size_drew]; omega)))))).mono ?_); rintro e w' ⟨rfl, y3, rfl⟩; have hs3 := y3.bel.size; (try simp only [World.size_alloc, World.size_setCell, World.size_drew] at hs3))); refine hKP _ _ (LaterC.mk (by (repeat (first | (with_reducible exact Below.refl _ _) | (with_reducible assumption) | (with_reducible refine Later.out _ ?_) | (with_reducible refine bel_alloc ?_ _) | (with_reducible refine bel_drew ?_) | (with_reducible refine bel_drewN ?_ _) | (with_reducible refine bel_set ?_ ?_ _) | (with_reducible refine After.out _ ?_ ?_) | (dsimp only; omega) | omega | (simp only [World.size_alloc, World.size_setCell, World.size_drew]; omega))))) ?_; clear hKP KP) | (refine plan_skip nth1 rfl rfl (LaterC.mk (by (repeat (first | (with_reducible exact Below.refl _ _) | (with_reducible assumption) | (with_reducible refine Later.out _ ?_) | (with_reducible refine bel_alloc ?_ _) | (with_reducible refine bel_drew ?_) | (with_reducible refine bel_drewN ?_ _) | (with_reducible refine bel_set ?_ ?_ _) | (with_reducible refine After.out _ ?_ ?_) | (dsimp only; omega) | omega | (simp only [World.size_alloc, World.size_setCell, World.size_drew]; omega))))) ?_; simp only [Act.put, List.setIfInBounds_toArray, List.set_cons_zero, List.set_cons_succ])
  first | (refine plan_loud nth3 rfl ?_; intro KP hKP; go_wp2_with (first | (go_at_call 27; (with_reducible refine (CT.out _ (hr0.out.bel (by (repeat (first | (with_reducible exact Below.refl _ _) | (with_reducible assumption) | (with_reducible refine Later.out _ ?_) | (with_reducible refine bel_alloc ?_ _) | (with_reducible refine bel_drew ?_) | (with_reducible refine bel_drewN ?_ _) | (with_reducible refine bel_set ?_ ?_ _) | (with_reducible refine After.out _ ?_ ?_) | (dsimp only; omega) | omega | (simp only [World.size_alloc, World.size_setCell, World.size_drew]; omega)))))).mono ?_); rintro e w' ⟨a101, c101, rfl, hown, y1, rfl⟩; have hsz := y1.bel.size; (try simp only [World.size_alloc, World.size_setCell, World.size_drew] at hsz); (try have hz0 : w.heap.size < y1.w.heap.size := (by omega)); (try have hz1 : w.heap.size + 1 < y1.w.heap.size := (by omega)); (try have hz2 : w.heap.size + 1 + 1 < y1.w.heap.size := (by omega)); have HO1 := Lib.hid (Owns.of hown); clear hown) | (go_at_call 21; (with_reducible refine (toClaim_any d1 _).mono ?_); rintro e w' ⟨rfl, y2, rfl⟩; have hs2 := y2.bel.size; (try simp only [World.size_alloc, World.size_setCell, World.size_drew] at hs2)) | (go_at_call 53; (with_reducible refine (CS.out _ _ _ (HO1.out.row.bel (by (repeat (first | (with_reducible exact Below.refl _ _) | (with_reducible assumption) | (with_reducible refine Later.out _ ?_) | (with_reducible refine bel_alloc ?_ _) | (with_reducible refine bel_drew ?_) | (with_reducible refine bel_drewN ?_ _) | (with_reducible refine bel_set ?_ ?_ _) | (with_reducible refine After.out _ ?_ ?_) | (dsimp only; omega) | omega | (simp only [World.size_alloc, World.size_setCell, World.size_drew]; omega)))))).mono ?_); rintro e w' ⟨rfl, y3, rfl⟩; have hs3 := y3.bel.size; (try simp only [World.size_alloc, World.size_setCell, World.size_drew] at hs3))); refine hKP _ _ (LaterC.mk (by (repeat (first | (with_reducible exact Below.refl _ _) | (with_reducible assumption) | (with_reducible refine Later.out _ ?_) | (with_reducible refine bel_alloc ?_ _) | (with_reducible refine bel_drew ?_) | (with_reducible refine bel_drewN ?_ _) | (with_reducible refine bel_set ?_ ?_ _) | (with_reducible refine After.out _ ?_ ?_) | (dsimp only; omega) | omega | (simp only [World.size_alloc, World.size_setCell, World.size_drew]; omega))))) ?_; clear hKP KP) | (refine plan_skip nth3 rfl rfl (LaterC.mk (by (repeat (first | (with_reducible exact Below.refl _ _) | (with_reducible assumption) | (with_reducible refine Later.out _ ?_) | (with_reducible refine bel_alloc ?_ _) | (with_reducible refine bel_drew ?_) | (with_reducible refine bel_drewN ?_ _) | (with_reducible refine bel_set ?_ ?_ _) | (with_reducible refine After.out _ ?_ ?_) | (dsimp only; omega) | omega | (simp only [World.size_alloc, World.size_setCell, World.size_drew]; omega))))) ?_; simp only [Act.put, List.setIfInBounds_toArray, List.set_cons_zero, List.set_cons_succ])
  first | (refine plan_loud nth4 rfl ?_; intro KP hKP; go_wp2_with (first | (go_at_call 27; (with_reducible refine (CT.out _ (hr0.out.bel (by (repeat (first | (with_reducible exact Below.refl _ _) | (with_reducible assumption) | (with_reducible refine Later.out _ ?_) | (with_reducible refine bel_alloc ?_ _) | (with_reducible refine bel_drew ?_) | (with_reducible refine bel_drewN ?_ _) | (with_reducible refine bel_set ?_ ?_ _) | (with_reducible refine After.out _ ?_ ?_) | (dsimp only; omega) | omega | (simp only [World.size_alloc, World.size_setCell, World.size_drew]; omega)))))).mono ?_); rintro e w' ⟨a101, c101, rfl, hown, y1, rfl⟩; have hsz := y1.bel.size; (try simp only [World.size_alloc, World.size_setCell, World.size_drew] at hsz); (try have hz0 : w.heap.size < y1.w.heap.size := (by omega)); (try have hz1 : w.heap.size + 1 < y1.w.heap.size := (by omega)); (try have hz2 : w.heap.size + 1 + 1 < y1.w.heap.size := (by omega)); have HO1 := Lib.hid (Owns.of hown); clear hown) | (go_at_call 21; (with_reducible refine (toClaim_any d1 _).mono ?_); rintro e w' ⟨rfl, y2, rfl⟩; have hs2 := y2.bel.size; (try simp only [World.size_alloc, World.size_setCell, World.size_drew] at hs2)) | (go_at_call 53; (with_reducible refine (CS.out _ _ _ (HO1.out.row.bel (by (repeat (first | (with_reducible exact Below.refl _ _) | (with_reducible assumption) | (with_reducible refine Later.out _ ?_) | (with_reducible refine bel_alloc ?_ _) | (with_reducible refine bel_drew ?_) | (with_reducible refine bel_drewN ?_ _) | (with_reducible refine bel_set ?_ ?_ _) | (with_reducible refine After.out _ ?_ ?_) | (dsimp only; omega) | omega | (simp only [World.size_alloc, World.size_setCell, World.size_drew]; omega)))))).mono ?_); rintro e w' ⟨rfl, y3, rfl⟩; have hs3 := y3.bel.size; (try simp only [World.size_alloc, World.size_setCell, World.size_drew] at hs3))); refine hKP _ _ (LaterC.mk (by (repeat (first | (with_reducible exact Below.refl _ _) | (with_reducible assumption) | (with_reducible refine Later.out _ ?_) | (with_reducible refine bel_alloc ?_ _) | (with_reducible refine bel_drew ?_) | (with_reducible refine bel_drewN ?_ _) | (with_reducible refine bel_set ?_ ?_ _) | (with_reducible refine After.out _ ?_ ?_) | (dsimp only; omega) | omega | (simp only [World.size_alloc, World.size_setCell, World.size_drew]; omega))))) ?_; clear hKP KP) | (refine plan_skip nth4 rfl rfl (LaterC.mk (by (repeat (first | (with_reducible exact Below.refl _ _) | (with_reducible assumption) | (with_reducible refine Later.out _ ?_) | (with_reducible refine bel_alloc ?_ _) | (with_reducible refine bel_drew ?_) | (with_reducible refine bel_drewN ?_ _) | (with_reducible refine bel_set ?_ ?_ _) | (with_reducible refine After.out _ ?_ ?_) | (dsimp only; omega) | omega | (simp only [World.size_alloc, World.size_setCell, World.size_drew]; omega))))) ?_; simp only [Act.put, List.setIfInBounds_toArray, List.set_cons_zero, List.set_cons_succ])
  first | (refine plan_quiet nth5 rfl ?_; intro KP hKP; go_big_quiet_op; go_big_quiet_on) | (refine plan_skip_q nth5 rfl rfl ?_; simp only [Act.put, List.setIfInBounds_toArray, List.set_cons_zero, List.set_cons_succ])
  first | (refine plan_quiet nth6 rfl ?_; intro KP hKP; go_big_quiet_op; go_big_quiet_on) | (refine plan_skip_q nth6 rfl rfl ?_; simp only [Act.put, List.setIfInBounds_toArray, List.set_cons_zero, List.set_cons_succ])
  first | (refine plan_quiet nth7 rfl ?_; intro KP hKP; go_big_quiet_op; go_big_quiet_on) | (refine plan_skip_q nth7 rfl rfl ?_; simp only [Act.put, List.setIfInBounds_toArray, List.set_cons_zero, List.set_cons_succ])
  first | (refine plan_quiet nth8 rfl ?_; intro KP hKP; go_big_quiet_op; go_big_quiet_on) | (refine plan_skip_q nth8 rfl rfl ?_; simp only [Act.put, List.setIfInBounds_toArray, List.set_cons_zero, List.set_cons_succ])
  first | (refine plan_quiet nth9 rfl ?_; intro KP hKP; go_big_quiet_op; go_big_quiet_on) | (refine plan_skip_q nth9 rfl rfl ?_; simp only [Act.put, List.setIfInBounds_toArray, List.set_cons_zero, List.set_cons_succ])
  refine plan_nil ?_
  go_wp2_with fail
  with_reducible refine (CT.out _ (hr0.out.bel (by (repeat (first | (with_reducible exact Below.refl _ _) | (with_reducible assumption) | (with_reducible refine Later.out _ ?_) | (with_reducible refine bel_alloc ?_ _) | (with_reducible refine bel_drew ?_) | (with_reducible refine bel_drewN ?_ _) | (with_reducible refine bel_set ?_ ?_ _) | (with_reducible refine After.out _ ?_ ?_) | (dsimp only; omega) | omega | (simp only [World.size_alloc, World.size_setCell, World.size_drew]; omega)))))).mono ?_
  rintro e w' ⟨a104, c104, rfl, hown, y4, rfl⟩
  have hsy4 := y4.bel.size
  (try simp only [World.size_alloc, World.size_setCell, World.size_drew] at hsy4)
  have HO4 := Lib.hid (Owns.of hown)
  clear hown
  go_wp2_with fail
  with_reducible refine (toClaim_any d1 _).mono ?_
  rintro e w' ⟨rfl, y5, rfl⟩
  have hsy5 := y5.bel.size
  (try simp only [World.size_alloc, World.size_setCell, World.size_drew] at hsy5)
  go_wp2_with fail
  with_reducible refine (CI.out _ _ _ (HO4.out.row.bel (by (repeat (first | (with_reducible exact Below.refl _ _) | (with_reducible assumption) | (with_reducible refine Later.out _ ?_) | (with_reducible refine bel_alloc ?_ _) | (with_reducible refine bel_drew ?_) | (with_reducible refine bel_drewN ?_ _) | (with_reducible refine bel_set ?_ ?_ _) | (with_reducible refine After.out _ ?_ ?_) | (dsimp only; omega) | omega | (simp only [World.size_alloc, World.size_setCell, World.size_drew]; omega))))) HO4.out.cap (hx.out.bel (by (repeat (first | (with_reducible exact Below.refl _ _) | (with_reducible assumption) | (with_reducible refine Later.out _ ?_) | (with_reducible refine bel_alloc ?_ _) | (with_reducible refine bel_drew ?_) | (with_reducible refine bel_drewN ?_ _) | (with_reducible refine bel_set ?_ ?_ _) | (with_reducible refine After.out _ ?_ ?_) | (dsimp only; omega) | omega | (simp only [World.size_alloc, World.size_setCell, World.size_drew]; omega)))))).mono ?_
  rintro e w' ⟨rfl, y6, rfl⟩
  have hsy6 := y6.bel.size
  (try simp only [World.size_alloc, World.size_setCell, World.size_drew] at hsy6)
  go_wp2_with fail
  with_reducible refine (CT.out _ (hr0.out.bel (by (repeat (first | (with_reducible exact Below.refl _ _) | (with_reducible assumption) | (with_reducible refine Later.out _ ?_) | (with_reducible refine bel_alloc ?_ _) | (with_reducible refine bel_drew ?_) | (with_reducible refine bel_drewN ?_ _) | (with_reducible refine bel_set ?_ ?_ _) | (with_reducible refine After.out _ ?_ ?_) | (dsimp only; omega) | omega | (simp only [World.size_alloc, World.size_setCell, World.size_drew]; omega)))))).mono ?_
  rintro e w' ⟨a107, c107, rfl, hown, y7, rfl⟩
  have hsy7 := y7.bel.size
  (try simp only [World.size_alloc, World.size_setCell, World.size_drew] at hsy7)
  have HO7 := Lib.hid (Owns.of hown)
  clear hown
  go_wp2_with fail
  with_reducible refine (CQ.out _ _ _ _ _ (HO4.out.row.bel (by (repeat (first | (with_reducible exact Below.refl _ _) | (with_reducible assumption) | (with_reducible refine Later.out _ ?_) | (with_reducible refine bel_alloc ?_ _) | (with_reducible refine bel_drew ?_) | (with_reducible refine bel_drewN ?_ _) | (with_reducible refine bel_set ?_ ?_ _) | (with_reducible refine After.out _ ?_ ?_) | (dsimp only; omega) | omega | (simp only [World.size_alloc, World.size_setCell, World.size_drew]; omega))))) HO7.out.row).mono ?_
  rintro e w' ⟨rfl, y8, rfl⟩
  have hsy8 := y8.bel.size
  (try simp only [World.size_alloc, World.size_setCell, World.size_drew] at hsy8)
  go_wp2_with fail
  go_ret
  exact .mk rfl (by (repeat (first | (with_reducible exact Below.refl _ _) | (with_reducible assumption) | (with_reducible refine Later.out _ ?_) | (with_reducible refine bel_alloc ?_ _) | (with_reducible refine bel_drew ?_) | (with_reducible refine bel_drewN ?_ _) | (with_reducible refine bel_set ?_ ?_ _) | (with_reducible refine After.out _ ?_ ?_) | (dsimp only; omega) | omega | (simp only [World.size_alloc, World.size_setCell, World.size_drew]; omega))))
end Go.Proofs.YtiiekgmdbadalaaDoor

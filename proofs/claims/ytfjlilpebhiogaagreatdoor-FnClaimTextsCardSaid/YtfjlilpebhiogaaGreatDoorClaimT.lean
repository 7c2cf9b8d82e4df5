import Derived.Test.YtfjlilpebhiogaaGreatDoorTextC
import Derived.Test.YtfjlilpebhiogaaGreatDoorPackA
/- ClaimText, both sides, and the law. -/
set_option linter.unusedSimpArgs false
set_option linter.unusedVariables false
namespace Go.Proofs.YtfjlilpebhiogaaGreatDoor
open Go.RowKit
set_option maxRecDepth 4000 in
set_option maxHeartbeats 8000000 in
theorem claimText_any (c : Clm) (w : World) (ok : ClmOk c) (hk : 0 ≤ c.kind ∧ c.kind ≤ 3) (hw : 0 ≤ c.wt ∧ c.wt ≤ 100) (hf : -1000000 ≤ c.fr ∧ c.fr ≤ 1000000) (ht : -1000000 ≤ c.to ∧ c.to ≤ 1000000) (hT : Tab w) :
    Calls Tryz.prog 23 #[clmV c] w (Ret w (.string (clmT c))) := by
  obtain ⟨a1, a2, a3⟩ := ok
  have s1 := decB_size c.kind (by omega) (by omega)
  have s2 := decB_size c.wt (by omega) (by omega)
  have s3 := dotB_size c.val
  have s4 := spanT_size c.fr c.to hf ht
  have CK := Lib.hid (fun (w' : World) (hb : Below w.heap.size w w') => decimal_any c.kind w' (by omega) (by omega) (hT.bel hb))
  have CW := Lib.hid (fun (w' : World) (hb : Below w.heap.size w w') => decimal_any c.wt w' (by omega) (by omega) (hT.bel hb))
  have CV := Lib.hid (fun (w' : World) => orDot_any c.val w')
  have CS := Lib.hid (fun (w' : World) (hb : Below w.heap.size w w') => spanText_any c.fr c.to w' hf ht (hT.bel hb))
  unfold clmT
  obtain ⟨D1, hD1⟩ : ∃ D, decB c.kind = D := ⟨_, rfl⟩
  obtain ⟨D2, hD2⟩ : ∃ D, decB c.wt = D := ⟨_, rfl⟩
  obtain ⟨D3, hD3⟩ : ∃ D, dotB c.val = D := ⟨_, rfl⟩
  obtain ⟨D4, hD4⟩ : ∃ D, spanT c.fr c.to = D := ⟨_, rfl⟩
  rw [hD1] at CK s1
  rw [hD2] at CW s2
  rw [hD3] at CV s3
  rw [hD4] at CS s4
  rw [hD1, hD2, hD3, hD4]
  have CJ := Lib.hid (fun (w : World) (g : Nat) hg hr => joinClm_any c.src D1 c.place D3 D4 D2 g w hg ⟨by omega, by omega, by omega, by omega, by omega, by omega⟩ hr)
  obtain ⟨T, hTe⟩ : ∃ T, c.src ++ ⟨#[47]⟩ ++ D1 ++ ⟨#[47]⟩ ++ c.place ++ ⟨#[47]⟩ ++ D3 ++ ⟨#[47]⟩ ++ D4 ++ ⟨#[47]⟩ ++ D2 = T := ⟨_, rfl⟩
  rw [hTe] at CJ ⊢
  clear hD1 hD2 hD3 hD4 hk hw hf ht hT hTe
  obtain ⟨src, kind, place, val, fr, tt, wt⟩ := c
  dsimp only at *
  go_enter Tryz.func23, Tryz.ntmps23
  go_wp2_with fail
  refine wp_region_quiet_tail 16 (C := fun w' => ∃ x : Later _, w' = x.w) (by kernel_rfl) (by kernel_rfl) ⟨⟨_, (Below.refl _ _).drew⟩, rfl⟩ ?_
  simp only [List.take_succ_cons, List.take_zero, List.drop_succ_cons, List.drop_zero]
  repeat (go_big_quiet_step ((first | (go_at_call 59; first | with_reducible exact Calls.later (CK.out _ (by (repeat (first | (with_reducible exact Below.refl _ _) | (with_reducible assumption) | (with_reducible refine Later.out _ ?_) | (with_reducible refine bel_alloc ?_ _) | (with_reducible refine bel_drew ?_) | (with_reducible refine bel_drewN ?_ _) | (with_reducible refine bel_set ?_ ?_ _) | (with_reducible refine After.out _ ?_ ?_) | (dsimp only; omega) | omega | (simp only [World.size_alloc, World.size_setCell, World.size_drew]; omega))))) | with_reducible exact Calls.later (CW.out _ (by (repeat (first | (with_reducible exact Below.refl _ _) | (with_reducible assumption) | (with_reducible refine Later.out _ ?_) | (with_reducible refine bel_alloc ?_ _) | (with_reducible refine bel_drew ?_) | (with_reducible refine bel_drewN ?_ _) | (with_reducible refine bel_set ?_ ?_ _) | (with_reducible refine After.out _ ?_ ?_) | (dsimp only; omega) | omega | (simp only [World.size_alloc, World.size_setCell, World.size_drew]; omega)))))) | (go_at_call 60; exact Calls.later (CV.out _)) | (go_at_call 61; exact Calls.later (CS.out _ (by (repeat (first | (with_reducible exact Below.refl _ _) | (with_reducible assumption) | (with_reducible refine Later.out _ ?_) | (with_reducible refine bel_alloc ?_ _) | (with_reducible refine bel_drew ?_) | (with_reducible refine bel_drewN ?_ _) | (with_reducible refine bel_set ?_ ?_ _) | (with_reducible refine After.out _ ?_ ?_) | (dsimp only; omega) | omega | (simp only [World.size_alloc, World.size_setCell, World.size_drew]; omega)))))))))
  refine wpQuiet_nil ?_
  rintro _ ⟨xq, rfl⟩
  go_wp2_with fail
  with_reducible refine (CJ.out _ _ (by simp) (fun j x hj => by rcases j with _ | _ | _ | _ | _ | _ | j <;> simp at hj <;> subst hj <;> simp [go_sem])).mono ?_
  rintro e w' ⟨rfl, y9, rfl⟩
  have hsy9 := y9.bel.size
  (try simp only [World.size_alloc, World.size_setCell, World.size_drew] at hsy9)
  go_wp2_with fail
  go_ret
  exact .mk rfl (by (repeat (first | (with_reducible exact Below.refl _ _) | (with_reducible assumption) | (with_reducible refine Later.out _ ?_) | (with_reducible refine bel_alloc ?_ _) | (with_reducible refine bel_drew ?_) | (with_reducible refine bel_drewN ?_ _) | (with_reducible refine bel_set ?_ ?_ _) | (with_reducible refine After.out _ ?_ ?_) | (dsimp only; omega) | omega | (simp only [World.size_alloc, World.size_setCell, World.size_drew]; omega))))
noncomputable def txtR (c : Clm) : ByteArray := if claimB c then clmT c else ByteArray.empty
noncomputable def txtK (c : Clm) : Int := if claimB c then 0 else 1
theorem claim_bounds {c : Clm} (h : claimB c = true) : (0 ≤ c.kind ∧ c.kind ≤ 3) ∧ (0 ≤ c.wt ∧ c.wt ≤ 100) ∧ (-1000000 ≤ c.fr ∧ c.fr ≤ 1000000) ∧ (-1000000 ≤ c.to ∧ c.to ≤ 1000000) := by
  unfold claimB spanB inB at h
  simp only [Bool.and_eq_true, decide_eq_true_eq] at h
  obtain ⟨⟨⟨⟨h1, h2⟩, h3⟩, ⟨h4, h5⟩, h6⟩, h7⟩ := h
  refine ⟨?_, by omega, by omega, by omega⟩
  unfold valueB at h3
  split at h3
  · omega
  · split at h3
    · omega
    · split at h3
      · omega
      · cases h3
set_option maxHeartbeats 2000000 in
theorem txt_impl (c : Clm) (w : World) (ok : ClmOk c) (hx : Max w) (hT : Tab w) : Calls Tryz.prog 7 #[clmV c] w (Ret w (.tuple #[.string (txtR c), .int .i64 (txtK c)])) := by
  cases h : claimB c
  · rw [show txtR c = ByteArray.empty by simp [txtR, h], show txtK c = 1 by simp [txtK, h]]
    have C := Lib.hid (fun w hx => isClaim_b (c := c) (w := w) ok hx h)
    replace hx := Lib.hid hx
    clear h ok hT
    go_enter Tryz.func7, Tryz.ntmps7
    go_wp2_with fail
    with_reducible refine (C.out _ (hx.out.bel (by (repeat (first | (with_reducible exact Below.refl _ _) | (with_reducible assumption) | (with_reducible refine Later.out _ ?_) | (with_reducible refine bel_alloc ?_ _) | (with_reducible refine bel_drew ?_) | (with_reducible refine bel_drewN ?_ _) | (with_reducible refine bel_set ?_ ?_ _) | (with_reducible refine After.out _ ?_ ?_) | (dsimp only; omega) | omega | (simp only [World.size_alloc, World.size_setCell, World.size_drew]; omega)))))).mono ?_
    rintro e w' ⟨rfl, y1, rfl⟩
    have hsy1 := y1.bel.size
    (try simp only [World.size_alloc, World.size_setCell, World.size_drew] at hsy1)
    go_wp2_with fail
    go_ret2
    exact .mk rfl (by (repeat (first | (with_reducible exact Below.refl _ _) | (with_reducible assumption) | (with_reducible refine Later.out _ ?_) | (with_reducible refine bel_alloc ?_ _) | (with_reducible refine bel_drew ?_) | (with_reducible refine bel_drewN ?_ _) | (with_reducible refine bel_set ?_ ?_ _) | (with_reducible refine After.out _ ?_ ?_) | (dsimp only; omega) | omega | (simp only [World.size_alloc, World.size_setCell, World.size_drew]; omega))))
  · obtain ⟨b1, b2, b3, b4⟩ := claim_bounds h
    rw [show txtR c = clmT c by simp [txtR, h], show txtK c = 0 by simp [txtK, h]]
    have C := Lib.hid (fun w hx => isClaim_b (c := c) (w := w) ok hx h)
    have D := Lib.hid (fun w hT => claimText_any c w ok b1 b2 b3 b4 hT)
    replace hx := Lib.hid hx
    replace hT := Lib.hid hT
    clear h ok b1 b2 b3 b4
    go_enter Tryz.func7, Tryz.ntmps7
    go_wp2_with fail
    with_reducible refine (C.out _ (hx.out.bel (by (repeat (first | (with_reducible exact Below.refl _ _) | (with_reducible assumption) | (with_reducible refine Later.out _ ?_) | (with_reducible refine bel_alloc ?_ _) | (with_reducible refine bel_drew ?_) | (with_reducible refine bel_drewN ?_ _) | (with_reducible refine bel_set ?_ ?_ _) | (with_reducible refine After.out _ ?_ ?_) | (dsimp only; omega) | omega | (simp only [World.size_alloc, World.size_setCell, World.size_drew]; omega)))))).mono ?_
    rintro e w' ⟨rfl, y1, rfl⟩
    have hsy1 := y1.bel.size
    (try simp only [World.size_alloc, World.size_setCell, World.size_drew] at hsy1)
    go_wp2_with fail
    with_reducible refine (D.out _ (hT.out.bel (by (repeat (first | (with_reducible exact Below.refl _ _) | (with_reducible assumption) | (with_reducible refine Later.out _ ?_) | (with_reducible refine bel_alloc ?_ _) | (with_reducible refine bel_drew ?_) | (with_reducible refine bel_drewN ?_ _) | (with_reducible refine bel_set ?_ ?_ _) | (with_reducible refine After.out _ ?_ ?_) | (dsimp only; omega) | omega | (simp only [World.size_alloc, World.size_setCell, World.size_drew]; omega)))))).mono ?_
    rintro e w' ⟨rfl, y2, rfl⟩
    have hsy2 := y2.bel.size
    (try simp only [World.size_alloc, World.size_setCell, World.size_drew] at hsy2)
    go_wp2_with fail
    go_ret2
    exact .mk rfl (by (repeat (first | (with_reducible exact Below.refl _ _) | (with_reducible assumption) | (with_reducible refine Later.out _ ?_) | (with_reducible refine bel_alloc ?_ _) | (with_reducible refine bel_drew ?_) | (with_reducible refine bel_drewN ?_ _) | (with_reducible refine bel_set ?_ ?_ _) | (with_reducible refine After.out _ ?_ ?_) | (dsimp only; omega) | omega | (simp only [World.size_alloc, World.size_setCell, World.size_drew]; omega))))
set_option maxHeartbeats 2000000 in
theorem txt_spec (c : Clm) (w : World) (ok : ClmOk c) : Calls Tryz.prog 8 #[clmV c] w (Ret w (.tuple #[.string (txtR c), .int .i64 (txtK c)])) := by
  cases h : claimB c
  · rw [show txtR c = ByteArray.empty by simp [txtR, h], show txtK c = 1 by simp [txtK, h]]
    have C := Lib.hid (fun w => sIsClaim_b (c := c) (w := w) ok h)
    clear h ok
    go_enter Tryz.func8, Tryz.ntmps8
    go_wp2_with fail
    with_reducible refine (C.out _).mono ?_
    rintro e w' ⟨rfl, y1, rfl⟩
    have hsy1 := y1.bel.size
    (try simp only [World.size_alloc, World.size_setCell, World.size_drew] at hsy1)
    go_wp2_with fail
    go_ret2
    exact .mk rfl (by (repeat (first | (with_reducible exact Below.refl _ _) | (with_reducible assumption) | (with_reducible refine Later.out _ ?_) | (with_reducible refine bel_alloc ?_ _) | (with_reducible refine bel_drew ?_) | (with_reducible refine bel_drewN ?_ _) | (with_reducible refine bel_set ?_ ?_ _) | (with_reducible refine After.out _ ?_ ?_) | (dsimp only; omega) | omega | (simp only [World.size_alloc, World.size_setCell, World.size_drew]; omega))))
  · obtain ⟨b1, b2, b3, b4⟩ := claim_bounds h
    rw [show txtR c = clmT c by simp [txtR, h], show txtK c = 0 by simp [txtK, h]]
    have C := Lib.hid (fun w => sIsClaim_b (c := c) (w := w) ok h)
    have D := Lib.hid (fun w => sClaimText_any c w ok b1 b2 b3 b4)
    clear h ok b1 b2 b3 b4
    go_enter Tryz.func8, Tryz.ntmps8
    go_wp2_with fail
    with_reducible refine (C.out _).mono ?_
    rintro e w' ⟨rfl, y1, rfl⟩
    have hsy1 := y1.bel.size
    (try simp only [World.size_alloc, World.size_setCell, World.size_drew] at hsy1)
    go_wp2_with fail
    with_reducible refine (D.out _).mono ?_
    rintro e w' ⟨rfl, y2, rfl⟩
    have hsy2 := y2.bel.size
    (try simp only [World.size_alloc, World.size_setCell, World.size_drew] at hsy2)
    go_wp2_with fail
    go_ret2
    exact .mk rfl (by (repeat (first | (with_reducible exact Below.refl _ _) | (with_reducible assumption) | (with_reducible refine Later.out _ ?_) | (with_reducible refine bel_alloc ?_ _) | (with_reducible refine bel_drew ?_) | (with_reducible refine bel_drewN ?_ _) | (with_reducible refine bel_set ?_ ?_ _) | (with_reducible refine After.out _ ?_ ?_) | (dsimp only; omega) | omega | (simp only [World.size_alloc, World.size_setCell, World.size_drew]; omega))))
end Go.Proofs.YtfjlilpebhiogaaGreatDoor

import Derived.Test.YtflcfdiochohgaaGreatDoorDrawF
import Derived.Test.YtflcfdiochohgaaGreatDoorLikeC
import Derived.Test.YtflcfdiochohgaaGreatDoorPackE
import Derived.Test.YtflcfdiochohgaaGreatDoorPackF
import Derived.Test.YtflcfdiochohgaaGreatDoorMinC
import Derived.Test.YtflcfdiochohgaaGreatDoorPackG
import Derived.Test.YtflcfdiochohgaaGreatDoorKeptC
import Derived.Test.YtflcfdiochohgaaGreatDoorRepC
import Derived.Test.YtflcfdiochohgaaGreatDoorPackB
import Derived.Test.YtflcfdiochohgaaGreatDoorMinL
/- The law Repairs: every minimal repair is one, leaving out less is none, and none costs less than the best one. -/
set_option linter.unusedSimpArgs false
set_option linter.unusedVariables false
namespace Go.Proofs.YtflcfdiochohgaaGreatDoor
open Go.RowKit
theorem mrs_claims {L : List Clm} (h : mrsK L = 0) : claimsB L = true := by
  unfold mrsK at h
  cases hc : claimsB L
  · rw [hc] at h; cases h
  · rfl
theorem mrs_short (L : List Clm) : ∀ T ∈ mrsR L, T.length ≤ 12 := fun T hT => by
  unfold mrsR at hT
  split at hT
  · rename_i hc
    have h12 := len_of_claims hc
    split at hT
    · simp at hT
    · have := ixs_len ((mem_minZ (repG_mono L) (ixs_nil _) T).1 hT).1
      omega
  · simp at hT
theorem mrs_many (L : List Clm) : (mrsR L).length ≤ 60 := by
  unfold mrsR
  split
  · split
    · simp
    · omega
  · simp
/-- What the law asks of all minimal repairs. -/
theorem repairs_law {L : List Clm} (h : mrsK L = 0) : bstK L = 0 ∧ ∀ T ∈ mrsR L, codeZ L T = 0 ∧ miniR L T = true ∧ ¬ (wtR L T < bstK0 L) ∧ ¬ ((T.length : Int) < lstR L) := by
  have hc := mrs_claims h
  have hR : mrsR L = minZ (repG L) L.length [] := by
    unfold mrsK at h
    unfold mrsR
    rw [hc] at h ⊢
    simp only [if_true] at h ⊢
    split at h
    · cases h
    · rename_i h1; rw [if_neg h1]
  refine ⟨by unfold bstK; rw [hc]; rfl, fun T hT => ?_⟩
  rw [hR] at hT
  obtain ⟨hI, _, hm⟩ := (mem_minZ (repG_mono L) (ixs_nil _) T).1 hT
  have hz := codeZ_ixs hc hI
  refine ⟨hz, by unfold miniR; rw [if_pos hz]; exact hm, ?_, ?_⟩
  · have e1 : wtR L T = wtZ L T := by unfold wtR; rw [if_pos hz]
    have e2 : bstK0 L = wtZ L (bestL (wtLt L) (minZ (repG L) L.length [])) := by unfold bstK0 bestR; rw [hc]; rfl
    have := best_light (L := L) hT
    omega
  · have e1 : lstR L = ((leastTo (minZ (repG L) L.length []) L.length (minZ (repG L) L.length []).length : Nat) : Int) := by unfold lstR; rw [hc]; rfl
    obtain ⟨j, hj, rfl⟩ := List.mem_iff_getElem.1 hT
    have := leastTo_all (R := minZ (repG L) L.length []) (n := L.length) _ j hj
    unfold atL at this
    rw [getD_at hj] at this
    omega
/-- What the law asks of a repair. -/
theorem repair_law (L : List Clm) (l : List Int) : (codeZ L l = 0 → (shrK L l == 0) = repR L l) ∧ (codeZ L l ≠ 0 → miniR L l = false) ∧ (miniR L l = true → repR L l = true) ∧
    (shrK L l = 0 → codeZ L (shrR L l) = 0 ∧ miniR L (shrR L l) = true ∧ (miniR L l = true → shrR L l = l)) := by
  refine ⟨fun h => ?_, fun h => by unfold miniR; rw [if_neg h], fun h => ?_, fun h => ?_⟩
  · unfold shrK repR
    rw [if_pos h, if_pos h]
    cases repG L l <;> rfl
  · unfold miniR at h
    split at h
    · rename_i hz
      unfold repR
      rw [if_pos hz]
      exact minB_good h
    · cases h
  · unfold shrK at h
    split at h
    · rename_i hc
      split at h
      · rename_i hg
        have e : shrR L l = shrinkS (repG L) l 0 := by unfold shrR; rw [if_pos hc, hg]; rfl
        obtain ⟨h1, h2⟩ := shrinkS_min (repG_mono L) (code_ixs hc) hg
        have hz := codeZ_ixs (codeZ_claims hc) ((code_ixs hc).sub h2)
        rw [e]
        refine ⟨hz, by unfold miniR; rw [if_pos hz]; exact h1, fun hm => ?_⟩
        unfold miniR at hm
        rw [if_pos hc] at hm
        exact shrinkS_same hm 0
      · cases h
    · rename_i hc
      exact absurd h hc
set_option maxRecDepth 8000 in
set_option maxHeartbeats 16000000 in
theorem lawRepairs_any (a : Option Addr) (n c : Nat) (bs : List Int) (w : World) (hr : Row w a (byteCells bs)) (hl : bs.length = n) (hm : n ≤ maxLen) (hx : ∀ x ∈ bs, 0 ≤ x ∧ x ≤ 255) (hM : Max w) :
    Calls Tryz.prog 4 #[.slice a n c] w (Ret w (.bool true)) := by
  by_cases hbig : 4096 < n
  · clear hr hl hx hM
    go_enter Tryz.func4, Tryz.ntmps4
    go_wp2_with fail
    with_reducible refine (big_yes _ _ _ _ hbig hm).mono ?_
    rintro e w' ⟨rfl, y0, rfl⟩
    have hsy0 := y0.bel.size
    (try simp only [World.size_alloc, World.size_setCell, World.size_drew] at hsy0)
    go_wp2_with fail
    go_ret
    refine .mk rfl ?_
    (repeat (first | (with_reducible exact Below.refl _ _) | (with_reducible assumption) | (with_reducible refine Later.out _ ?_) | (with_reducible refine bel_alloc ?_ _) | (with_reducible refine bel_drew ?_) | (with_reducible refine bel_drewN ?_ _) | (with_reducible refine bel_set ?_ ?_ _) | (with_reducible refine After.out _ ?_ ?_) | (dsimp only; omega) | omega | (simp only [World.size_alloc, World.size_setCell, World.size_drew]; omega)))
  have hn4 : n ≤ 4096 := by omega
  replace hr := Lib.hid hr
  replace hx := Lib.hid hx
  replace hl := Lib.hid hl
  replace hM := Lib.hid hM
  clear hbig hm
  go_enter Tryz.func4, Tryz.ntmps4
  go_wp2_with fail
  with_reducible refine (big_no _ _ _ _ hn4).mono ?_
  rintro e w' ⟨rfl, y0, rfl⟩
  have hsy0 := y0.bel.size
  (try simp only [World.size_alloc, World.size_setCell, World.size_drew] at hsy0)
  go_wp2_with fail
  with_reducible refine (drawMinimalRepairs_any a n c bs _ (hr.out.bel (by (repeat (first | (with_reducible exact Below.refl _ _) | (with_reducible assumption) | (with_reducible refine Later.out _ ?_) | (with_reducible refine bel_alloc ?_ _) | (with_reducible refine bel_drew ?_) | (with_reducible refine bel_drewN ?_ _) | (with_reducible refine bel_set ?_ ?_ _) | (with_reducible refine After.out _ ?_ ?_) | (dsimp only; omega) | omega | (simp only [World.size_alloc, World.size_setCell, World.size_drew]; omega))))) hl.out hn4 hx.out).mono ?_
  rintro e w' ⟨L1, aL1, cL1, hok1, hl1, rfl, z1, rfl, ho1⟩
  have hsz1 := z1.bel.size
  (try simp only [World.size_alloc, World.size_setCell, World.size_drew] at hsz1)
  have hrow1 := Lib.hid ho1.row
  have hcap1 := ho1.cap
  have ok1 : ∀ x ∈ L1, ClmOk x := fun x hx => okC_ok (hok1 x hx)
  clear ho1 hok1
  have CA1 := fun w hr hM => mrs_impl L1 aL1 L1.length cL1 w rfl (by omega) hr ok1 hM
  have CA2 := fun w hr => mrs_spec L1 aL1 L1.length cL1 w rfl (by omega) hr ok1
  have CL1 := fun w hr hM => lst_impl L1 aL1 L1.length cL1 w rfl (by omega) hr ok1 hM
  have CL2 := fun w hr => lst_spec L1 aL1 L1.length cL1 w rfl (by omega) hr ok1
  have CK1 := fun w hr hM => alw_impl L1 aL1 L1.length cL1 w rfl (by omega) hr ok1 hM
  have CK2 := fun w hr => alw_spec L1 aL1 L1.length cL1 w rfl (by omega) hr ok1
  have CB := fun w hr hM => bst_impl L1 aL1 L1.length cL1 w rfl (by omega) hr ok1 hM
  have hlaw := fun h => repairs_law (L := L1) h
  have hR1l := mrsR_len L1 (n := L1.length) rfl (by omega)
  have hR1e := mrs_short L1
  have hR1m := mrs_many L1
  have hR7l := alwR_len L1 (n := L1.length) rfl (by omega)
  have CW := fun (T : List Int) (hT : T.length ≤ 12) aT cT w hr hr' hM => weightOf_impl L1 T aL1 aT L1.length cL1 T.length cT w rfl rfl (by omega) (by omega) hr hr' ok1 hM
  have CM := fun (T : List Int) (hT : T.length ≤ 12) aT cT w hr hr' (hcp : T.length ≤ cT) hM => mini_impl L1 T aL1 L1.length cL1 aT T.length cT w rfl (by omega) rfl (by omega) hr hr' ok1 hcp hM
  obtain ⟨R1, eR1⟩ : ∃ R, mrsR L1 = R := ⟨_, rfl⟩
  obtain ⟨K1, eK1⟩ : ∃ R, mrsK L1 = R := ⟨_, rfl⟩
  obtain ⟨V6, eV6⟩ : ∃ R, lstR L1 = R := ⟨_, rfl⟩
  obtain ⟨K6, eK6⟩ : ∃ R, lstK L1 = R := ⟨_, rfl⟩
  obtain ⟨R7, eR7⟩ : ∃ R, alwR L1 = R := ⟨_, rfl⟩
  obtain ⟨K7, eK7⟩ : ∃ R, alwK L1 = R := ⟨_, rfl⟩
  obtain ⟨R8, eR8⟩ : ∃ R, bstR L1 = R := ⟨_, rfl⟩
  obtain ⟨V8, eV8⟩ : ∃ R, bstK0 L1 = R := ⟨_, rfl⟩
  obtain ⟨K8, eK8⟩ : ∃ R, bstK L1 = R := ⟨_, rfl⟩
  simp only [eR1, eK1] at CA1 CA2
  simp only [eV6, eK6] at CL1 CL2
  simp only [eR7, eK7] at CK1 CK2
  simp only [eR8, eV8, eK8] at CB
  rw [eR1, eK1, eV6, eV8, eK8] at hlaw
  rw [eR1] at hR1l hR1e hR1m
  rw [eR7] at hR7l
  replace CA1 := Lib.hid CA1
  replace CA2 := Lib.hid CA2
  replace CL1 := Lib.hid CL1
  replace CL2 := Lib.hid CL2
  replace CK1 := Lib.hid CK1
  replace CK2 := Lib.hid CK2
  replace CB := Lib.hid CB
  replace CW := Lib.hid CW
  replace CM := Lib.hid CM
  replace hlaw := Lib.hid hlaw
  replace hR1e := Lib.hid hR1e
  clear eR1 eK1 eV6 eK6 eR7 eK7 eR8 eV8 eK8
  go_wp2_with fail
  with_reducible refine (CA1.out _ (hrow1.out.bel (by (repeat (first | (with_reducible exact Below.refl _ _) | (with_reducible assumption) | (with_reducible refine Later.out _ ?_) | (with_reducible refine bel_alloc ?_ _) | (with_reducible refine bel_drew ?_) | (with_reducible refine bel_drewN ?_ _) | (with_reducible refine bel_set ?_ ?_ _) | (with_reducible refine After.out _ ?_ ?_) | (dsimp only; omega) | omega | (simp only [World.size_alloc, World.size_setCell, World.size_drew]; omega))))) (hM.out.bel (by (repeat (first | (with_reducible exact Below.refl _ _) | (with_reducible assumption) | (with_reducible refine Later.out _ ?_) | (with_reducible refine bel_alloc ?_ _) | (with_reducible refine bel_drew ?_) | (with_reducible refine bel_drewN ?_ _) | (with_reducible refine bel_set ?_ ?_ _) | (with_reducible refine After.out _ ?_ ?_) | (dsimp only; omega) | omega | (simp only [World.size_alloc, World.size_setCell, World.size_drew]; omega)))))).mono ?_
  rintro e w' ⟨a1, c1, vs1, rfl, hnest, y1, rfl⟩
  have hsy1 := y1.bel.size
  (try simp only [World.size_alloc, World.size_setCell, World.size_drew] at hsy1)
  have N1 := Lib.hid hnest
  clear hnest
  go_wp2_with fail
  with_reducible refine (CA2.out _ (hrow1.out.bel (by (repeat (first | (with_reducible exact Below.refl _ _) | (with_reducible assumption) | (with_reducible refine Later.out _ ?_) | (with_reducible refine bel_alloc ?_ _) | (with_reducible refine bel_drew ?_) | (with_reducible refine bel_drewN ?_ _) | (with_reducible refine bel_set ?_ ?_ _) | (with_reducible refine After.out _ ?_ ?_) | (dsimp only; omega) | omega | (simp only [World.size_alloc, World.size_setCell, World.size_drew]; omega)))))).mono ?_
  rintro e w' ⟨a2, c2, vs2, rfl, hnest, y2, rfl⟩
  have hsy2 := y2.bel.size
  (try simp only [World.size_alloc, World.size_setCell, World.size_drew] at hsy2)
  have N2 := Lib.hid hnest
  clear hnest
  go_wp2_with fail
  with_reducible refine (drawIsRepair_any a n c bs _ (hr.out.bel (by (repeat (first | (with_reducible exact Below.refl _ _) | (with_reducible assumption) | (with_reducible refine Later.out _ ?_) | (with_reducible refine bel_alloc ?_ _) | (with_reducible refine bel_drew ?_) | (with_reducible refine bel_drewN ?_ _) | (with_reducible refine bel_set ?_ ?_ _) | (with_reducible refine After.out _ ?_ ?_) | (dsimp only; omega) | omega | (simp only [World.size_alloc, World.size_setCell, World.size_drew]; omega))))) hl.out hn4 hx.out).mono ?_
  rintro e w' ⟨L2, aL2, cL2, S2, aS2, cS2, hok2, hl2, hS2, rfl, z2, rfl, ho2, hoS2⟩
  have hsz2 := z2.bel.size
  (try simp only [World.size_alloc, World.size_setCell, World.size_drew] at hsz2)
  have hrow2 := Lib.hid ho2.row
  have hrowS2 := Lib.hid hoS2.row
  have hcap2 := hoS2.cap
  have hshp2 := hoS2.shp
  have ok2 : ∀ x ∈ L2, ClmOk x := fun x hx => okC_ok (hok2 x hx)
  clear ho2 hoS2 hok2
  have CR1 := fun w hr hr' hM => rep_impl L2 S2 aL2 L2.length cL2 aS2 S2.length cS2 w rfl (by omega) rfl (by omega) hr hr' ok2 hM
  have CR2 := fun w hr hr' => rep_spec L2 S2 aL2 L2.length cL2 aS2 S2.length cS2 w rfl (by omega) rfl (by omega) hr hr' ok2
  have CM1 := fun w hr hr' hM => mini_impl L2 S2 aL2 L2.length cL2 aS2 S2.length cS2 w rfl (by omega) rfl (by omega) hr hr' ok2 hcap2 hM
  have CM2 := fun w hr hr' => mini_spec L2 S2 aL2 L2.length cL2 aS2 S2.length cS2 w rfl (by omega) rfl (by omega) hr hr' ok2 hcap2
  have CS1 := fun w hr hr' hM => shr_impl L2 S2 aL2 L2.length cL2 aS2 S2.length cS2 w rfl (by omega) rfl (by omega) hr hr' ok2 hshp2 hM
  have CS2 := fun w hr hr' => shr_spec L2 S2 aL2 L2.length cL2 aS2 S2.length cS2 w rfl (by omega) rfl (by omega) hr hr' ok2 hshp2
  have CT1 := fun w hr hr' hM => kept_impl L2 S2 aL2 L2.length cL2 aS2 S2.length cS2 w rfl (by omega) rfl (by omega) hr hr' ok2 hM
  have CT2 := fun w hr hr' => kept_spec L2 S2 aL2 L2.length cL2 aS2 S2.length cS2 w rfl (by omega) rfl (by omega) hr hr' ok2
  obtain ⟨p1, p2, p3, p4⟩ := repair_law L2 S2
  have hR4l := shrR_len L2 S2 (n := L2.length) rfl (by omega)
  have hR5l := keptR_len L2 S2 (n := L2.length) rfl (by omega)
  have CX := fun aT cT w hr hr' hcp hM => mini_impl L2 (shrR L2 S2) aL2 L2.length cL2 aT (shrR L2 S2).length cT w rfl (by omega) rfl hR4l hr hr' ok2 hcp hM
  obtain ⟨B2, eB2⟩ : ∃ R, repR L2 S2 = R := ⟨_, rfl⟩
  obtain ⟨B3, eB3⟩ : ∃ R, miniR L2 S2 = R := ⟨_, rfl⟩
  obtain ⟨K2, eK2⟩ : ∃ R, codeZ L2 S2 = R := ⟨_, rfl⟩
  obtain ⟨R4, eR4⟩ : ∃ R, shrR L2 S2 = R := ⟨_, rfl⟩
  obtain ⟨K4, eK4⟩ : ∃ R, shrK L2 S2 = R := ⟨_, rfl⟩
  obtain ⟨R5, eR5⟩ : ∃ R, keptR L2 S2 = R := ⟨_, rfl⟩
  simp only [eB2, eK2] at CR1 CR2
  simp only [eB3, eK2] at CM1 CM2
  simp only [eR4, eK4] at CS1 CS2 CX
  simp only [eR5, eK2] at CT1 CT2
  rw [eB2, eK2, eK4] at p1
  rw [eB3, eK2] at p2
  rw [eB2, eB3] at p3
  rw [eB3, eR4, eK4] at p4
  rw [eR4] at hR4l
  rw [eR5] at hR5l
  replace CR1 := Lib.hid CR1
  replace CR2 := Lib.hid CR2
  replace CM1 := Lib.hid CM1
  replace CM2 := Lib.hid CM2
  replace CS1 := Lib.hid CS1
  replace CS2 := Lib.hid CS2
  replace CT1 := Lib.hid CT1
  replace CT2 := Lib.hid CT2
  replace CX := Lib.hid CX
  replace p1 := Lib.hid p1
  replace p2 := Lib.hid p2
  replace p3 := Lib.hid p3
  replace p4 := Lib.hid p4
  clear eB2 eB3 eK2 eR4 eK4 eR5
  go_wp2_with fail
  with_reducible refine (CR1.out _ (hrow2.out.bel (by (repeat (first | (with_reducible exact Below.refl _ _) | (with_reducible assumption) | (with_reducible refine Later.out _ ?_) | (with_reducible refine bel_alloc ?_ _) | (with_reducible refine bel_drew ?_) | (with_reducible refine bel_drewN ?_ _) | (with_reducible refine bel_set ?_ ?_ _) | (with_reducible refine After.out _ ?_ ?_) | (dsimp only; omega) | omega | (simp only [World.size_alloc, World.size_setCell, World.size_drew]; omega))))) (hrowS2.out.bel (by (repeat (first | (with_reducible exact Below.refl _ _) | (with_reducible assumption) | (with_reducible refine Later.out _ ?_) | (with_reducible refine bel_alloc ?_ _) | (with_reducible refine bel_drew ?_) | (with_reducible refine bel_drewN ?_ _) | (with_reducible refine bel_set ?_ ?_ _) | (with_reducible refine After.out _ ?_ ?_) | (dsimp only; omega) | omega | (simp only [World.size_alloc, World.size_setCell, World.size_drew]; omega))))) (hM.out.bel (by (repeat (first | (with_reducible exact Below.refl _ _) | (with_reducible assumption) | (with_reducible refine Later.out _ ?_) | (with_reducible refine bel_alloc ?_ _) | (with_reducible refine bel_drew ?_) | (with_reducible refine bel_drewN ?_ _) | (with_reducible refine bel_set ?_ ?_ _) | (with_reducible refine After.out _ ?_ ?_) | (dsimp only; omega) | omega | (simp only [World.size_alloc, World.size_setCell, World.size_drew]; omega)))))).mono ?_
  rintro e w' ⟨rfl, y3, rfl⟩
  have hsy3 := y3.bel.size
  (try simp only [World.size_alloc, World.size_setCell, World.size_drew] at hsy3)
  go_wp2_with fail
  with_reducible refine (CR2.out _ (hrow2.out.bel (by (repeat (first | (with_reducible exact Below.refl _ _) | (with_reducible assumption) | (with_reducible refine Later.out _ ?_) | (with_reducible refine bel_alloc ?_ _) | (with_reducible refine bel_drew ?_) | (with_reducible refine bel_drewN ?_ _) | (with_reducible refine bel_set ?_ ?_ _) | (with_reducible refine After.out _ ?_ ?_) | (dsimp only; omega) | omega | (simp only [World.size_alloc, World.size_setCell, World.size_drew]; omega))))) (hrowS2.out.bel (by (repeat (first | (with_reducible exact Below.refl _ _) | (with_reducible assumption) | (with_reducible refine Later.out _ ?_) | (with_reducible refine bel_alloc ?_ _) | (with_reducible refine bel_drew ?_) | (with_reducible refine bel_drewN ?_ _) | (with_reducible refine bel_set ?_ ?_ _) | (with_reducible refine After.out _ ?_ ?_) | (dsimp only; omega) | omega | (simp only [World.size_alloc, World.size_setCell, World.size_drew]; omega)))))).mono ?_
  rintro e w' ⟨rfl, y4, rfl⟩
  have hsy4 := y4.bel.size
  (try simp only [World.size_alloc, World.size_setCell, World.size_drew] at hsy4)
  go_wp2_with fail
  with_reducible refine (CM1.out _ (hrow2.out.bel (by (repeat (first | (with_reducible exact Below.refl _ _) | (with_reducible assumption) | (with_reducible refine Later.out _ ?_) | (with_reducible refine bel_alloc ?_ _) | (with_reducible refine bel_drew ?_) | (with_reducible refine bel_drewN ?_ _) | (with_reducible refine bel_set ?_ ?_ _) | (with_reducible refine After.out _ ?_ ?_) | (dsimp only; omega) | omega | (simp only [World.size_alloc, World.size_setCell, World.size_drew]; omega))))) (hrowS2.out.bel (by (repeat (first | (with_reducible exact Below.refl _ _) | (with_reducible assumption) | (with_reducible refine Later.out _ ?_) | (with_reducible refine bel_alloc ?_ _) | (with_reducible refine bel_drew ?_) | (with_reducible refine bel_drewN ?_ _) | (with_reducible refine bel_set ?_ ?_ _) | (with_reducible refine After.out _ ?_ ?_) | (dsimp only; omega) | omega | (simp only [World.size_alloc, World.size_setCell, World.size_drew]; omega))))) (hM.out.bel (by (repeat (first | (with_reducible exact Below.refl _ _) | (with_reducible assumption) | (with_reducible refine Later.out _ ?_) | (with_reducible refine bel_alloc ?_ _) | (with_reducible refine bel_drew ?_) | (with_reducible refine bel_drewN ?_ _) | (with_reducible refine bel_set ?_ ?_ _) | (with_reducible refine After.out _ ?_ ?_) | (dsimp only; omega) | omega | (simp only [World.size_alloc, World.size_setCell, World.size_drew]; omega)))))).mono ?_
  rintro e w' ⟨rfl, y5, rfl⟩
  have hsy5 := y5.bel.size
  (try simp only [World.size_alloc, World.size_setCell, World.size_drew] at hsy5)
  go_wp2_with fail
  with_reducible refine (CM2.out _ (hrow2.out.bel (by (repeat (first | (with_reducible exact Below.refl _ _) | (with_reducible assumption) | (with_reducible refine Later.out _ ?_) | (with_reducible refine bel_alloc ?_ _) | (with_reducible refine bel_drew ?_) | (with_reducible refine bel_drewN ?_ _) | (with_reducible refine bel_set ?_ ?_ _) | (with_reducible refine After.out _ ?_ ?_) | (dsimp only; omega) | omega | (simp only [World.size_alloc, World.size_setCell, World.size_drew]; omega))))) (hrowS2.out.bel (by (repeat (first | (with_reducible exact Below.refl _ _) | (with_reducible assumption) | (with_reducible refine Later.out _ ?_) | (with_reducible refine bel_alloc ?_ _) | (with_reducible refine bel_drew ?_) | (with_reducible refine bel_drewN ?_ _) | (with_reducible refine bel_set ?_ ?_ _) | (with_reducible refine After.out _ ?_ ?_) | (dsimp only; omega) | omega | (simp only [World.size_alloc, World.size_setCell, World.size_drew]; omega)))))).mono ?_
  rintro e w' ⟨rfl, y6, rfl⟩
  have hsy6 := y6.bel.size
  (try simp only [World.size_alloc, World.size_setCell, World.size_drew] at hsy6)
  go_wp2_with fail
  with_reducible refine (CS1.out _ (hrow2.out.bel (by (repeat (first | (with_reducible exact Below.refl _ _) | (with_reducible assumption) | (with_reducible refine Later.out _ ?_) | (with_reducible refine bel_alloc ?_ _) | (with_reducible refine bel_drew ?_) | (with_reducible refine bel_drewN ?_ _) | (with_reducible refine bel_set ?_ ?_ _) | (with_reducible refine After.out _ ?_ ?_) | (dsimp only; omega) | omega | (simp only [World.size_alloc, World.size_setCell, World.size_drew]; omega))))) (hrowS2.out.bel (by (repeat (first | (with_reducible exact Below.refl _ _) | (with_reducible assumption) | (with_reducible refine Later.out _ ?_) | (with_reducible refine bel_alloc ?_ _) | (with_reducible refine bel_drew ?_) | (with_reducible refine bel_drewN ?_ _) | (with_reducible refine bel_set ?_ ?_ _) | (with_reducible refine After.out _ ?_ ?_) | (dsimp only; omega) | omega | (simp only [World.size_alloc, World.size_setCell, World.size_drew]; omega))))) (hM.out.bel (by (repeat (first | (with_reducible exact Below.refl _ _) | (with_reducible assumption) | (with_reducible refine Later.out _ ?_) | (with_reducible refine bel_alloc ?_ _) | (with_reducible refine bel_drew ?_) | (with_reducible refine bel_drewN ?_ _) | (with_reducible refine bel_set ?_ ?_ _) | (with_reducible refine After.out _ ?_ ?_) | (dsimp only; omega) | omega | (simp only [World.size_alloc, World.size_setCell, World.size_drew]; omega)))))).mono ?_
  rintro e w' ⟨a7, c7, rfl, hown, y7, rfl⟩
  have hsy7 := y7.bel.size
  (try simp only [World.size_alloc, World.size_setCell, World.size_drew] at hsy7)
  have O7 := Lib.hid (Owns.of hown)
  clear hown
  go_wp2_with fail
  with_reducible refine (CS2.out _ (hrow2.out.bel (by (repeat (first | (with_reducible exact Below.refl _ _) | (with_reducible assumption) | (with_reducible refine Later.out _ ?_) | (with_reducible refine bel_alloc ?_ _) | (with_reducible refine bel_drew ?_) | (with_reducible refine bel_drewN ?_ _) | (with_reducible refine bel_set ?_ ?_ _) | (with_reducible refine After.out _ ?_ ?_) | (dsimp only; omega) | omega | (simp only [World.size_alloc, World.size_setCell, World.size_drew]; omega))))) (hrowS2.out.bel (by (repeat (first | (with_reducible exact Below.refl _ _) | (with_reducible assumption) | (with_reducible refine Later.out _ ?_) | (with_reducible refine bel_alloc ?_ _) | (with_reducible refine bel_drew ?_) | (with_reducible refine bel_drewN ?_ _) | (with_reducible refine bel_set ?_ ?_ _) | (with_reducible refine After.out _ ?_ ?_) | (dsimp only; omega) | omega | (simp only [World.size_alloc, World.size_setCell, World.size_drew]; omega)))))).mono ?_
  rintro e w' ⟨a8, c8, rfl, hown, y8, rfl⟩
  have hsy8 := y8.bel.size
  (try simp only [World.size_alloc, World.size_setCell, World.size_drew] at hsy8)
  have O8 := Lib.hid (Owns.of hown)
  clear hown
  go_wp2_with fail
  with_reducible refine (CT1.out _ (hrow2.out.bel (by (repeat (first | (with_reducible exact Below.refl _ _) | (with_reducible assumption) | (with_reducible refine Later.out _ ?_) | (with_reducible refine bel_alloc ?_ _) | (with_reducible refine bel_drew ?_) | (with_reducible refine bel_drewN ?_ _) | (with_reducible refine bel_set ?_ ?_ _) | (with_reducible refine After.out _ ?_ ?_) | (dsimp only; omega) | omega | (simp only [World.size_alloc, World.size_setCell, World.size_drew]; omega))))) (hrowS2.out.bel (by (repeat (first | (with_reducible exact Below.refl _ _) | (with_reducible assumption) | (with_reducible refine Later.out _ ?_) | (with_reducible refine bel_alloc ?_ _) | (with_reducible refine bel_drew ?_) | (with_reducible refine bel_drewN ?_ _) | (with_reducible refine bel_set ?_ ?_ _) | (with_reducible refine After.out _ ?_ ?_) | (dsimp only; omega) | omega | (simp only [World.size_alloc, World.size_setCell, World.size_drew]; omega))))) (hM.out.bel (by (repeat (first | (with_reducible exact Below.refl _ _) | (with_reducible assumption) | (with_reducible refine Later.out _ ?_) | (with_reducible refine bel_alloc ?_ _) | (with_reducible refine bel_drew ?_) | (with_reducible refine bel_drewN ?_ _) | (with_reducible refine bel_set ?_ ?_ _) | (with_reducible refine After.out _ ?_ ?_) | (dsimp only; omega) | omega | (simp only [World.size_alloc, World.size_setCell, World.size_drew]; omega)))))).mono ?_
  rintro e w' ⟨a9, c9, rfl, hown, y9, rfl⟩
  have hsy9 := y9.bel.size
  (try simp only [World.size_alloc, World.size_setCell, World.size_drew] at hsy9)
  have O9 := Lib.hid (Owns.of hown)
  clear hown
  go_wp2_with fail
  with_reducible refine (CT2.out _ (hrow2.out.bel (by (repeat (first | (with_reducible exact Below.refl _ _) | (with_reducible assumption) | (with_reducible refine Later.out _ ?_) | (with_reducible refine bel_alloc ?_ _) | (with_reducible refine bel_drew ?_) | (with_reducible refine bel_drewN ?_ _) | (with_reducible refine bel_set ?_ ?_ _) | (with_reducible refine After.out _ ?_ ?_) | (dsimp only; omega) | omega | (simp only [World.size_alloc, World.size_setCell, World.size_drew]; omega))))) (hrowS2.out.bel (by (repeat (first | (with_reducible exact Below.refl _ _) | (with_reducible assumption) | (with_reducible refine Later.out _ ?_) | (with_reducible refine bel_alloc ?_ _) | (with_reducible refine bel_drew ?_) | (with_reducible refine bel_drewN ?_ _) | (with_reducible refine bel_set ?_ ?_ _) | (with_reducible refine After.out _ ?_ ?_) | (dsimp only; omega) | omega | (simp only [World.size_alloc, World.size_setCell, World.size_drew]; omega)))))).mono ?_
  rintro e w' ⟨a10, c10, rfl, hown, y10, rfl⟩
  have hsy10 := y10.bel.size
  (try simp only [World.size_alloc, World.size_setCell, World.size_drew] at hsy10)
  have O10 := Lib.hid (Owns.of hown)
  clear hown
  go_wp2_with fail
  with_reducible refine (CL1.out _ (hrow1.out.bel (by (repeat (first | (with_reducible exact Below.refl _ _) | (with_reducible assumption) | (with_reducible refine Later.out _ ?_) | (with_reducible refine bel_alloc ?_ _) | (with_reducible refine bel_drew ?_) | (with_reducible refine bel_drewN ?_ _) | (with_reducible refine bel_set ?_ ?_ _) | (with_reducible refine After.out _ ?_ ?_) | (dsimp only; omega) | omega | (simp only [World.size_alloc, World.size_setCell, World.size_drew]; omega))))) (hM.out.bel (by (repeat (first | (with_reducible exact Below.refl _ _) | (with_reducible assumption) | (with_reducible refine Later.out _ ?_) | (with_reducible refine bel_alloc ?_ _) | (with_reducible refine bel_drew ?_) | (with_reducible refine bel_drewN ?_ _) | (with_reducible refine bel_set ?_ ?_ _) | (with_reducible refine After.out _ ?_ ?_) | (dsimp only; omega) | omega | (simp only [World.size_alloc, World.size_setCell, World.size_drew]; omega)))))).mono ?_
  rintro e w' ⟨rfl, y11, rfl⟩
  have hsy11 := y11.bel.size
  (try simp only [World.size_alloc, World.size_setCell, World.size_drew] at hsy11)
  go_wp2_with fail
  with_reducible refine (CL2.out _ (hrow1.out.bel (by (repeat (first | (with_reducible exact Below.refl _ _) | (with_reducible assumption) | (with_reducible refine Later.out _ ?_) | (with_reducible refine bel_alloc ?_ _) | (with_reducible refine bel_drew ?_) | (with_reducible refine bel_drewN ?_ _) | (with_reducible refine bel_set ?_ ?_ _) | (with_reducible refine After.out _ ?_ ?_) | (dsimp only; omega) | omega | (simp only [World.size_alloc, World.size_setCell, World.size_drew]; omega)))))).mono ?_
  rintro e w' ⟨rfl, y12, rfl⟩
  have hsy12 := y12.bel.size
  (try simp only [World.size_alloc, World.size_setCell, World.size_drew] at hsy12)
  go_wp2_with fail
  with_reducible refine (CK1.out _ (hrow1.out.bel (by (repeat (first | (with_reducible exact Below.refl _ _) | (with_reducible assumption) | (with_reducible refine Later.out _ ?_) | (with_reducible refine bel_alloc ?_ _) | (with_reducible refine bel_drew ?_) | (with_reducible refine bel_drewN ?_ _) | (with_reducible refine bel_set ?_ ?_ _) | (with_reducible refine After.out _ ?_ ?_) | (dsimp only; omega) | omega | (simp only [World.size_alloc, World.size_setCell, World.size_drew]; omega))))) (hM.out.bel (by (repeat (first | (with_reducible exact Below.refl _ _) | (with_reducible assumption) | (with_reducible refine Later.out _ ?_) | (with_reducible refine bel_alloc ?_ _) | (with_reducible refine bel_drew ?_) | (with_reducible refine bel_drewN ?_ _) | (with_reducible refine bel_set ?_ ?_ _) | (with_reducible refine After.out _ ?_ ?_) | (dsimp only; omega) | omega | (simp only [World.size_alloc, World.size_setCell, World.size_drew]; omega)))))).mono ?_
  rintro e w' ⟨a13, c13, rfl, hown, y13, rfl⟩
  have hsy13 := y13.bel.size
  (try simp only [World.size_alloc, World.size_setCell, World.size_drew] at hsy13)
  have O13 := Lib.hid (Owns.of hown)
  clear hown
  go_wp2_with fail
  with_reducible refine (CK2.out _ (hrow1.out.bel (by (repeat (first | (with_reducible exact Below.refl _ _) | (with_reducible assumption) | (with_reducible refine Later.out _ ?_) | (with_reducible refine bel_alloc ?_ _) | (with_reducible refine bel_drew ?_) | (with_reducible refine bel_drewN ?_ _) | (with_reducible refine bel_set ?_ ?_ _) | (with_reducible refine After.out _ ?_ ?_) | (dsimp only; omega) | omega | (simp only [World.size_alloc, World.size_setCell, World.size_drew]; omega)))))).mono ?_
  rintro e w' ⟨a14, c14, rfl, hown, y14, rfl⟩
  have hsy14 := y14.bel.size
  (try simp only [World.size_alloc, World.size_setCell, World.size_drew] at hsy14)
  have O14 := Lib.hid (Owns.of hown)
  clear hown
  go_wp2_with fail
  with_reducible refine (likeTables_same _ _ _ _ _ _ _ _ rfl rfl hR1l (fun l hl => Nat.le_trans (hR1e.out l hl) (by omega)) (N1.out.rows.bel (by (repeat (first | (with_reducible exact Below.refl _ _) | (with_reducible assumption) | (with_reducible refine Later.out _ ?_) | (with_reducible refine bel_alloc ?_ _) | (with_reducible refine bel_drew ?_) | (with_reducible refine bel_drewN ?_ _) | (with_reducible refine bel_set ?_ ?_ _) | (with_reducible refine After.out _ ?_ ?_) | (dsimp only; omega) | omega | (simp only [World.size_alloc, World.size_setCell, World.size_drew]; omega))))) (N2.out.rows.bel (by (repeat (first | (with_reducible exact Below.refl _ _) | (with_reducible assumption) | (with_reducible refine Later.out _ ?_) | (with_reducible refine bel_alloc ?_ _) | (with_reducible refine bel_drew ?_) | (with_reducible refine bel_drewN ?_ _) | (with_reducible refine bel_set ?_ ?_ _) | (with_reducible refine After.out _ ?_ ?_) | (dsimp only; omega) | omega | (simp only [World.size_alloc, World.size_setCell, World.size_drew]; omega)))))).mono ?_
  rintro e w' ⟨rfl, y15, rfl⟩
  have hsy15 := y15.bel.size
  (try simp only [World.size_alloc, World.size_setCell, World.size_drew] at hsy15)
  go_wp2_with fail
  with_reducible refine (likeInts_same rfl rfl hR4l hR4l (O7.out.row.bel (by (repeat (first | (with_reducible exact Below.refl _ _) | (with_reducible assumption) | (with_reducible refine Later.out _ ?_) | (with_reducible refine bel_alloc ?_ _) | (with_reducible refine bel_drew ?_) | (with_reducible refine bel_drewN ?_ _) | (with_reducible refine bel_set ?_ ?_ _) | (with_reducible refine After.out _ ?_ ?_) | (dsimp only; omega) | omega | (simp only [World.size_alloc, World.size_setCell, World.size_drew]; omega))))) (O8.out.row.bel (by (repeat (first | (with_reducible exact Below.refl _ _) | (with_reducible assumption) | (with_reducible refine Later.out _ ?_) | (with_reducible refine bel_alloc ?_ _) | (with_reducible refine bel_drew ?_) | (with_reducible refine bel_drewN ?_ _) | (with_reducible refine bel_set ?_ ?_ _) | (with_reducible refine After.out _ ?_ ?_) | (dsimp only; omega) | omega | (simp only [World.size_alloc, World.size_setCell, World.size_drew]; omega)))))).mono ?_
  rintro e w' ⟨rfl, y16, rfl⟩
  have hsy16 := y16.bel.size
  (try simp only [World.size_alloc, World.size_setCell, World.size_drew] at hsy16)
  go_wp2_with fail
  with_reducible refine (likeClaims_same _ _ _ _ _ _ _ _ rfl rfl hR5l (O9.out.row.bel (by (repeat (first | (with_reducible exact Below.refl _ _) | (with_reducible assumption) | (with_reducible refine Later.out _ ?_) | (with_reducible refine bel_alloc ?_ _) | (with_reducible refine bel_drew ?_) | (with_reducible refine bel_drewN ?_ _) | (with_reducible refine bel_set ?_ ?_ _) | (with_reducible refine After.out _ ?_ ?_) | (dsimp only; omega) | omega | (simp only [World.size_alloc, World.size_setCell, World.size_drew]; omega))))) (O10.out.row.bel (by (repeat (first | (with_reducible exact Below.refl _ _) | (with_reducible assumption) | (with_reducible refine Later.out _ ?_) | (with_reducible refine bel_alloc ?_ _) | (with_reducible refine bel_drew ?_) | (with_reducible refine bel_drewN ?_ _) | (with_reducible refine bel_set ?_ ?_ _) | (with_reducible refine After.out _ ?_ ?_) | (dsimp only; omega) | omega | (simp only [World.size_alloc, World.size_setCell, World.size_drew]; omega)))))).mono ?_
  rintro e w' ⟨rfl, y17, rfl⟩
  have hsy17 := y17.bel.size
  (try simp only [World.size_alloc, World.size_setCell, World.size_drew] at hsy17)
  go_wp2_with fail
  with_reducible refine (likeInts_same rfl rfl hR7l hR7l (O13.out.row.bel (by (repeat (first | (with_reducible exact Below.refl _ _) | (with_reducible assumption) | (with_reducible refine Later.out _ ?_) | (with_reducible refine bel_alloc ?_ _) | (with_reducible refine bel_drew ?_) | (with_reducible refine bel_drewN ?_ _) | (with_reducible refine bel_set ?_ ?_ _) | (with_reducible refine After.out _ ?_ ?_) | (dsimp only; omega) | omega | (simp only [World.size_alloc, World.size_setCell, World.size_drew]; omega))))) (O14.out.row.bel (by (repeat (first | (with_reducible exact Below.refl _ _) | (with_reducible assumption) | (with_reducible refine Later.out _ ?_) | (with_reducible refine bel_alloc ?_ _) | (with_reducible refine bel_drew ?_) | (with_reducible refine bel_drewN ?_ _) | (with_reducible refine bel_set ?_ ?_ _) | (with_reducible refine After.out _ ?_ ?_) | (dsimp only; omega) | omega | (simp only [World.size_alloc, World.size_setCell, World.size_drew]; omega)))))).mono ?_
  rintro e w' ⟨rfl, y18, rfl⟩
  have hsy18 := y18.bel.size
  (try simp only [World.size_alloc, World.size_setCell, World.size_drew] at hsy18)
  go_upto_region 21 with fail
  go_cut [217] from 203 to 216 (fun b wr => b = .bool false ∧ wr = y18.w)
  case first =>
    by_cases hK2 : K2 = 0
    · have q1 := p1.out hK2
      subst hK2
      cases hB2 : B2
      · rw [hB2] at q1
        have hB3 : B3 = false := by
          cases hB : B3
          · rfl
          · have := p3.out hB; rw [hB2] at this; cases this
        subst hB2 hB3
        go_wp2_with fail
        go_meet
        exact ⟨rfl, by first | rfl | trivial⟩
      · rw [hB2] at q1
        subst hB2
        cases B3
        all_goals
          go_wp2_with fail
          go_meet
          exact ⟨rfl, by first | rfl | trivial⟩
    · have hB3 := p2.out hK2
      have hK2' : (K2 == 0) = false := by rw [beq_eq_false_iff_ne]; exact hK2
      subst hB3
      go_wp2_with fail
      go_meet
      exact ⟨rfl, by first | rfl | trivial⟩
  case rest =>
    obtain ⟨rfl, rfl⟩ := hcut
    go_upto_if 219 with fail
    go_cut [34, 35] from 220 to 240 (fun _ _ wr => ∃ y : Later y18.w, wr = y.w)
    case first =>
      by_cases hK4 : K4 = 0
      · obtain ⟨e1, e2, e3⟩ := p4.out hK4
        have CX2 := CX.out
        rw [e1, e2] at CX2
        replace CX2 := Lib.hid CX2
        subst hK4
        have hcp7 := O7.out.cap
        clear e1 e2
        cases hB3 : B3
        · subst hB3
          go_wp2_with fail
          with_reducible refine (CX2.out _ _ _ (hrow2.out.bel (by (repeat (first | (with_reducible exact Below.refl _ _) | (with_reducible assumption) | (with_reducible refine Later.out _ ?_) | (with_reducible refine bel_alloc ?_ _) | (with_reducible refine bel_drew ?_) | (with_reducible refine bel_drewN ?_ _) | (with_reducible refine bel_set ?_ ?_ _) | (with_reducible refine After.out _ ?_ ?_) | (dsimp only; omega) | omega | (simp only [World.size_alloc, World.size_setCell, World.size_drew]; omega))))) (O7.out.row.bel (by (repeat (first | (with_reducible exact Below.refl _ _) | (with_reducible assumption) | (with_reducible refine Later.out _ ?_) | (with_reducible refine bel_alloc ?_ _) | (with_reducible refine bel_drew ?_) | (with_reducible refine bel_drewN ?_ _) | (with_reducible refine bel_set ?_ ?_ _) | (with_reducible refine After.out _ ?_ ?_) | (dsimp only; omega) | omega | (simp only [World.size_alloc, World.size_setCell, World.size_drew]; omega))))) hcp7 (hM.out.bel (by (repeat (first | (with_reducible exact Below.refl _ _) | (with_reducible assumption) | (with_reducible refine Later.out _ ?_) | (with_reducible refine bel_alloc ?_ _) | (with_reducible refine bel_drew ?_) | (with_reducible refine bel_drewN ?_ _) | (with_reducible refine bel_set ?_ ?_ _) | (with_reducible refine After.out _ ?_ ?_) | (dsimp only; omega) | omega | (simp only [World.size_alloc, World.size_setCell, World.size_drew]; omega)))))).mono ?_
          rintro e w' ⟨rfl, y19, rfl⟩
          have hsy19 := y19.bel.size
          (try simp only [World.size_alloc, World.size_setCell, World.size_drew] at hsy19)
          go_wp2_with fail
          go_meet
          exact ⟨y19, rfl⟩
        · have e4 := e3 hB3
          subst hB3
          subst e4
          go_wp2_with fail
          with_reducible refine (CX2.out _ _ _ (hrow2.out.bel (by (repeat (first | (with_reducible exact Below.refl _ _) | (with_reducible assumption) | (with_reducible refine Later.out _ ?_) | (with_reducible refine bel_alloc ?_ _) | (with_reducible refine bel_drew ?_) | (with_reducible refine bel_drewN ?_ _) | (with_reducible refine bel_set ?_ ?_ _) | (with_reducible refine After.out _ ?_ ?_) | (dsimp only; omega) | omega | (simp only [World.size_alloc, World.size_setCell, World.size_drew]; omega))))) (O7.out.row.bel (by (repeat (first | (with_reducible exact Below.refl _ _) | (with_reducible assumption) | (with_reducible refine Later.out _ ?_) | (with_reducible refine bel_alloc ?_ _) | (with_reducible refine bel_drew ?_) | (with_reducible refine bel_drewN ?_ _) | (with_reducible refine bel_set ?_ ?_ _) | (with_reducible refine After.out _ ?_ ?_) | (dsimp only; omega) | omega | (simp only [World.size_alloc, World.size_setCell, World.size_drew]; omega))))) hcp7 (hM.out.bel (by (repeat (first | (with_reducible exact Below.refl _ _) | (with_reducible assumption) | (with_reducible refine Later.out _ ?_) | (with_reducible refine bel_alloc ?_ _) | (with_reducible refine bel_drew ?_) | (with_reducible refine bel_drewN ?_ _) | (with_reducible refine bel_set ?_ ?_ _) | (with_reducible refine After.out _ ?_ ?_) | (dsimp only; omega) | omega | (simp only [World.size_alloc, World.size_setCell, World.size_drew]; omega)))))).mono ?_
          rintro e w' ⟨rfl, y19, rfl⟩
          have hsy19 := y19.bel.size
          (try simp only [World.size_alloc, World.size_setCell, World.size_drew] at hsy19)
          go_wp2_with fail
          with_reducible refine (likeInts_same rfl rfl hR4l hR4l (O7.out.row.bel (by (repeat (first | (with_reducible exact Below.refl _ _) | (with_reducible assumption) | (with_reducible refine Later.out _ ?_) | (with_reducible refine bel_alloc ?_ _) | (with_reducible refine bel_drew ?_) | (with_reducible refine bel_drewN ?_ _) | (with_reducible refine bel_set ?_ ?_ _) | (with_reducible refine After.out _ ?_ ?_) | (dsimp only; omega) | omega | (simp only [World.size_alloc, World.size_setCell, World.size_drew]; omega))))) (hrowS2.out.bel (by (repeat (first | (with_reducible exact Below.refl _ _) | (with_reducible assumption) | (with_reducible refine Later.out _ ?_) | (with_reducible refine bel_alloc ?_ _) | (with_reducible refine bel_drew ?_) | (with_reducible refine bel_drewN ?_ _) | (with_reducible refine bel_set ?_ ?_ _) | (with_reducible refine After.out _ ?_ ?_) | (dsimp only; omega) | omega | (simp only [World.size_alloc, World.size_setCell, World.size_drew]; omega)))))).mono ?_
          rintro e w' ⟨rfl, y20, rfl⟩
          have hsy20 := y20.bel.size
          (try simp only [World.size_alloc, World.size_setCell, World.size_drew] at hsy20)
          go_wp2_with fail
          go_meet
          exact LaterC.mk (by (repeat (first | (with_reducible exact Below.refl _ _) | (with_reducible assumption) | (with_reducible refine Later.out _ ?_) | (with_reducible refine bel_alloc ?_ _) | (with_reducible refine bel_drew ?_) | (with_reducible refine bel_drewN ?_ _) | (with_reducible refine bel_set ?_ ?_ _) | (with_reducible refine After.out _ ?_ ?_) | (dsimp only; omega) | omega | (simp only [World.size_alloc, World.size_setCell, World.size_drew]; omega))))
      · have hK4' : (K4 == 0) = false := by rw [beq_eq_false_iff_ne]; exact hK4
        go_wp2_with fail
        go_meet
        exact ⟨⟨y18.w, Below.refl _ _⟩, rfl⟩
    case rest =>
      obtain ⟨y19, rfl⟩ := hcut
      have hsy19 := y19.bel.size
      have hN := Lib.hid (N1.out.bel (w' := y19.w) (B := y1.w.heap.size) (by (repeat (first | (with_reducible exact Below.refl _ _) | (with_reducible assumption) | (with_reducible refine Later.out _ ?_) | (with_reducible refine bel_alloc ?_ _) | (with_reducible refine bel_drew ?_) | (with_reducible refine bel_drewN ?_ _) | (with_reducible refine bel_set ?_ ?_ _) | (with_reducible refine After.out _ ?_ ?_) | (dsimp only; omega) | omega | (simp only [World.size_alloc, World.size_setCell, World.size_drew]; omega)))) (Nat.le_refl _))
      have hrowL := Lib.hid (hrow1.out.bel (w' := y19.w) (by (repeat (first | (with_reducible exact Below.refl _ _) | (with_reducible assumption) | (with_reducible refine Later.out _ ?_) | (with_reducible refine bel_alloc ?_ _) | (with_reducible refine bel_drew ?_) | (with_reducible refine bel_drewN ?_ _) | (with_reducible refine bel_set ?_ ?_ _) | (with_reducible refine After.out _ ?_ ?_) | (dsimp only; omega) | omega | (simp only [World.size_alloc, World.size_setCell, World.size_drew]; omega)))))
      have hM9 := Lib.hid (hM.out.bel (w' := y19.w) (by (repeat (first | (with_reducible exact Below.refl _ _) | (with_reducible assumption) | (with_reducible refine Later.out _ ?_) | (with_reducible refine bel_alloc ?_ _) | (with_reducible refine bel_drew ?_) | (with_reducible refine bel_drewN ?_ _) | (with_reducible refine bel_set ?_ ?_ _) | (with_reducible refine After.out _ ?_ ?_) | (dsimp only; omega) | omega | (simp only [World.size_alloc, World.size_setCell, World.size_drew]; omega)))))
      have hB9 : Below w.heap.size w y19.w := by (repeat (first | (with_reducible exact Below.refl _ _) | (with_reducible assumption) | (with_reducible refine Later.out _ ?_) | (with_reducible refine bel_alloc ?_ _) | (with_reducible refine bel_drew ?_) | (with_reducible refine bel_drewN ?_ _) | (with_reducible refine bel_set ?_ ?_ _) | (with_reducible refine After.out _ ?_ ?_) | (dsimp only; omega) | omega | (simp only [World.size_alloc, World.size_setCell, World.size_drew]; omega)))
      obtain ⟨V, hV⟩ : ∃ V, y19.w = V := ⟨_, rfl⟩
      rw [hV] at hN hrowL hM9 hB9
      rw [hV]
      clear hV hsy19 y19
      by_cases hK1 : K1 = 0
      · obtain ⟨rfl, l2⟩ := hlaw.out hK1
        subst hK1
        replace l2 := Lib.hid l2
        go_wp2_with fail
        with_reducible refine (CB.out _ (hrowL.out.bel (by (repeat (first | (with_reducible exact Below.refl _ _) | (with_reducible assumption) | (with_reducible refine Later.out _ ?_) | (with_reducible refine bel_alloc ?_ _) | (with_reducible refine bel_drew ?_) | (with_reducible refine bel_drewN ?_ _) | (with_reducible refine bel_set ?_ ?_ _) | (with_reducible refine After.out _ ?_ ?_) | (dsimp only; omega) | omega | (simp only [World.size_alloc, World.size_setCell, World.size_drew]; omega))))) (hM9.out.bel (by (repeat (first | (with_reducible exact Below.refl _ _) | (with_reducible assumption) | (with_reducible refine Later.out _ ?_) | (with_reducible refine bel_alloc ?_ _) | (with_reducible refine bel_drew ?_) | (with_reducible refine bel_drewN ?_ _) | (with_reducible refine bel_set ?_ ?_ _) | (with_reducible refine After.out _ ?_ ?_) | (dsimp only; omega) | omega | (simp only [World.size_alloc, World.size_setCell, World.size_drew]; omega)))))).mono ?_
        rintro e w' ⟨a20, c20, rfl, hown, y20, rfl⟩
        have hsy20 := y20.bel.size
        (try simp only [World.size_alloc, World.size_setCell, World.size_drew] at hsy20)
        have O20 := Lib.hid (Owns.of hown)
        clear hown
        go_wp2_with fail
        go_loopw [39, 40, 41, 42, 43] (fun i _ _ _ _ wr => ∃ k : Nat, k ≤ R1.length ∧ i = .int .i64 k ∧ ∃ z : Later y20.w, wr = z.w) (fun i _ _ _ _ _ => R1.length - (intOf i).toNat)
        case atStart => exact ⟨0, Nat.zero_le _, rfl, ⟨y20.w, Below.refl _ _⟩, rfl⟩
        case round =>
          obtain ⟨k, hk, rfl, z, rfl⟩ := hrel
          have hsz := z.bel.size
          by_cases hlt : k < R1.length
          · have hi1 : (k : Int) < (R1.length : Int) := by omega
            obtain ⟨b9, e9, -, h9b, hc9, -⟩ := hN.out.own.at_ (j := k) (by omega)
            subst e9
            obtain ⟨aT, cT, hvT, hoT⟩ := hN.out.at_ k hlt
            rw [hvT] at hc9
            have hlb : b9 < V.heap.size := World.block_lt_of_cell? V _ hc9
            have hT12 := hR1e.out _ (List.getElem_mem hlt)
            obtain ⟨t1, t2, t3, t4⟩ := l2.out _ (List.getElem_mem hlt)
            obtain ⟨T, hT⟩ : ∃ T, R1[k] = T := ⟨_, rfl⟩
            rw [hT] at hc9 hT12 t1 t2 t3 t4 hoT
            have hrT := Lib.hid hoT.row
            have CWT := fun w hr hr' hM => CW.out T hT12 aT cT w hr hr' hM
            have CMT := fun w hr hr' hM => CM.out T hT12 aT cT w hr hr' hoT.cap hM
            obtain ⟨WT, hWT⟩ : ∃ x, wtR L1 T = x := ⟨_, rfl⟩
            rw [hWT] at t3
            rw [hWT, t1] at CWT
            rw [t1, t2] at CMT
            replace CWT := Lib.hid CWT
            replace CMT := Lib.hid CMT
            clear hvT hoT hT t1 t2 hWT
            go_wp2_with fail
            with_reducible refine (CWT.out _ (hrowL.out.bel (by (repeat (first | (with_reducible exact Below.refl _ _) | (with_reducible assumption) | (with_reducible refine Later.out _ ?_) | (with_reducible refine bel_alloc ?_ _) | (with_reducible refine bel_drew ?_) | (with_reducible refine bel_drewN ?_ _) | (with_reducible refine bel_set ?_ ?_ _) | (with_reducible refine After.out _ ?_ ?_) | (dsimp only; omega) | omega | (simp only [World.size_alloc, World.size_setCell, World.size_drew]; omega))))) (hrT.out.bel (by (repeat (first | (with_reducible exact Below.refl _ _) | (with_reducible assumption) | (with_reducible refine Later.out _ ?_) | (with_reducible refine bel_alloc ?_ _) | (with_reducible refine bel_drew ?_) | (with_reducible refine bel_drewN ?_ _) | (with_reducible refine bel_set ?_ ?_ _) | (with_reducible refine After.out _ ?_ ?_) | (dsimp only; omega) | omega | (simp only [World.size_alloc, World.size_setCell, World.size_drew]; omega))))) (hM9.out.bel (by (repeat (first | (with_reducible exact Below.refl _ _) | (with_reducible assumption) | (with_reducible refine Later.out _ ?_) | (with_reducible refine bel_alloc ?_ _) | (with_reducible refine bel_drew ?_) | (with_reducible refine bel_drewN ?_ _) | (with_reducible refine bel_set ?_ ?_ _) | (with_reducible refine After.out _ ?_ ?_) | (dsimp only; omega) | omega | (simp only [World.size_alloc, World.size_setCell, World.size_drew]; omega)))))).mono ?_
            rintro e w' ⟨rfl, y21, rfl⟩
            have hsy21 := y21.bel.size
            (try simp only [World.size_alloc, World.size_setCell, World.size_drew] at hsy21)
            go_wp2_with fail
            with_reducible refine (CMT.out _ (hrowL.out.bel (by (repeat (first | (with_reducible exact Below.refl _ _) | (with_reducible assumption) | (with_reducible refine Later.out _ ?_) | (with_reducible refine bel_alloc ?_ _) | (with_reducible refine bel_drew ?_) | (with_reducible refine bel_drewN ?_ _) | (with_reducible refine bel_set ?_ ?_ _) | (with_reducible refine After.out _ ?_ ?_) | (dsimp only; omega) | omega | (simp only [World.size_alloc, World.size_setCell, World.size_drew]; omega))))) (hrT.out.bel (by (repeat (first | (with_reducible exact Below.refl _ _) | (with_reducible assumption) | (with_reducible refine Later.out _ ?_) | (with_reducible refine bel_alloc ?_ _) | (with_reducible refine bel_drew ?_) | (with_reducible refine bel_drewN ?_ _) | (with_reducible refine bel_set ?_ ?_ _) | (with_reducible refine After.out _ ?_ ?_) | (dsimp only; omega) | omega | (simp only [World.size_alloc, World.size_setCell, World.size_drew]; omega))))) (hM9.out.bel (by (repeat (first | (with_reducible exact Below.refl _ _) | (with_reducible assumption) | (with_reducible refine Later.out _ ?_) | (with_reducible refine bel_alloc ?_ _) | (with_reducible refine bel_drew ?_) | (with_reducible refine bel_drewN ?_ _) | (with_reducible refine bel_set ?_ ?_ _) | (with_reducible refine After.out _ ?_ ?_) | (dsimp only; omega) | omega | (simp only [World.size_alloc, World.size_setCell, World.size_drew]; omega)))))).mono ?_
            rintro e w' ⟨rfl, y22, rfl⟩
            have hsy22 := y22.bel.size
            (try simp only [World.size_alloc, World.size_setCell, World.size_drew] at hsy22)
            go_wp2_with fail
            go_roundw
            case rel => exact ⟨k + 1, by omega, by go_num, LaterC.mk (by (repeat (first | (with_reducible exact Below.refl _ _) | (with_reducible assumption) | (with_reducible refine Later.out _ ?_) | (with_reducible refine bel_alloc ?_ _) | (with_reducible refine bel_drew ?_) | (with_reducible refine bel_drewN ?_ _) | (with_reducible refine bel_set ?_ ?_ _) | (with_reducible refine After.out _ ?_ ?_) | (dsimp only; omega) | omega | (simp only [World.size_alloc, World.size_setCell, World.size_drew]; omega))))⟩
            case measure => first | (simp [intOf]; done) | (simp [intOf]; omega) | omega
          · obtain rfl : k = R1.length := by omega
            have hi1 : ¬ (R1.length : Int) < (R1.length : Int) := by omega
            go_wp2_with fail
            go_ret
            refine .mk rfl ?_
            (repeat (first | (with_reducible exact Below.refl _ _) | (with_reducible assumption) | (with_reducible refine Later.out _ ?_) | (with_reducible refine bel_alloc ?_ _) | (with_reducible refine bel_drew ?_) | (with_reducible refine bel_drewN ?_ _) | (with_reducible refine bel_set ?_ ?_ _) | (with_reducible refine After.out _ ?_ ?_) | (dsimp only; omega) | omega | (simp only [World.size_alloc, World.size_setCell, World.size_drew]; omega)))
      · have hK1' : (K1 != 0) = true := by simpa using hK1
        go_wp2_with fail
        go_ret
        refine .mk rfl ?_
        (repeat (first | (with_reducible exact Below.refl _ _) | (with_reducible assumption) | (with_reducible refine Later.out _ ?_) | (with_reducible refine bel_alloc ?_ _) | (with_reducible refine bel_drew ?_) | (with_reducible refine bel_drewN ?_ _) | (with_reducible refine bel_set ?_ ?_ _) | (with_reducible refine After.out _ ?_ ?_) | (dsimp only; omega) | omega | (simp only [World.size_alloc, World.size_setCell, World.size_drew]; omega)))
end Go.Proofs.YtflcfdiochohgaaGreatDoor

import Derived.Test.YtflcfdiochohgaaGreatDoorDrawF
import Derived.Test.YtflcfdiochohgaaGreatDoorLikeC
import Derived.Test.YtflcfdiochohgaaGreatDoorPackE
import Derived.Test.YtflcfdiochohgaaGreatDoorPackF
import Derived.Test.YtflcfdiochohgaaGreatDoorCoreC
import Derived.Test.YtflcfdiochohgaaGreatDoorPackG
import Derived.Test.YtflcfdiochohgaaGreatDoorHits
import Derived.Test.YtflcfdiochohgaaGreatDoorRepC
import Derived.Test.YtflcfdiochohgaaGreatDoorCon
import Derived.Test.YtflcfdiochohgaaGreatDoorMinL
/- The law Cores: what hits all cores is a repair, and claims are consistent exactly if there are no cores. -/
set_option linter.unusedSimpArgs false
set_option linter.unusedVariables false
namespace Go.Proofs.YtflcfdiochohgaaGreatDoor
open Go.RowKit
theorem crs_claims {L : List Clm} (h : crsK L = 0) : claimsB L = true := by
  unfold crsK at h
  cases hc : claimsB L
  · rw [hc] at h; cases h
  · rfl
theorem crs_el (L : List Clm) : ∀ T ∈ crsR L, Ixs L.length T := fun T hT => by
  unfold crsR at hT
  split at hT
  · split at hT
    · simp at hT
    · exact ((mem_minZ (coreG_mono L) (ixs_nil _) T).1 hT).1
  · simp at hT
theorem crs_short (L : List Clm) : ∀ T ∈ crsR L, T.length ≤ 12 := fun T hT => by
  have h := ixs_len (crs_el L T hT)
  unfold crsR at hT
  split at hT
  · rename_i hc
    have := len_of_claims hc
    omega
  · simp at hT
theorem crs_many (L : List Clm) : (crsR L).length ≤ 60 := by
  unfold crsR
  split
  · split
    · simp
    · omega
  · simp
/-- What the law asks of all cores. -/
theorem cores_law {L : List Clm} (h : crsK L = 0) : conK L = 0 ∧ (((crsR L).length : Int) == 0) = conR L ∧ (smcK L == 4) = conR L ∧ (incR L).sum = lenTo (crsR L) (crsR L).length ∧ ∀ T ∈ crsR L, ¬ ((T.length : Int) < (smcR L).length) := by
  have hc := crs_claims h
  have hR : crsR L = minZ (coreG L) L.length [] := by
    unfold crsK at h
    unfold crsR
    rw [hc] at h ⊢
    simp only [if_true] at h ⊢
    split at h
    · cases h
    · rename_i h1; rw [if_neg h1]
  have e1 : conR L = consB L := by unfold conR; rw [hc]; rfl
  refine ⟨by unfold conK; rw [hc]; rfl, ?_, ?_, ?_, fun T hT => ?_⟩
  · rw [e1, hR]
    cases hb : consB L
    · have := cores_some hb
      rw [beq_eq_false_iff_ne]
      omega
    · rw [cores_empty hb]; rfl
  · rw [e1]
    unfold smcK
    rw [hc]
    cases hb : consB L <;> rfl
  · have e2 : incR L = incTo L.length (minZ (coreG L) L.length []) (minZ (coreG L) L.length []).length := by unfold incR; rw [hc]; rfl
    rw [e2, hR]
    exact incTo_sum (fun T hT => by
      have hI := ((mem_minZ (coreG_mono L) (ixs_nil _) T).1 hT).1
      intro x hx
      have := hI.bd x hx
      omega) _ (Nat.le_refl _)
  · have e3 : smcR L = bestL lenLt (minZ (coreG L) L.length []) := by unfold smcR; rw [hc]; rfl
    rw [e3]
    rw [hR] at hT
    have := best_short hT
    omega
theorem wit_law {L : List Clm} {l : List Int} (h : witK L l = 0) : codeZ L (witR L l) = 0 ∧ coreR L (witR L l) = true := by
  unfold witK at h
  split at h
  · rename_i hc
    split at h
    · rename_i hg
      have e : witR L l = shrinkS (coreG L) l 0 := by unfold witR; rw [if_pos hc, hg]; rfl
      obtain ⟨h1, h2⟩ := shrinkS_min (coreG_mono L) (code_ixs hc) hg
      have hz := codeZ_ixs (codeZ_claims hc) ((code_ixs hc).sub h2)
      rw [e]
      exact ⟨hz, by unfold coreR; rw [if_pos hz]; exact h1⟩
    · cases h
  · rename_i hc
    exact absurd h hc
theorem inc_bd {L : List Clm} : ∀ x ∈ incR L, 0 ≤ x ∧ x ≤ 1048576 := fun x hx => by
  unfold incR at hx
  split at hx
  · rename_i hc
    have h12 := len_of_claims hc
    have hF := few_incTo L.length (R := minZ (coreG L) L.length []) (minZ_short h12) (minZ (coreG L) L.length []).length
    have hs := minZ_small (coreG L) h12 []
    obtain ⟨i, hi, rfl⟩ := List.mem_iff_getElem.1 hx
    have := hF.2 i
    rw [getD_at hi] at this
    omega
  · simp at hx
set_option maxRecDepth 8000 in
set_option maxHeartbeats 16000000 in
theorem lawCores_any (a : Option Addr) (n c : Nat) (bs : List Int) (w : World) (hr : Row w a (byteCells bs)) (hl : bs.length = n) (hm : n ≤ maxLen) (hx : ∀ x ∈ bs, 0 ≤ x ∧ x ≤ 255) (hM : Max w) :
    Calls Tryz.prog 5 #[.slice a n c] w (Ret w (.bool true)) := by
  by_cases hbig : 4096 < n
  · clear hr hl hx hM
    go_enter Tryz.func5, Tryz.ntmps5
    go_wp2_with fail
    with_reducible refine (big_yes _ _ _ _ hbig hm).mono ?_
    rintro e w' ⟨rfl, y0, rfl⟩
    have hsy0 := y0.bel.size
    (try simp only [World.size_alloc, World.size_setCell, World.size_drew] at hsy0)
    go_wp2_with fail
    go_ret
    refine .mk rfl ?_
    (repeat (first | (with_reducible exact Below.refl _ _) | (with_reducible assumption) | (with_reducible refine Later.out _ ?_) | (with_reducible refine bel_alloc ?_ _) | (with_reducible refine bel_drew ?_) | (with_reducible refine bel_drewN ?_ _) | (with_reducible refine bel_set ?_ ?_ _) | (with_reducible refine After.out _ ?_ ?_) | (dsimp only; omega) | omega | (simp only [World.size_alloc, World.size_setCell, World.size_drew]; omega)))
  have hn4 : n ≤ 4096 := by omega
  replace hr := Lib.hid hr
  replace hx := Lib.hid hx
  replace hl := Lib.hid hl
  replace hM := Lib.hid hM
  clear hbig hm
  go_enter Tryz.func5, Tryz.ntmps5
  go_wp2_with fail
  with_reducible refine (big_no _ _ _ _ hn4).mono ?_
  rintro e w' ⟨rfl, y0, rfl⟩
  have hsy0 := y0.bel.size
  (try simp only [World.size_alloc, World.size_setCell, World.size_drew] at hsy0)
  go_wp2_with fail
  with_reducible refine (drawCoresOf_any a n c bs _ (hr.out.bel (by (repeat (first | (with_reducible exact Below.refl _ _) | (with_reducible assumption) | (with_reducible refine Later.out _ ?_) | (with_reducible refine bel_alloc ?_ _) | (with_reducible refine bel_drew ?_) | (with_reducible refine bel_drewN ?_ _) | (with_reducible refine bel_set ?_ ?_ _) | (with_reducible refine After.out _ ?_ ?_) | (dsimp only; omega) | omega | (simp only [World.size_alloc, World.size_setCell, World.size_drew]; omega))))) hl.out hn4 hx.out).mono ?_
  rintro e w' ⟨L1, aL1, cL1, hok1, hl1, rfl, z1, rfl, ho1⟩
  have hsz1 := z1.bel.size
  (try simp only [World.size_alloc, World.size_setCell, World.size_drew] at hsz1)
  have hrow1 := Lib.hid ho1.row
  have hcap1 := ho1.cap
  have ok1 : ∀ x ∈ L1, ClmOk x := fun x hx => okC_ok (hok1 x hx)
  clear ho1 hok1
  have CA1 := fun w hr hM => crs_impl L1 aL1 L1.length cL1 w rfl (by omega) hr ok1 hM
  have CA2 := fun w hr => crs_spec L1 aL1 L1.length cL1 w rfl (by omega) hr ok1
  have CS1 := fun w hr hM => smc_impl L1 aL1 L1.length cL1 w rfl (by omega) hr ok1 hcap1 hM
  have CS2 := fun w hr => smc_spec L1 aL1 L1.length cL1 w rfl (by omega) hr ok1
  have CI1 := fun w hr hM => inc_impl L1 aL1 L1.length cL1 w rfl (by omega) hr ok1 hM
  have CI2 := fun w hr => inc_spec L1 aL1 L1.length cL1 w rfl (by omega) hr ok1
  have CC := fun w hr hM => con_impl L1 aL1 L1.length cL1 w rfl (by omega) hr ok1 hcap1 hM
  have hlaw := fun h => cores_law (L := L1) h
  have hR1l := crsR_len L1 (n := L1.length) rfl (by omega)
  have hR1e := crs_short L1
  have hR1m := crs_many L1
  have hR3l := smcR_len L1 (n := L1.length) rfl (by omega)
  have hR6l := incR_len L1 (n := L1.length) rfl (by omega)
  have hR6b := inc_bd (L := L1)
  obtain ⟨R1, eR1⟩ : ∃ R, crsR L1 = R := ⟨_, rfl⟩
  obtain ⟨K1, eK1⟩ : ∃ R, crsK L1 = R := ⟨_, rfl⟩
  obtain ⟨R3, eR3⟩ : ∃ R, smcR L1 = R := ⟨_, rfl⟩
  obtain ⟨K3, eK3⟩ : ∃ R, smcK L1 = R := ⟨_, rfl⟩
  obtain ⟨R6, eR6⟩ : ∃ R, incR L1 = R := ⟨_, rfl⟩
  obtain ⟨K6, eK6⟩ : ∃ R, incK L1 = R := ⟨_, rfl⟩
  obtain ⟨Bc, eBc⟩ : ∃ R, conR L1 = R := ⟨_, rfl⟩
  obtain ⟨Kc, eKc⟩ : ∃ R, conK L1 = R := ⟨_, rfl⟩
  simp only [eR1, eK1] at CA1 CA2
  simp only [eR3, eK3] at CS1 CS2
  simp only [eR6, eK6] at CI1 CI2
  simp only [eBc, eKc] at CC
  rw [eR1, eK1, eR3, eK3, eR6, eBc, eKc] at hlaw
  rw [eR1] at hR1l hR1e hR1m
  rw [eR3] at hR3l
  rw [eR6] at hR6l hR6b
  replace CA1 := Lib.hid CA1
  replace CA2 := Lib.hid CA2
  replace CS1 := Lib.hid CS1
  replace CS2 := Lib.hid CS2
  replace CI1 := Lib.hid CI1
  replace CI2 := Lib.hid CI2
  replace CC := Lib.hid CC
  replace hlaw := Lib.hid hlaw
  replace hR1e := Lib.hid hR1e
  replace hR6b := Lib.hid hR6b
  clear eR1 eK1 eR3 eK3 eR6 eK6 eBc eKc
  go_wp2_with fail
  with_reducible refine (CA1.out _ (hrow1.out.bel (by (repeat (first | (with_reducible exact Below.refl _ _) | (with_reducible assumption) | (with_reducible refine Later.out _ ?_) | (with_reducible refine bel_alloc ?_ _) | (with_reducible refine bel_drew ?_) | (with_reducible refine bel_drewN ?_ _) | (with_reducible refine bel_set ?_ ?_ _) | (with_reducible refine After.out _ ?_ ?_) | (dsimp only; omega) | omega | (simp only [World.size_alloc, World.size_setCell, World.size_drew]; omega))))) (hM.out.bel (by (repeat (first | (with_reducible exact Below.refl _ _) | (with_reducible assumption) | (with_reducible refine Later.out _ ?_) | (with_reducible refine bel_alloc ?_ _) | (with_reducible refine bel_drew ?_) | (with_reducible refine bel_drewN ?_ _) | (with_reducible refine bel_set ?_ ?_ _) | (with_reducible refine After.out _ ?_ ?_) | (dsimp only; omega) | omega | (simp only [World.size_alloc, World.size_setCell, World.size_drew]; omega)))))).mono ?_
  rintro e w' ⟨a1, c1, vs1, rfl, hnest, y1, rfl⟩
  have hsy1 := y1.bel.size
  (try simp only [World.size_alloc, World.size_setCell, World.size_drew] at hsy1)
  have N1 := Lib.hid hnest
  clear hnest
  go_wp2_with fail
  with_reducible refine (CA2.out _ (hrow1.out.bel (by (repeat (first | (with_reducible exact Below.refl _ _) | (with_reducible assumption) | (with_reducible refine Later.out _ ?_) | (with_reducible refine bel_alloc ?_ _) | (with_reducible refine bel_drew ?_) | (with_reducible refine bel_drewN ?_ _) | (with_reducible refine bel_set ?_ ?_ _) | (with_reducible refine After.out _ ?_ ?_) | (dsimp only; omega) | omega | (simp only [World.size_alloc, World.size_setCell, World.size_drew]; omega)))))).mono ?_
  rintro e w' ⟨a2, c2, vs2, rfl, hnest, y2, rfl⟩
  have hsy2 := y2.bel.size
  (try simp only [World.size_alloc, World.size_setCell, World.size_drew] at hsy2)
  have N2 := Lib.hid hnest
  clear hnest
  go_wp2_with fail
  with_reducible refine (drawIsCore_any a n c bs _ (hr.out.bel (by (repeat (first | (with_reducible exact Below.refl _ _) | (with_reducible assumption) | (with_reducible refine Later.out _ ?_) | (with_reducible refine bel_alloc ?_ _) | (with_reducible refine bel_drew ?_) | (with_reducible refine bel_drewN ?_ _) | (with_reducible refine bel_set ?_ ?_ _) | (with_reducible refine After.out _ ?_ ?_) | (dsimp only; omega) | omega | (simp only [World.size_alloc, World.size_setCell, World.size_drew]; omega))))) hl.out hn4 hx.out).mono ?_
  rintro e w' ⟨L2, aL2, cL2, S2, aS2, cS2, hok2, hl2, hS2, rfl, z2, rfl, ho2, hoS2⟩
  have hsz2 := z2.bel.size
  (try simp only [World.size_alloc, World.size_setCell, World.size_drew] at hsz2)
  have hrow2 := Lib.hid ho2.row
  have hrowS2 := Lib.hid hoS2.row
  have hcap2 := hoS2.cap
  have hshp2 := hoS2.shp
  have ok2 : ∀ x ∈ L2, ClmOk x := fun x hx => okC_ok (hok2 x hx)
  clear ho2 hoS2 hok2
  have CB1 := fun w hr hr' hM => core_impl L2 S2 aL2 L2.length cL2 aS2 S2.length cS2 w rfl (by omega) rfl (by omega) hr hr' ok2 hcap2 hM
  have CB2 := fun w hr hr' => core_spec L2 S2 aL2 L2.length cL2 aS2 S2.length cS2 w rfl (by omega) rfl (by omega) hr hr' ok2 hcap2
  obtain ⟨B2, eB2⟩ : ∃ R, coreR L2 S2 = R := ⟨_, rfl⟩
  obtain ⟨K2, eK2⟩ : ∃ R, codeZ L2 S2 = R := ⟨_, rfl⟩
  simp only [eB2, eK2] at CB1 CB2
  replace CB1 := Lib.hid CB1
  replace CB2 := Lib.hid CB2
  clear eB2 eK2
  go_wp2_with fail
  with_reducible refine (CB1.out _ (hrow2.out.bel (by (repeat (first | (with_reducible exact Below.refl _ _) | (with_reducible assumption) | (with_reducible refine Later.out _ ?_) | (with_reducible refine bel_alloc ?_ _) | (with_reducible refine bel_drew ?_) | (with_reducible refine bel_drewN ?_ _) | (with_reducible refine bel_set ?_ ?_ _) | (with_reducible refine After.out _ ?_ ?_) | (dsimp only; omega) | omega | (simp only [World.size_alloc, World.size_setCell, World.size_drew]; omega))))) (hrowS2.out.bel (by (repeat (first | (with_reducible exact Below.refl _ _) | (with_reducible assumption) | (with_reducible refine Later.out _ ?_) | (with_reducible refine bel_alloc ?_ _) | (with_reducible refine bel_drew ?_) | (with_reducible refine bel_drewN ?_ _) | (with_reducible refine bel_set ?_ ?_ _) | (with_reducible refine After.out _ ?_ ?_) | (dsimp only; omega) | omega | (simp only [World.size_alloc, World.size_setCell, World.size_drew]; omega))))) (hM.out.bel (by (repeat (first | (with_reducible exact Below.refl _ _) | (with_reducible assumption) | (with_reducible refine Later.out _ ?_) | (with_reducible refine bel_alloc ?_ _) | (with_reducible refine bel_drew ?_) | (with_reducible refine bel_drewN ?_ _) | (with_reducible refine bel_set ?_ ?_ _) | (with_reducible refine After.out _ ?_ ?_) | (dsimp only; omega) | omega | (simp only [World.size_alloc, World.size_setCell, World.size_drew]; omega)))))).mono ?_
  rintro e w' ⟨rfl, y3, rfl⟩
  have hsy3 := y3.bel.size
  (try simp only [World.size_alloc, World.size_setCell, World.size_drew] at hsy3)
  go_wp2_with fail
  with_reducible refine (CB2.out _ (hrow2.out.bel (by (repeat (first | (with_reducible exact Below.refl _ _) | (with_reducible assumption) | (with_reducible refine Later.out _ ?_) | (with_reducible refine bel_alloc ?_ _) | (with_reducible refine bel_drew ?_) | (with_reducible refine bel_drewN ?_ _) | (with_reducible refine bel_set ?_ ?_ _) | (with_reducible refine After.out _ ?_ ?_) | (dsimp only; omega) | omega | (simp only [World.size_alloc, World.size_setCell, World.size_drew]; omega))))) (hrowS2.out.bel (by (repeat (first | (with_reducible exact Below.refl _ _) | (with_reducible assumption) | (with_reducible refine Later.out _ ?_) | (with_reducible refine bel_alloc ?_ _) | (with_reducible refine bel_drew ?_) | (with_reducible refine bel_drewN ?_ _) | (with_reducible refine bel_set ?_ ?_ _) | (with_reducible refine After.out _ ?_ ?_) | (dsimp only; omega) | omega | (simp only [World.size_alloc, World.size_setCell, World.size_drew]; omega)))))).mono ?_
  rintro e w' ⟨rfl, y4, rfl⟩
  have hsy4 := y4.bel.size
  (try simp only [World.size_alloc, World.size_setCell, World.size_drew] at hsy4)
  go_wp2_with fail
  with_reducible refine (CS1.out _ (hrow1.out.bel (by (repeat (first | (with_reducible exact Below.refl _ _) | (with_reducible assumption) | (with_reducible refine Later.out _ ?_) | (with_reducible refine bel_alloc ?_ _) | (with_reducible refine bel_drew ?_) | (with_reducible refine bel_drewN ?_ _) | (with_reducible refine bel_set ?_ ?_ _) | (with_reducible refine After.out _ ?_ ?_) | (dsimp only; omega) | omega | (simp only [World.size_alloc, World.size_setCell, World.size_drew]; omega))))) (hM.out.bel (by (repeat (first | (with_reducible exact Below.refl _ _) | (with_reducible assumption) | (with_reducible refine Later.out _ ?_) | (with_reducible refine bel_alloc ?_ _) | (with_reducible refine bel_drew ?_) | (with_reducible refine bel_drewN ?_ _) | (with_reducible refine bel_set ?_ ?_ _) | (with_reducible refine After.out _ ?_ ?_) | (dsimp only; omega) | omega | (simp only [World.size_alloc, World.size_setCell, World.size_drew]; omega)))))).mono ?_
  rintro e w' ⟨a5, c5, rfl, hown, y5, rfl⟩
  have hsy5 := y5.bel.size
  (try simp only [World.size_alloc, World.size_setCell, World.size_drew] at hsy5)
  have O5 := Lib.hid (Owns.of hown)
  clear hown
  go_wp2_with fail
  with_reducible refine (CS2.out _ (hrow1.out.bel (by (repeat (first | (with_reducible exact Below.refl _ _) | (with_reducible assumption) | (with_reducible refine Later.out _ ?_) | (with_reducible refine bel_alloc ?_ _) | (with_reducible refine bel_drew ?_) | (with_reducible refine bel_drewN ?_ _) | (with_reducible refine bel_set ?_ ?_ _) | (with_reducible refine After.out _ ?_ ?_) | (dsimp only; omega) | omega | (simp only [World.size_alloc, World.size_setCell, World.size_drew]; omega)))))).mono ?_
  rintro e w' ⟨a6, c6, rfl, hown, y6, rfl⟩
  have hsy6 := y6.bel.size
  (try simp only [World.size_alloc, World.size_setCell, World.size_drew] at hsy6)
  have O6 := Lib.hid (Owns.of hown)
  clear hown
  go_wp2_with fail
  with_reducible refine (drawCoreWithin_any a n c bs _ (hr.out.bel (by (repeat (first | (with_reducible exact Below.refl _ _) | (with_reducible assumption) | (with_reducible refine Later.out _ ?_) | (with_reducible refine bel_alloc ?_ _) | (with_reducible refine bel_drew ?_) | (with_reducible refine bel_drewN ?_ _) | (with_reducible refine bel_set ?_ ?_ _) | (with_reducible refine After.out _ ?_ ?_) | (dsimp only; omega) | omega | (simp only [World.size_alloc, World.size_setCell, World.size_drew]; omega))))) hl.out hn4 hx.out).mono ?_
  rintro e w' ⟨L4, aL4, cL4, S4, aS4, cS4, hok4, hl4, hS4, rfl, z4, rfl, ho4, hoS4⟩
  have hsz4 := z4.bel.size
  (try simp only [World.size_alloc, World.size_setCell, World.size_drew] at hsz4)
  have hrow4 := Lib.hid ho4.row
  have hrowS4 := Lib.hid hoS4.row
  have hcap4 := hoS4.cap
  have hshp4 := hoS4.shp
  have ok4 : ∀ x ∈ L4, ClmOk x := fun x hx => okC_ok (hok4 x hx)
  clear ho4 hoS4 hok4
  have CW1 := fun w hr hr' hM => wit_impl L4 S4 aL4 L4.length cL4 aS4 S4.length cS4 w rfl (by omega) rfl (by omega) hr hr' ok4 hshp4 hM
  have CW2 := fun w hr hr' => wit_spec L4 S4 aL4 L4.length cL4 aS4 S4.length cS4 w rfl (by omega) rfl (by omega) hr hr' ok4 hshp4
  have hwl := fun h => wit_law (L := L4) (l := S4) h
  have hR4l := witR_len L4 S4 (n := L4.length) rfl (by omega)
  have CX := fun aT cT w hr hr' hcp hM => core_impl L4 (witR L4 S4) aL4 L4.length cL4 aT (witR L4 S4).length cT w rfl (by omega) rfl hR4l hr hr' ok4 hcp hM
  obtain ⟨R4, eR4⟩ : ∃ R, witR L4 S4 = R := ⟨_, rfl⟩
  obtain ⟨K4, eK4⟩ : ∃ R, witK L4 S4 = R := ⟨_, rfl⟩
  simp only [eR4, eK4] at CW1 CW2 CX
  rw [eR4, eK4] at hwl
  rw [eR4] at hR4l
  replace CW1 := Lib.hid CW1
  replace CW2 := Lib.hid CW2
  replace CX := Lib.hid CX
  replace hwl := Lib.hid hwl
  clear eR4 eK4
  go_wp2_with fail
  with_reducible refine (CW1.out _ (hrow4.out.bel (by (repeat (first | (with_reducible exact Below.refl _ _) | (with_reducible assumption) | (with_reducible refine Later.out _ ?_) | (with_reducible refine bel_alloc ?_ _) | (with_reducible refine bel_drew ?_) | (with_reducible refine bel_drewN ?_ _) | (with_reducible refine bel_set ?_ ?_ _) | (with_reducible refine After.out _ ?_ ?_) | (dsimp only; omega) | omega | (simp only [World.size_alloc, World.size_setCell, World.size_drew]; omega))))) (hrowS4.out.bel (by (repeat (first | (with_reducible exact Below.refl _ _) | (with_reducible assumption) | (with_reducible refine Later.out _ ?_) | (with_reducible refine bel_alloc ?_ _) | (with_reducible refine bel_drew ?_) | (with_reducible refine bel_drewN ?_ _) | (with_reducible refine bel_set ?_ ?_ _) | (with_reducible refine After.out _ ?_ ?_) | (dsimp only; omega) | omega | (simp only [World.size_alloc, World.size_setCell, World.size_drew]; omega))))) (hM.out.bel (by (repeat (first | (with_reducible exact Below.refl _ _) | (with_reducible assumption) | (with_reducible refine Later.out _ ?_) | (with_reducible refine bel_alloc ?_ _) | (with_reducible refine bel_drew ?_) | (with_reducible refine bel_drewN ?_ _) | (with_reducible refine bel_set ?_ ?_ _) | (with_reducible refine After.out _ ?_ ?_) | (dsimp only; omega) | omega | (simp only [World.size_alloc, World.size_setCell, World.size_drew]; omega)))))).mono ?_
  rintro e w' ⟨a7, c7, rfl, hown, y7, rfl⟩
  have hsy7 := y7.bel.size
  (try simp only [World.size_alloc, World.size_setCell, World.size_drew] at hsy7)
  have O7 := Lib.hid (Owns.of hown)
  clear hown
  go_wp2_with fail
  with_reducible refine (CW2.out _ (hrow4.out.bel (by (repeat (first | (with_reducible exact Below.refl _ _) | (with_reducible assumption) | (with_reducible refine Later.out _ ?_) | (with_reducible refine bel_alloc ?_ _) | (with_reducible refine bel_drew ?_) | (with_reducible refine bel_drewN ?_ _) | (with_reducible refine bel_set ?_ ?_ _) | (with_reducible refine After.out _ ?_ ?_) | (dsimp only; omega) | omega | (simp only [World.size_alloc, World.size_setCell, World.size_drew]; omega))))) (hrowS4.out.bel (by (repeat (first | (with_reducible exact Below.refl _ _) | (with_reducible assumption) | (with_reducible refine Later.out _ ?_) | (with_reducible refine bel_alloc ?_ _) | (with_reducible refine bel_drew ?_) | (with_reducible refine bel_drewN ?_ _) | (with_reducible refine bel_set ?_ ?_ _) | (with_reducible refine After.out _ ?_ ?_) | (dsimp only; omega) | omega | (simp only [World.size_alloc, World.size_setCell, World.size_drew]; omega)))))).mono ?_
  rintro e w' ⟨a8, c8, rfl, hown, y8, rfl⟩
  have hsy8 := y8.bel.size
  (try simp only [World.size_alloc, World.size_setCell, World.size_drew] at hsy8)
  have O8 := Lib.hid (Owns.of hown)
  clear hown
  go_wp2_with fail
  with_reducible refine (drawHitsAll_any a n c bs _ (hr.out.bel (by (repeat (first | (with_reducible exact Below.refl _ _) | (with_reducible assumption) | (with_reducible refine Later.out _ ?_) | (with_reducible refine bel_alloc ?_ _) | (with_reducible refine bel_drew ?_) | (with_reducible refine bel_drewN ?_ _) | (with_reducible refine bel_set ?_ ?_ _) | (with_reducible refine After.out _ ?_ ?_) | (dsimp only; omega) | omega | (simp only [World.size_alloc, World.size_setCell, World.size_drew]; omega))))) hl.out hn4 hx.out).mono ?_
  rintro e w' ⟨L5, aL5, cL5, S5, aS5, cS5, hok5, hl5, hS5, rfl, z5, rfl, ho5, hoS5⟩
  have hsz5 := z5.bel.size
  (try simp only [World.size_alloc, World.size_setCell, World.size_drew] at hsz5)
  have hrow5 := Lib.hid ho5.row
  have hrowS5 := Lib.hid hoS5.row
  have hcap5 := hoS5.cap
  have hshp5 := hoS5.shp
  have ok5 : ∀ x ∈ L5, ClmOk x := fun x hx => okC_ok (hok5 x hx)
  clear ho5 hoS5 hok5
  have CH1 := fun w hr hr' hM => hits_impl L5 S5 aL5 L5.length cL5 aS5 S5.length cS5 w rfl (by omega) rfl (by omega) hr hr' ok5 hM
  have CH2 := fun w hr hr' => hits_spec L5 S5 aL5 L5.length cL5 aS5 S5.length cS5 w rfl (by omega) rfl (by omega) hr hr' ok5
  have CR := fun w hr hr' hM => rep_impl L5 S5 aL5 L5.length cL5 aS5 S5.length cS5 w rfl (by omega) rfl (by omega) hr hr' ok5 hM
  have hsame : repR L5 S5 = hitsR L5 S5 := rfl
  simp only [hsame] at CR
  obtain ⟨B5, eB5⟩ : ∃ R, hitsR L5 S5 = R := ⟨_, rfl⟩
  obtain ⟨K5, eK5⟩ : ∃ R, codeZ L5 S5 = R := ⟨_, rfl⟩
  simp only [eB5, eK5] at CH1 CH2 CR
  replace CH1 := Lib.hid CH1
  replace CH2 := Lib.hid CH2
  replace CR := Lib.hid CR
  clear eB5 eK5 hsame
  go_wp2_with fail
  with_reducible refine (CH1.out _ (hrow5.out.bel (by (repeat (first | (with_reducible exact Below.refl _ _) | (with_reducible assumption) | (with_reducible refine Later.out _ ?_) | (with_reducible refine bel_alloc ?_ _) | (with_reducible refine bel_drew ?_) | (with_reducible refine bel_drewN ?_ _) | (with_reducible refine bel_set ?_ ?_ _) | (with_reducible refine After.out _ ?_ ?_) | (dsimp only; omega) | omega | (simp only [World.size_alloc, World.size_setCell, World.size_drew]; omega))))) (hrowS5.out.bel (by (repeat (first | (with_reducible exact Below.refl _ _) | (with_reducible assumption) | (with_reducible refine Later.out _ ?_) | (with_reducible refine bel_alloc ?_ _) | (with_reducible refine bel_drew ?_) | (with_reducible refine bel_drewN ?_ _) | (with_reducible refine bel_set ?_ ?_ _) | (with_reducible refine After.out _ ?_ ?_) | (dsimp only; omega) | omega | (simp only [World.size_alloc, World.size_setCell, World.size_drew]; omega))))) (hM.out.bel (by (repeat (first | (with_reducible exact Below.refl _ _) | (with_reducible assumption) | (with_reducible refine Later.out _ ?_) | (with_reducible refine bel_alloc ?_ _) | (with_reducible refine bel_drew ?_) | (with_reducible refine bel_drewN ?_ _) | (with_reducible refine bel_set ?_ ?_ _) | (with_reducible refine After.out _ ?_ ?_) | (dsimp only; omega) | omega | (simp only [World.size_alloc, World.size_setCell, World.size_drew]; omega)))))).mono ?_
  rintro e w' ⟨rfl, y9, rfl⟩
  have hsy9 := y9.bel.size
  (try simp only [World.size_alloc, World.size_setCell, World.size_drew] at hsy9)
  go_wp2_with fail
  with_reducible refine (CH2.out _ (hrow5.out.bel (by (repeat (first | (with_reducible exact Below.refl _ _) | (with_reducible assumption) | (with_reducible refine Later.out _ ?_) | (with_reducible refine bel_alloc ?_ _) | (with_reducible refine bel_drew ?_) | (with_reducible refine bel_drewN ?_ _) | (with_reducible refine bel_set ?_ ?_ _) | (with_reducible refine After.out _ ?_ ?_) | (dsimp only; omega) | omega | (simp only [World.size_alloc, World.size_setCell, World.size_drew]; omega))))) (hrowS5.out.bel (by (repeat (first | (with_reducible exact Below.refl _ _) | (with_reducible assumption) | (with_reducible refine Later.out _ ?_) | (with_reducible refine bel_alloc ?_ _) | (with_reducible refine bel_drew ?_) | (with_reducible refine bel_drewN ?_ _) | (with_reducible refine bel_set ?_ ?_ _) | (with_reducible refine After.out _ ?_ ?_) | (dsimp only; omega) | omega | (simp only [World.size_alloc, World.size_setCell, World.size_drew]; omega)))))).mono ?_
  rintro e w' ⟨rfl, y10, rfl⟩
  have hsy10 := y10.bel.size
  (try simp only [World.size_alloc, World.size_setCell, World.size_drew] at hsy10)
  go_wp2_with fail
  with_reducible refine (CI1.out _ (hrow1.out.bel (by (repeat (first | (with_reducible exact Below.refl _ _) | (with_reducible assumption) | (with_reducible refine Later.out _ ?_) | (with_reducible refine bel_alloc ?_ _) | (with_reducible refine bel_drew ?_) | (with_reducible refine bel_drewN ?_ _) | (with_reducible refine bel_set ?_ ?_ _) | (with_reducible refine After.out _ ?_ ?_) | (dsimp only; omega) | omega | (simp only [World.size_alloc, World.size_setCell, World.size_drew]; omega))))) (hM.out.bel (by (repeat (first | (with_reducible exact Below.refl _ _) | (with_reducible assumption) | (with_reducible refine Later.out _ ?_) | (with_reducible refine bel_alloc ?_ _) | (with_reducible refine bel_drew ?_) | (with_reducible refine bel_drewN ?_ _) | (with_reducible refine bel_set ?_ ?_ _) | (with_reducible refine After.out _ ?_ ?_) | (dsimp only; omega) | omega | (simp only [World.size_alloc, World.size_setCell, World.size_drew]; omega)))))).mono ?_
  rintro e w' ⟨a11, c11, rfl, hown, y11, rfl⟩
  have hsy11 := y11.bel.size
  (try simp only [World.size_alloc, World.size_setCell, World.size_drew] at hsy11)
  have O11 := Lib.hid (Owns.of hown)
  clear hown
  go_wp2_with fail
  with_reducible refine (CI2.out _ (hrow1.out.bel (by (repeat (first | (with_reducible exact Below.refl _ _) | (with_reducible assumption) | (with_reducible refine Later.out _ ?_) | (with_reducible refine bel_alloc ?_ _) | (with_reducible refine bel_drew ?_) | (with_reducible refine bel_drewN ?_ _) | (with_reducible refine bel_set ?_ ?_ _) | (with_reducible refine After.out _ ?_ ?_) | (dsimp only; omega) | omega | (simp only [World.size_alloc, World.size_setCell, World.size_drew]; omega)))))).mono ?_
  rintro e w' ⟨a12, c12, rfl, hown, y12, rfl⟩
  have hsy12 := y12.bel.size
  (try simp only [World.size_alloc, World.size_setCell, World.size_drew] at hsy12)
  have O12 := Lib.hid (Owns.of hown)
  clear hown
  go_wp2_with fail
  with_reducible refine (likeTables_same _ _ _ _ _ _ _ _ rfl rfl hR1l (fun l hl => Nat.le_trans (hR1e.out l hl) (by omega)) (N1.out.rows.bel (by (repeat (first | (with_reducible exact Below.refl _ _) | (with_reducible assumption) | (with_reducible refine Later.out _ ?_) | (with_reducible refine bel_alloc ?_ _) | (with_reducible refine bel_drew ?_) | (with_reducible refine bel_drewN ?_ _) | (with_reducible refine bel_set ?_ ?_ _) | (with_reducible refine After.out _ ?_ ?_) | (dsimp only; omega) | omega | (simp only [World.size_alloc, World.size_setCell, World.size_drew]; omega))))) (N2.out.rows.bel (by (repeat (first | (with_reducible exact Below.refl _ _) | (with_reducible assumption) | (with_reducible refine Later.out _ ?_) | (with_reducible refine bel_alloc ?_ _) | (with_reducible refine bel_drew ?_) | (with_reducible refine bel_drewN ?_ _) | (with_reducible refine bel_set ?_ ?_ _) | (with_reducible refine After.out _ ?_ ?_) | (dsimp only; omega) | omega | (simp only [World.size_alloc, World.size_setCell, World.size_drew]; omega)))))).mono ?_
  rintro e w' ⟨rfl, y13, rfl⟩
  have hsy13 := y13.bel.size
  (try simp only [World.size_alloc, World.size_setCell, World.size_drew] at hsy13)
  go_wp2_with fail
  with_reducible refine (likeInts_same rfl rfl hR3l hR3l (O5.out.row.bel (by (repeat (first | (with_reducible exact Below.refl _ _) | (with_reducible assumption) | (with_reducible refine Later.out _ ?_) | (with_reducible refine bel_alloc ?_ _) | (with_reducible refine bel_drew ?_) | (with_reducible refine bel_drewN ?_ _) | (with_reducible refine bel_set ?_ ?_ _) | (with_reducible refine After.out _ ?_ ?_) | (dsimp only; omega) | omega | (simp only [World.size_alloc, World.size_setCell, World.size_drew]; omega))))) (O6.out.row.bel (by (repeat (first | (with_reducible exact Below.refl _ _) | (with_reducible assumption) | (with_reducible refine Later.out _ ?_) | (with_reducible refine bel_alloc ?_ _) | (with_reducible refine bel_drew ?_) | (with_reducible refine bel_drewN ?_ _) | (with_reducible refine bel_set ?_ ?_ _) | (with_reducible refine After.out _ ?_ ?_) | (dsimp only; omega) | omega | (simp only [World.size_alloc, World.size_setCell, World.size_drew]; omega)))))).mono ?_
  rintro e w' ⟨rfl, y14, rfl⟩
  have hsy14 := y14.bel.size
  (try simp only [World.size_alloc, World.size_setCell, World.size_drew] at hsy14)
  go_wp2_with fail
  with_reducible refine (likeInts_same rfl rfl hR4l hR4l (O7.out.row.bel (by (repeat (first | (with_reducible exact Below.refl _ _) | (with_reducible assumption) | (with_reducible refine Later.out _ ?_) | (with_reducible refine bel_alloc ?_ _) | (with_reducible refine bel_drew ?_) | (with_reducible refine bel_drewN ?_ _) | (with_reducible refine bel_set ?_ ?_ _) | (with_reducible refine After.out _ ?_ ?_) | (dsimp only; omega) | omega | (simp only [World.size_alloc, World.size_setCell, World.size_drew]; omega))))) (O8.out.row.bel (by (repeat (first | (with_reducible exact Below.refl _ _) | (with_reducible assumption) | (with_reducible refine Later.out _ ?_) | (with_reducible refine bel_alloc ?_ _) | (with_reducible refine bel_drew ?_) | (with_reducible refine bel_drewN ?_ _) | (with_reducible refine bel_set ?_ ?_ _) | (with_reducible refine After.out _ ?_ ?_) | (dsimp only; omega) | omega | (simp only [World.size_alloc, World.size_setCell, World.size_drew]; omega)))))).mono ?_
  rintro e w' ⟨rfl, y15, rfl⟩
  have hsy15 := y15.bel.size
  (try simp only [World.size_alloc, World.size_setCell, World.size_drew] at hsy15)
  go_wp2_with fail
  with_reducible refine (likeInts_same rfl rfl hR6l hR6l (O11.out.row.bel (by (repeat (first | (with_reducible exact Below.refl _ _) | (with_reducible assumption) | (with_reducible refine Later.out _ ?_) | (with_reducible refine bel_alloc ?_ _) | (with_reducible refine bel_drew ?_) | (with_reducible refine bel_drewN ?_ _) | (with_reducible refine bel_set ?_ ?_ _) | (with_reducible refine After.out _ ?_ ?_) | (dsimp only; omega) | omega | (simp only [World.size_alloc, World.size_setCell, World.size_drew]; omega))))) (O12.out.row.bel (by (repeat (first | (with_reducible exact Below.refl _ _) | (with_reducible assumption) | (with_reducible refine Later.out _ ?_) | (with_reducible refine bel_alloc ?_ _) | (with_reducible refine bel_drew ?_) | (with_reducible refine bel_drewN ?_ _) | (with_reducible refine bel_set ?_ ?_ _) | (with_reducible refine After.out _ ?_ ?_) | (dsimp only; omega) | omega | (simp only [World.size_alloc, World.size_setCell, World.size_drew]; omega)))))).mono ?_
  rintro e w' ⟨rfl, y16, rfl⟩
  have hsy16 := y16.bel.size
  (try simp only [World.size_alloc, World.size_setCell, World.size_drew] at hsy16)
  go_upto_if 190 with fail
  go_cut [34, 35] from 191 to 202 (fun _ _ wr => ∃ y : Later y16.w, wr = y.w)
  case first =>
    by_cases hK4 : K4 = 0
    · have CX2 := CX.out
      rw [(hwl.out hK4).1, (hwl.out hK4).2] at CX2
      replace CX2 := Lib.hid CX2
      subst hK4
      have hcp7 := O7.out.cap
      go_wp2_with fail
      with_reducible refine (CX2.out _ _ _ (hrow4.out.bel (by (repeat (first | (with_reducible exact Below.refl _ _) | (with_reducible assumption) | (with_reducible refine Later.out _ ?_) | (with_reducible refine bel_alloc ?_ _) | (with_reducible refine bel_drew ?_) | (with_reducible refine bel_drewN ?_ _) | (with_reducible refine bel_set ?_ ?_ _) | (with_reducible refine After.out _ ?_ ?_) | (dsimp only; omega) | omega | (simp only [World.size_alloc, World.size_setCell, World.size_drew]; omega))))) (O7.out.row.bel (by (repeat (first | (with_reducible exact Below.refl _ _) | (with_reducible assumption) | (with_reducible refine Later.out _ ?_) | (with_reducible refine bel_alloc ?_ _) | (with_reducible refine bel_drew ?_) | (with_reducible refine bel_drewN ?_ _) | (with_reducible refine bel_set ?_ ?_ _) | (with_reducible refine After.out _ ?_ ?_) | (dsimp only; omega) | omega | (simp only [World.size_alloc, World.size_setCell, World.size_drew]; omega))))) hcp7 (hM.out.bel (by (repeat (first | (with_reducible exact Below.refl _ _) | (with_reducible assumption) | (with_reducible refine Later.out _ ?_) | (with_reducible refine bel_alloc ?_ _) | (with_reducible refine bel_drew ?_) | (with_reducible refine bel_drewN ?_ _) | (with_reducible refine bel_set ?_ ?_ _) | (with_reducible refine After.out _ ?_ ?_) | (dsimp only; omega) | omega | (simp only [World.size_alloc, World.size_setCell, World.size_drew]; omega)))))).mono ?_
      rintro e w' ⟨rfl, y17, rfl⟩
      have hsy17 := y17.bel.size
      (try simp only [World.size_alloc, World.size_setCell, World.size_drew] at hsy17)
      go_wp2_with fail
      go_meet
      exact ⟨y17, rfl⟩
    · have hK4' : (K4 == 0) = false := by rw [beq_eq_false_iff_ne]; exact hK4
      go_wp2_with fail
      go_meet
      exact ⟨⟨y16.w, Below.refl _ _⟩, rfl⟩
  case rest =>
    obtain ⟨y17, rfl⟩ := hcut
    have hsy17 := y17.bel.size
    go_upto_if 204 with fail
    go_cut [36, 37] from 205 to 217 (fun _ _ wr => ∃ y : Later y17.w, wr = y.w)
    case first =>
      by_cases hK5 : K5 = 0
      · subst hK5
        go_wp2_with fail
        with_reducible refine (CR.out _ (hrow5.out.bel (by (repeat (first | (with_reducible exact Below.refl _ _) | (with_reducible assumption) | (with_reducible refine Later.out _ ?_) | (with_reducible refine bel_alloc ?_ _) | (with_reducible refine bel_drew ?_) | (with_reducible refine bel_drewN ?_ _) | (with_reducible refine bel_set ?_ ?_ _) | (with_reducible refine After.out _ ?_ ?_) | (dsimp only; omega) | omega | (simp only [World.size_alloc, World.size_setCell, World.size_drew]; omega))))) (hrowS5.out.bel (by (repeat (first | (with_reducible exact Below.refl _ _) | (with_reducible assumption) | (with_reducible refine Later.out _ ?_) | (with_reducible refine bel_alloc ?_ _) | (with_reducible refine bel_drew ?_) | (with_reducible refine bel_drewN ?_ _) | (with_reducible refine bel_set ?_ ?_ _) | (with_reducible refine After.out _ ?_ ?_) | (dsimp only; omega) | omega | (simp only [World.size_alloc, World.size_setCell, World.size_drew]; omega))))) (hM.out.bel (by (repeat (first | (with_reducible exact Below.refl _ _) | (with_reducible assumption) | (with_reducible refine Later.out _ ?_) | (with_reducible refine bel_alloc ?_ _) | (with_reducible refine bel_drew ?_) | (with_reducible refine bel_drewN ?_ _) | (with_reducible refine bel_set ?_ ?_ _) | (with_reducible refine After.out _ ?_ ?_) | (dsimp only; omega) | omega | (simp only [World.size_alloc, World.size_setCell, World.size_drew]; omega)))))).mono ?_
        rintro e w' ⟨rfl, y18, rfl⟩
        have hsy18 := y18.bel.size
        (try simp only [World.size_alloc, World.size_setCell, World.size_drew] at hsy18)
        go_wp2_with fail
        go_meet
        exact ⟨y18, rfl⟩
      · have hK5' : (K5 == 0) = false := by rw [beq_eq_false_iff_ne]; exact hK5
        go_wp2_with fail
        go_meet
        exact ⟨⟨y17.w, Below.refl _ _⟩, rfl⟩
    case rest =>
      obtain ⟨y18, rfl⟩ := hcut
      have hsy18 := y18.bel.size
      have hN := Lib.hid (N1.out.bel (w' := y18.w) (B := y1.w.heap.size) (by (repeat (first | (with_reducible exact Below.refl _ _) | (with_reducible assumption) | (with_reducible refine Later.out _ ?_) | (with_reducible refine bel_alloc ?_ _) | (with_reducible refine bel_drew ?_) | (with_reducible refine bel_drewN ?_ _) | (with_reducible refine bel_set ?_ ?_ _) | (with_reducible refine After.out _ ?_ ?_) | (dsimp only; omega) | omega | (simp only [World.size_alloc, World.size_setCell, World.size_drew]; omega)))) (Nat.le_refl _))
      have hrowL := Lib.hid (hrow1.out.bel (w' := y18.w) (by (repeat (first | (with_reducible exact Below.refl _ _) | (with_reducible assumption) | (with_reducible refine Later.out _ ?_) | (with_reducible refine bel_alloc ?_ _) | (with_reducible refine bel_drew ?_) | (with_reducible refine bel_drewN ?_ _) | (with_reducible refine bel_set ?_ ?_ _) | (with_reducible refine After.out _ ?_ ?_) | (dsimp only; omega) | omega | (simp only [World.size_alloc, World.size_setCell, World.size_drew]; omega)))))
      have hrow6 := Lib.hid (O11.out.row.bel (w' := y18.w) (by (repeat (first | (with_reducible exact Below.refl _ _) | (with_reducible assumption) | (with_reducible refine Later.out _ ?_) | (with_reducible refine bel_alloc ?_ _) | (with_reducible refine bel_drew ?_) | (with_reducible refine bel_drewN ?_ _) | (with_reducible refine bel_set ?_ ?_ _) | (with_reducible refine After.out _ ?_ ?_) | (dsimp only; omega) | omega | (simp only [World.size_alloc, World.size_setCell, World.size_drew]; omega)))))
      have hM9 := Lib.hid (hM.out.bel (w' := y18.w) (by (repeat (first | (with_reducible exact Below.refl _ _) | (with_reducible assumption) | (with_reducible refine Later.out _ ?_) | (with_reducible refine bel_alloc ?_ _) | (with_reducible refine bel_drew ?_) | (with_reducible refine bel_drewN ?_ _) | (with_reducible refine bel_set ?_ ?_ _) | (with_reducible refine After.out _ ?_ ?_) | (dsimp only; omega) | omega | (simp only [World.size_alloc, World.size_setCell, World.size_drew]; omega)))))
      have hB9 : Below w.heap.size w y18.w := by (repeat (first | (with_reducible exact Below.refl _ _) | (with_reducible assumption) | (with_reducible refine Later.out _ ?_) | (with_reducible refine bel_alloc ?_ _) | (with_reducible refine bel_drew ?_) | (with_reducible refine bel_drewN ?_ _) | (with_reducible refine bel_set ?_ ?_ _) | (with_reducible refine After.out _ ?_ ?_) | (dsimp only; omega) | omega | (simp only [World.size_alloc, World.size_setCell, World.size_drew]; omega)))
      obtain ⟨V, hV⟩ : ∃ V, y18.w = V := ⟨_, rfl⟩
      rw [hV] at hN hrowL hrow6 hM9 hB9
      rw [hV]
      clear hV hsy18 y18
      by_cases hK1 : K1 = 0
      · obtain ⟨rfl, l2, l3, l4, l5⟩ := hlaw.out hK1
        subst hK1
        replace l4 := Lib.hid l4
        replace l5 := Lib.hid l5
        go_wp2_with fail
        with_reducible refine (CC.out _ (hrowL.out.bel (by (repeat (first | (with_reducible exact Below.refl _ _) | (with_reducible assumption) | (with_reducible refine Later.out _ ?_) | (with_reducible refine bel_alloc ?_ _) | (with_reducible refine bel_drew ?_) | (with_reducible refine bel_drewN ?_ _) | (with_reducible refine bel_set ?_ ?_ _) | (with_reducible refine After.out _ ?_ ?_) | (dsimp only; omega) | omega | (simp only [World.size_alloc, World.size_setCell, World.size_drew]; omega))))) (hM9.out.bel (by (repeat (first | (with_reducible exact Below.refl _ _) | (with_reducible assumption) | (with_reducible refine Later.out _ ?_) | (with_reducible refine bel_alloc ?_ _) | (with_reducible refine bel_drew ?_) | (with_reducible refine bel_drewN ?_ _) | (with_reducible refine bel_set ?_ ?_ _) | (with_reducible refine After.out _ ?_ ?_) | (dsimp only; omega) | omega | (simp only [World.size_alloc, World.size_setCell, World.size_drew]; omega)))))).mono ?_
        rintro e w' ⟨rfl, y19, rfl⟩
        have hsy19 := y19.bel.size
        (try simp only [World.size_alloc, World.size_setCell, World.size_drew] at hsy19)
        go_wp2_with fail
        go_loopw [40, 41] (fun t i wr => ∃ k : Nat, k ≤ R1.length ∧ i = .int .i64 k ∧ t = .int .i64 ((lenTo R1 k : Nat) : Int) ∧ ∃ z : Later y19.w, wr = z.w) (fun _ i _ => R1.length - (intOf i).toNat)
        case atStart => exact ⟨0, Nat.zero_le _, rfl, rfl, ⟨y19.w, Below.refl _ _⟩, rfl⟩
        case round =>
          obtain ⟨k, hk, rfl, rfl, z, rfl⟩ := hrel
          have hsz := z.bel.size
          have hlt0 := lenTo_le hR1e.out k hk
          by_cases hlt : k < R1.length
          · have hi1 : (k : Int) < (R1.length : Int) := by omega
            obtain ⟨b9, e9, -, h9b, hc9, -⟩ := hN.out.own.at_ (j := k) (by omega)
            subst e9
            obtain ⟨aT, cT, hvT, hoT⟩ := hN.out.at_ k hlt
            rw [hvT] at hc9
            have hlb : b9 < V.heap.size := World.block_lt_of_cell? V _ hc9
            have hT12 := hR1e.out _ (List.getElem_mem hlt)
            have hTs := l5.out _ (List.getElem_mem hlt)
            have X := Lib.hid (show ((lenTo R1 (k + 1) : Nat) : Int) = ((lenTo R1 k : Nat) : Int) + (R1[k].length : Int) by rw [lenTo, atL, getD_at hlt]; omega)
            obtain ⟨T, hT⟩ : ∃ T, R1[k] = T := ⟨_, rfl⟩
            rw [hT] at hc9 hT12 hTs X
            clear hvT hoT hT
            obtain ⟨m, hmk⟩ : ∃ m, lenTo R1 k = m := ⟨_, rfl⟩
            rw [hmk] at hlt0 X
            simp only [hmk]
            clear hmk
            go_wp2_with fail
            go_roundw
            case rel => exact ⟨k + 1, by omega, by go_num, by rw [X.out], z, rfl⟩
            case measure => first | (simp [intOf]; done) | (simp [intOf]; omega) | omega
          · obtain rfl : k = R1.length := by omega
            have hi1 : ¬ (R1.length : Int) < (R1.length : Int) := by omega
            have CS := Lib.hid (fun w hr => sum_any R6 a11 R6.length c11 w rfl hR6l hR6b.out hr)
            have CS2 := CS.out
            rw [l4.out] at CS2
            replace CS2 := Lib.hid CS2
            go_wp2_with fail
            with_reducible refine (CS2.out _ (hrow6.out.bel (by (repeat (first | (with_reducible exact Below.refl _ _) | (with_reducible assumption) | (with_reducible refine Later.out _ ?_) | (with_reducible refine bel_alloc ?_ _) | (with_reducible refine bel_drew ?_) | (with_reducible refine bel_drewN ?_ _) | (with_reducible refine bel_set ?_ ?_ _) | (with_reducible refine After.out _ ?_ ?_) | (dsimp only; omega) | omega | (simp only [World.size_alloc, World.size_setCell, World.size_drew]; omega)))))).mono ?_
            rintro e w' ⟨rfl, y20, rfl⟩
            have hsy20 := y20.bel.size
            (try simp only [World.size_alloc, World.size_setCell, World.size_drew] at hsy20)
            go_wp2_with fail
            go_ret
            refine .mk rfl ?_
            (repeat (first | (with_reducible exact Below.refl _ _) | (with_reducible assumption) | (with_reducible refine Later.out _ ?_) | (with_reducible refine bel_alloc ?_ _) | (with_reducible refine bel_drew ?_) | (with_reducible refine bel_drewN ?_ _) | (with_reducible refine bel_set ?_ ?_ _) | (with_reducible refine After.out _ ?_ ?_) | (dsimp only; omega) | omega | (simp only [World.size_alloc, World.size_setCell, World.size_drew]; omega)))
      · have hK1' : (K1 != 0) = true := by simpa using hK1
        go_wp2_with fail
        go_ret
        refine .mk rfl ?_
        (repeat (first | (with_reducible exact Below.refl _ _) | (with_reducible assumption) | (with_reducible refine Later.out _ ?_) | (with_reducible refine bel_alloc ?_ _) | (with_reducible refine bel_drew ?_) | (with_reducible refine bel_drewN ?_ _) | (with_reducible refine bel_set ?_ ?_ _) | (with_reducible refine After.out _ ?_ ?_) | (dsimp only; omega) | omega | (simp only [World.size_alloc, World.size_setCell, World.size_drew]; omega)))
end Go.Proofs.YtflcfdiochohgaaGreatDoor

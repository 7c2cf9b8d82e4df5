import Derived.Test.YtflcfdiochohgaaGreatDoorDrawF
import Derived.Test.YtflcfdiochohgaaGreatDoorLikeC
import Derived.Test.YtflcfdiochohgaaGreatDoorDo
import Derived.Test.YtflcfdiochohgaaGreatDoorPackC
import Derived.Test.YtflcfdiochohgaaGreatDoorPackB
import Derived.Test.YtflcfdiochohgaaGreatDoorPairs
import Derived.Test.YtflcfdiochohgaaGreatDoorCoreC
import Derived.Test.YtflcfdiochohgaaGreatDoorMinL
/- The law Contradictions: contradicting is symmetric, and no claim contradicts itself. -/
set_option linter.unusedSimpArgs false
set_option linter.unusedVariables false
namespace Go.Proofs.YtflcfdiochohgaaGreatDoor
open Go.RowKit
theorem doR_back {c d : Clm} {B : Bool} {K : Int} (h : doR c d = (B, K)) (hK : K = 0) : doR d c = (B, 0) ∧ doR c c = (false, 0) := by
  subst hK
  unfold doR at h ⊢
  split at h
  · rename_i h1
    rw [Bool.and_eq_true] at h1
    rw [h1.1, h1.2]
    simp only [Bool.and_self, if_true, Prod.mk.injEq, and_true] at h ⊢
    exact ⟨by rw [contra_symm]; exact h, contra_self c⟩
  · simp only [Prod.mk.injEq] at h
    omega
theorem against_own (L : List Clm) (i : Int) : (againstR L i).contains i = false := by
  rw [Bool.eq_false_iff]
  intro hc
  rw [List.contains_iff_mem] at hc
  unfold againstR at hc
  split at hc
  · unfold idxs idxsTo at hc
    rw [List.mem_map] at hc
    obtain ⟨j, hj, rfl⟩ := hc
    have h2 := (List.mem_filter.1 hj).2
    have hjl := List.mem_range.1 (List.mem_filter.1 hj).1
    simp only [List.getElem?_eq_getElem hjl, againstB, Int.toNat_natCast, contra_self] at h2
    cases h2
  · simp at hc
set_option maxRecDepth 8000 in
set_option maxHeartbeats 8000000 in
theorem lawContradictions_any (a : Option Addr) (n c : Nat) (bs : List Int) (w : World) (hr : Row w a (byteCells bs)) (hl : bs.length = n) (hm : n ≤ maxLen) (hx : ∀ x ∈ bs, 0 ≤ x ∧ x ≤ 255) (hM : Max w) :
    Calls Tryz.prog 3 #[.slice a n c] w (Ret w (.bool true)) := by
  by_cases hbig : 4096 < n
  · clear hr hl hx hM
    go_enter Tryz.func3, Tryz.ntmps3
    go_wp2_with fail
    with_reducible refine (big_yes _ _ _ _ hbig hm).mono ?_
    rintro e w' ⟨rfl, y0, rfl⟩
    have hsy0 := y0.bel.size
    (try simp only [World.size_alloc, World.size_setCell, World.size_drew] at hsy0)
    go_wp2_with fail
    go_ret
    refine .mk rfl ?_
    (repeat (first | (with_reducible exact Below.refl _ _) | (with_reducible assumption) | (with_reducible refine Later.out _ ?_) | (with_reducible refine bel_alloc ?_ _) | (with_reducible refine bel_drew ?_) | (with_reducible refine bel_drewN ?_ _) | (with_reducible refine bel_set ?_ ?_ _) | (with_reducible refine After.out _ ?_ ?_) | (dsimp only; omega) | omega | (simp only [World.size_alloc, World.size_setCell, World.size_drew]; omega)))
  have hn4 : n ≤ 4096 := by omega
  replace hr := Lib.hid hr
  replace hx := Lib.hid hx
  replace hl := Lib.hid hl
  replace hM := Lib.hid hM
  clear hbig hm
  go_enter Tryz.func3, Tryz.ntmps3
  go_wp2_with fail
  with_reducible refine (big_no _ _ _ _ hn4).mono ?_
  rintro e w' ⟨rfl, y0, rfl⟩
  have hsy0 := y0.bel.size
  (try simp only [World.size_alloc, World.size_setCell, World.size_drew] at hsy0)
  go_wp2_with fail
  with_reducible refine (drawDoContradict_any a n c bs _ (hr.out.bel (by (repeat (first | (with_reducible exact Below.refl _ _) | (with_reducible assumption) | (with_reducible refine Later.out _ ?_) | (with_reducible refine bel_alloc ?_ _) | (with_reducible refine bel_drew ?_) | (with_reducible refine bel_drewN ?_ _) | (with_reducible refine bel_set ?_ ?_ _) | (with_reducible refine After.out _ ?_ ?_) | (dsimp only; omega) | omega | (simp only [World.size_alloc, World.size_setCell, World.size_drew]; omega))))) hl.out hn4 hx.out).mono ?_
  rintro e w' ⟨x, d, hx1, hd1, rfl, z1, rfl⟩
  have hsz1 := z1.bel.size
  (try simp only [World.size_alloc, World.size_setCell, World.size_drew] at hsz1)
  obtain ⟨Bd, Kd, hD⟩ : ∃ B K, doR x d = (B, K) := ⟨_, _, rfl⟩
  have CD1 := fun w hM => do_impl x d w (okC_ok hx1) (okC_ok hd1) hM
  have CD2 := fun w => do_spec x d w (okC_ok hx1) (okC_ok hd1)
  have CD3 := fun w hM => do_impl d x w (okC_ok hd1) (okC_ok hx1) hM
  have CD4 := fun w hM => do_impl x x w (okC_ok hx1) (okC_ok hx1) hM
  have hDb := doR_back hD
  simp only [hD] at CD1 CD2
  replace CD1 := Lib.hid CD1
  replace CD2 := Lib.hid CD2
  replace CD3 := Lib.hid CD3
  replace CD4 := Lib.hid CD4
  replace hDb := Lib.hid hDb
  clear hD hx1 hd1
  go_wp2_with fail
  with_reducible refine (CD1.out _ (hM.out.bel (by (repeat (first | (with_reducible exact Below.refl _ _) | (with_reducible assumption) | (with_reducible refine Later.out _ ?_) | (with_reducible refine bel_alloc ?_ _) | (with_reducible refine bel_drew ?_) | (with_reducible refine bel_drewN ?_ _) | (with_reducible refine bel_set ?_ ?_ _) | (with_reducible refine After.out _ ?_ ?_) | (dsimp only; omega) | omega | (simp only [World.size_alloc, World.size_setCell, World.size_drew]; omega)))))).mono ?_
  rintro e w' ⟨rfl, y1, rfl⟩
  have hsy1 := y1.bel.size
  (try simp only [World.size_alloc, World.size_setCell, World.size_drew] at hsy1)
  go_wp2_with fail
  with_reducible refine (CD2.out _).mono ?_
  rintro e w' ⟨rfl, y2, rfl⟩
  have hsy2 := y2.bel.size
  (try simp only [World.size_alloc, World.size_setCell, World.size_drew] at hsy2)
  go_wp2_with fail
  with_reducible refine (drawContradictionsOf_any a n c bs _ (hr.out.bel (by (repeat (first | (with_reducible exact Below.refl _ _) | (with_reducible assumption) | (with_reducible refine Later.out _ ?_) | (with_reducible refine bel_alloc ?_ _) | (with_reducible refine bel_drew ?_) | (with_reducible refine bel_drewN ?_ _) | (with_reducible refine bel_set ?_ ?_ _) | (with_reducible refine After.out _ ?_ ?_) | (dsimp only; omega) | omega | (simp only [World.size_alloc, World.size_setCell, World.size_drew]; omega))))) hl.out hn4 hx.out).mono ?_
  rintro e w' ⟨L2, a2, c2, i2, hok2, hl2, rfl, z2, rfl, ho2⟩
  have hsz2 := z2.bel.size
  (try simp only [World.size_alloc, World.size_setCell, World.size_drew] at hsz2)
  have hrow2 := Lib.hid ho2.row
  have CA1 := fun w hr hM => against_impl L2 i2 a2 L2.length c2 w rfl (by omega) hr (fun x hx => okC_ok (hok2 x hx)) hM
  have CA2 := fun w hr => against_spec L2 i2 a2 L2.length c2 w rfl (by omega) hr (fun x hx => okC_ok (hok2 x hx))
  have hR2b := against_own L2 i2
  have hR2l : (againstR L2 i2).length ≤ 1048576 := by
    unfold againstR
    split
    · have := idxs_le (againstB L2 i2) L2
      omega
    · simp
  obtain ⟨R2, hR2⟩ : ∃ R, againstR L2 i2 = R := ⟨_, rfl⟩
  obtain ⟨K2, hK2⟩ : ∃ R, againstK L2 i2 = R := ⟨_, rfl⟩
  simp only [hR2, hK2] at CA1 CA2
  rw [hR2] at hR2b hR2l
  replace CA1 := Lib.hid CA1
  replace CA2 := Lib.hid CA2
  replace hR2b := Lib.hid hR2b
  clear hR2 hK2 ho2 hok2
  go_wp2_with fail
  with_reducible refine (CA1.out _ (hrow2.out.bel (by (repeat (first | (with_reducible exact Below.refl _ _) | (with_reducible assumption) | (with_reducible refine Later.out _ ?_) | (with_reducible refine bel_alloc ?_ _) | (with_reducible refine bel_drew ?_) | (with_reducible refine bel_drewN ?_ _) | (with_reducible refine bel_set ?_ ?_ _) | (with_reducible refine After.out _ ?_ ?_) | (dsimp only; omega) | omega | (simp only [World.size_alloc, World.size_setCell, World.size_drew]; omega))))) (hM.out.bel (by (repeat (first | (with_reducible exact Below.refl _ _) | (with_reducible assumption) | (with_reducible refine Later.out _ ?_) | (with_reducible refine bel_alloc ?_ _) | (with_reducible refine bel_drew ?_) | (with_reducible refine bel_drewN ?_ _) | (with_reducible refine bel_set ?_ ?_ _) | (with_reducible refine After.out _ ?_ ?_) | (dsimp only; omega) | omega | (simp only [World.size_alloc, World.size_setCell, World.size_drew]; omega)))))).mono ?_
  rintro e w' ⟨a3, c3, rfl, hown, y3, rfl⟩
  have hsy3 := y3.bel.size
  (try simp only [World.size_alloc, World.size_setCell, World.size_drew] at hsy3)
  have O3 := Lib.hid (Owns.of hown)
  clear hown
  go_wp2_with fail
  with_reducible refine (CA2.out _ (hrow2.out.bel (by (repeat (first | (with_reducible exact Below.refl _ _) | (with_reducible assumption) | (with_reducible refine Later.out _ ?_) | (with_reducible refine bel_alloc ?_ _) | (with_reducible refine bel_drew ?_) | (with_reducible refine bel_drewN ?_ _) | (with_reducible refine bel_set ?_ ?_ _) | (with_reducible refine After.out _ ?_ ?_) | (dsimp only; omega) | omega | (simp only [World.size_alloc, World.size_setCell, World.size_drew]; omega)))))).mono ?_
  rintro e w' ⟨a4, c4, rfl, hown, y4, rfl⟩
  have hsy4 := y4.bel.size
  (try simp only [World.size_alloc, World.size_setCell, World.size_drew] at hsy4)
  have O4 := Lib.hid (Owns.of hown)
  clear hown
  go_wp2_with fail
  with_reducible refine (drawClaimsAbout_any a n c bs _ (hr.out.bel (by (repeat (first | (with_reducible exact Below.refl _ _) | (with_reducible assumption) | (with_reducible refine Later.out _ ?_) | (with_reducible refine bel_alloc ?_ _) | (with_reducible refine bel_drew ?_) | (with_reducible refine bel_drewN ?_ _) | (with_reducible refine bel_set ?_ ?_ _) | (with_reducible refine After.out _ ?_ ?_) | (dsimp only; omega) | omega | (simp only [World.size_alloc, World.size_setCell, World.size_drew]; omega))))) hl.out hn4 hx.out).mono ?_
  rintro e w' ⟨L3, aL3, cL3, s3, i3, hok3, hl3, hs3', rfl, z3, rfl, ho3⟩
  have hsz3 := z3.bel.size
  (try simp only [World.size_alloc, World.size_setCell, World.size_drew] at hsz3)
  have hrow3 := Lib.hid ho3.row
  have CB1 := fun w hr hM => about_impl L3 s3 i3 aL3 L3.length cL3 w rfl (by omega) hr (fun x hx => okC_ok (hok3 x hx)) (by omega) hM
  have CB2 := fun w hr => about_spec L3 s3 i3 aL3 L3.length cL3 w rfl (by omega) hr (fun x hx => okC_ok (hok3 x hx)) (by omega)
  have hR3l : (aboutR L3 s3 i3).length ≤ 1048576 := by
    unfold aboutR
    split
    · have := idxs_le (aboutB s3 i3) L3
      omega
    · simp
  obtain ⟨B3, hB3⟩ : ∃ B, claimsB L3 = B := ⟨_, rfl⟩
  have CC3 := Lib.hid (fun w hr hM => areClaims_b (L := L3) (a := aL3) (n := L3.length) (c := cL3) (w := w) rfl (by omega) hr (fun x hx => okC_ok (hok3 x hx)) hM hB3)
  have hKB : (aboutK L3 s3 i3 == 0) = B3 := by
    unfold aboutK
    rw [hB3]
    cases B3 <;> rfl
  obtain ⟨R3, hR3⟩ : ∃ R, aboutR L3 s3 i3 = R := ⟨_, rfl⟩
  obtain ⟨K3, hK3⟩ : ∃ R, aboutK L3 s3 i3 = R := ⟨_, rfl⟩
  simp only [hR3, hK3] at CB1 CB2
  rw [hR3] at hR3l
  rw [hK3] at hKB
  replace CB1 := Lib.hid CB1
  replace CB2 := Lib.hid CB2
  clear hR3 hK3 ho3 hok3 hB3
  go_wp2_with fail
  with_reducible refine (CB1.out _ (hrow3.out.bel (by (repeat (first | (with_reducible exact Below.refl _ _) | (with_reducible assumption) | (with_reducible refine Later.out _ ?_) | (with_reducible refine bel_alloc ?_ _) | (with_reducible refine bel_drew ?_) | (with_reducible refine bel_drewN ?_ _) | (with_reducible refine bel_set ?_ ?_ _) | (with_reducible refine After.out _ ?_ ?_) | (dsimp only; omega) | omega | (simp only [World.size_alloc, World.size_setCell, World.size_drew]; omega))))) (hM.out.bel (by (repeat (first | (with_reducible exact Below.refl _ _) | (with_reducible assumption) | (with_reducible refine Later.out _ ?_) | (with_reducible refine bel_alloc ?_ _) | (with_reducible refine bel_drew ?_) | (with_reducible refine bel_drewN ?_ _) | (with_reducible refine bel_set ?_ ?_ _) | (with_reducible refine After.out _ ?_ ?_) | (dsimp only; omega) | omega | (simp only [World.size_alloc, World.size_setCell, World.size_drew]; omega)))))).mono ?_
  rintro e w' ⟨a5, c5, rfl, hown, y5, rfl⟩
  have hsy5 := y5.bel.size
  (try simp only [World.size_alloc, World.size_setCell, World.size_drew] at hsy5)
  have O5 := Lib.hid (Owns.of hown)
  clear hown
  go_wp2_with fail
  with_reducible refine (CB2.out _ (hrow3.out.bel (by (repeat (first | (with_reducible exact Below.refl _ _) | (with_reducible assumption) | (with_reducible refine Later.out _ ?_) | (with_reducible refine bel_alloc ?_ _) | (with_reducible refine bel_drew ?_) | (with_reducible refine bel_drewN ?_ _) | (with_reducible refine bel_set ?_ ?_ _) | (with_reducible refine After.out _ ?_ ?_) | (dsimp only; omega) | omega | (simp only [World.size_alloc, World.size_setCell, World.size_drew]; omega)))))).mono ?_
  rintro e w' ⟨a6, c6, rfl, hown, y6, rfl⟩
  have hsy6 := y6.bel.size
  (try simp only [World.size_alloc, World.size_setCell, World.size_drew] at hsy6)
  have O6 := Lib.hid (Owns.of hown)
  clear hown
  go_wp2_with fail
  with_reducible refine (drawWeightOf_any a n c bs _ (hr.out.bel (by (repeat (first | (with_reducible exact Below.refl _ _) | (with_reducible assumption) | (with_reducible refine Later.out _ ?_) | (with_reducible refine bel_alloc ?_ _) | (with_reducible refine bel_drew ?_) | (with_reducible refine bel_drewN ?_ _) | (with_reducible refine bel_set ?_ ?_ _) | (with_reducible refine After.out _ ?_ ?_) | (dsimp only; omega) | omega | (simp only [World.size_alloc, World.size_setCell, World.size_drew]; omega))))) hl.out hn4 hx.out).mono ?_
  rintro e w' ⟨L4, aL4, cL4, S4, aS4, cS4, hok4, hl4, hS4, rfl, z4, rfl, ho4, hoS4⟩
  have hsz4 := z4.bel.size
  (try simp only [World.size_alloc, World.size_setCell, World.size_drew] at hsz4)
  have hrow4 := Lib.hid ho4.row
  have hrowS4 := Lib.hid hoS4.row
  have CW1 := fun w hr hr' hM => weightOf_impl L4 S4 aL4 aS4 L4.length cL4 S4.length cS4 w rfl rfl (by omega) (by omega) hr hr' (fun x hx => okC_ok (hok4 x hx)) hM
  have CW2 := fun w hr hr' => weightOf_spec L4 S4 aL4 aS4 L4.length cL4 S4.length cS4 w rfl rfl (by omega) (by omega) hr hr' (fun x hx => okC_ok (hok4 x hx))
  obtain ⟨R4, hR4⟩ : ∃ R, wtR L4 S4 = R := ⟨_, rfl⟩
  obtain ⟨K4, hK4⟩ : ∃ R, codeZ L4 S4 = R := ⟨_, rfl⟩
  simp only [hR4, hK4] at CW1 CW2
  replace CW1 := Lib.hid CW1
  replace CW2 := Lib.hid CW2
  clear hR4 hK4 ho4 hoS4 hok4
  go_wp2_with fail
  with_reducible refine (CW1.out _ (hrow4.out.bel (by (repeat (first | (with_reducible exact Below.refl _ _) | (with_reducible assumption) | (with_reducible refine Later.out _ ?_) | (with_reducible refine bel_alloc ?_ _) | (with_reducible refine bel_drew ?_) | (with_reducible refine bel_drewN ?_ _) | (with_reducible refine bel_set ?_ ?_ _) | (with_reducible refine After.out _ ?_ ?_) | (dsimp only; omega) | omega | (simp only [World.size_alloc, World.size_setCell, World.size_drew]; omega))))) (hrowS4.out.bel (by (repeat (first | (with_reducible exact Below.refl _ _) | (with_reducible assumption) | (with_reducible refine Later.out _ ?_) | (with_reducible refine bel_alloc ?_ _) | (with_reducible refine bel_drew ?_) | (with_reducible refine bel_drewN ?_ _) | (with_reducible refine bel_set ?_ ?_ _) | (with_reducible refine After.out _ ?_ ?_) | (dsimp only; omega) | omega | (simp only [World.size_alloc, World.size_setCell, World.size_drew]; omega))))) (hM.out.bel (by (repeat (first | (with_reducible exact Below.refl _ _) | (with_reducible assumption) | (with_reducible refine Later.out _ ?_) | (with_reducible refine bel_alloc ?_ _) | (with_reducible refine bel_drew ?_) | (with_reducible refine bel_drewN ?_ _) | (with_reducible refine bel_set ?_ ?_ _) | (with_reducible refine After.out _ ?_ ?_) | (dsimp only; omega) | omega | (simp only [World.size_alloc, World.size_setCell, World.size_drew]; omega)))))).mono ?_
  rintro e w' ⟨rfl, y7, rfl⟩
  have hsy7 := y7.bel.size
  (try simp only [World.size_alloc, World.size_setCell, World.size_drew] at hsy7)
  go_wp2_with fail
  with_reducible refine (CW2.out _ (hrow4.out.bel (by (repeat (first | (with_reducible exact Below.refl _ _) | (with_reducible assumption) | (with_reducible refine Later.out _ ?_) | (with_reducible refine bel_alloc ?_ _) | (with_reducible refine bel_drew ?_) | (with_reducible refine bel_drewN ?_ _) | (with_reducible refine bel_set ?_ ?_ _) | (with_reducible refine After.out _ ?_ ?_) | (dsimp only; omega) | omega | (simp only [World.size_alloc, World.size_setCell, World.size_drew]; omega))))) (hrowS4.out.bel (by (repeat (first | (with_reducible exact Below.refl _ _) | (with_reducible assumption) | (with_reducible refine Later.out _ ?_) | (with_reducible refine bel_alloc ?_ _) | (with_reducible refine bel_drew ?_) | (with_reducible refine bel_drewN ?_ _) | (with_reducible refine bel_set ?_ ?_ _) | (with_reducible refine After.out _ ?_ ?_) | (dsimp only; omega) | omega | (simp only [World.size_alloc, World.size_setCell, World.size_drew]; omega)))))).mono ?_
  rintro e w' ⟨rfl, y8, rfl⟩
  have hsy8 := y8.bel.size
  (try simp only [World.size_alloc, World.size_setCell, World.size_drew] at hsy8)
  go_wp2_with fail
  with_reducible refine (drawPairsOf_any a n c bs _ (hr.out.bel (by (repeat (first | (with_reducible exact Below.refl _ _) | (with_reducible assumption) | (with_reducible refine Later.out _ ?_) | (with_reducible refine bel_alloc ?_ _) | (with_reducible refine bel_drew ?_) | (with_reducible refine bel_drewN ?_ _) | (with_reducible refine bel_set ?_ ?_ _) | (with_reducible refine After.out _ ?_ ?_) | (dsimp only; omega) | omega | (simp only [World.size_alloc, World.size_setCell, World.size_drew]; omega))))) hl.out hn4 hx.out).mono ?_
  rintro e w' ⟨L5, aL5, cL5, hok5, hl5, rfl, z5, rfl, ho5⟩
  have hsz5 := z5.bel.size
  (try simp only [World.size_alloc, World.size_setCell, World.size_drew] at hsz5)
  have hrow5 := Lib.hid ho5.row
  have CP1 := fun w hr hM => pairs_impl L5 aL5 L5.length cL5 w rfl (by omega) hr (fun x hx => okC_ok (hok5 x hx)) hM
  have CP2 := fun w hr => pairs_spec L5 aL5 L5.length cL5 w rfl (by omega) hr (fun x hx => okC_ok (hok5 x hx))
  have hP5l := pairsR_len L5 (n := L5.length) rfl (by omega)
  have hP5e := pairsR_el L5
  have hP5k : ∀ T ∈ pairsR L5, codeZ L5 T = 0 ∧ coreR L5 T = true := fun T hT => by
    unfold pairsR at hT
    split at hT
    · rename_i hv
      obtain ⟨e1, e2⟩ := pair_core hv hT
      exact ⟨e1, by unfold coreR; rw [if_pos e1]; exact e2⟩
    · simp at hT
  obtain ⟨R5, hR5⟩ : ∃ R, pairsR L5 = R := ⟨_, rfl⟩
  obtain ⟨K5, hK5⟩ : ∃ R, pairsK L5 = R := ⟨_, rfl⟩
  simp only [hR5, hK5] at CP1 CP2
  rw [hR5] at hP5l hP5e hP5k
  have CK := Lib.hid (fun (T : List Int) (hT : T ∈ R5) (aT : Option Addr) (cT : Nat) (w : World) hr hr' (hcp : T.length ≤ cT) (hM : Max w) => by
    have h := core_impl L5 T aL5 L5.length cL5 aT T.length cT w rfl (by omega) rfl (by have := hP5e T hT; omega) hr hr' (fun x hx => okC_ok (hok5 x hx)) hcp hM
    rw [(hP5k T hT).1, (hP5k T hT).2] at h
    exact h)
  replace CP1 := Lib.hid CP1
  replace CP2 := Lib.hid CP2
  replace hP5e := Lib.hid hP5e
  clear hR5 hK5 ho5 hok5 hP5k
  go_wp2_with fail
  with_reducible refine (CP1.out _ (hrow5.out.bel (by (repeat (first | (with_reducible exact Below.refl _ _) | (with_reducible assumption) | (with_reducible refine Later.out _ ?_) | (with_reducible refine bel_alloc ?_ _) | (with_reducible refine bel_drew ?_) | (with_reducible refine bel_drewN ?_ _) | (with_reducible refine bel_set ?_ ?_ _) | (with_reducible refine After.out _ ?_ ?_) | (dsimp only; omega) | omega | (simp only [World.size_alloc, World.size_setCell, World.size_drew]; omega))))) (hM.out.bel (by (repeat (first | (with_reducible exact Below.refl _ _) | (with_reducible assumption) | (with_reducible refine Later.out _ ?_) | (with_reducible refine bel_alloc ?_ _) | (with_reducible refine bel_drew ?_) | (with_reducible refine bel_drewN ?_ _) | (with_reducible refine bel_set ?_ ?_ _) | (with_reducible refine After.out _ ?_ ?_) | (dsimp only; omega) | omega | (simp only [World.size_alloc, World.size_setCell, World.size_drew]; omega)))))).mono ?_
  rintro e w' ⟨a9, c9, vs9, rfl, hnest, y9, rfl⟩
  have hsy9 := y9.bel.size
  (try simp only [World.size_alloc, World.size_setCell, World.size_drew] at hsy9)
  have H9 := Lib.hid hnest
  clear hnest
  go_wp2_with fail
  with_reducible refine (CP2.out _ (hrow5.out.bel (by (repeat (first | (with_reducible exact Below.refl _ _) | (with_reducible assumption) | (with_reducible refine Later.out _ ?_) | (with_reducible refine bel_alloc ?_ _) | (with_reducible refine bel_drew ?_) | (with_reducible refine bel_drewN ?_ _) | (with_reducible refine bel_set ?_ ?_ _) | (with_reducible refine After.out _ ?_ ?_) | (dsimp only; omega) | omega | (simp only [World.size_alloc, World.size_setCell, World.size_drew]; omega)))))).mono ?_
  rintro e w' ⟨a10, c10, vs10, rfl, hnest, y10, rfl⟩
  have hsy10 := y10.bel.size
  (try simp only [World.size_alloc, World.size_setCell, World.size_drew] at hsy10)
  have H10 := Lib.hid hnest
  clear hnest
  go_wp2_with fail
  with_reducible refine (likeInts_same rfl rfl hR2l hR2l (O3.out.row.bel (by (repeat (first | (with_reducible exact Below.refl _ _) | (with_reducible assumption) | (with_reducible refine Later.out _ ?_) | (with_reducible refine bel_alloc ?_ _) | (with_reducible refine bel_drew ?_) | (with_reducible refine bel_drewN ?_ _) | (with_reducible refine bel_set ?_ ?_ _) | (with_reducible refine After.out _ ?_ ?_) | (dsimp only; omega) | omega | (simp only [World.size_alloc, World.size_setCell, World.size_drew]; omega))))) (O4.out.row.bel (by (repeat (first | (with_reducible exact Below.refl _ _) | (with_reducible assumption) | (with_reducible refine Later.out _ ?_) | (with_reducible refine bel_alloc ?_ _) | (with_reducible refine bel_drew ?_) | (with_reducible refine bel_drewN ?_ _) | (with_reducible refine bel_set ?_ ?_ _) | (with_reducible refine After.out _ ?_ ?_) | (dsimp only; omega) | omega | (simp only [World.size_alloc, World.size_setCell, World.size_drew]; omega)))))).mono ?_
  rintro e w' ⟨rfl, y11, rfl⟩
  have hsy11 := y11.bel.size
  (try simp only [World.size_alloc, World.size_setCell, World.size_drew] at hsy11)
  go_wp2_with fail
  with_reducible refine (likeInts_same rfl rfl hR3l hR3l (O5.out.row.bel (by (repeat (first | (with_reducible exact Below.refl _ _) | (with_reducible assumption) | (with_reducible refine Later.out _ ?_) | (with_reducible refine bel_alloc ?_ _) | (with_reducible refine bel_drew ?_) | (with_reducible refine bel_drewN ?_ _) | (with_reducible refine bel_set ?_ ?_ _) | (with_reducible refine After.out _ ?_ ?_) | (dsimp only; omega) | omega | (simp only [World.size_alloc, World.size_setCell, World.size_drew]; omega))))) (O6.out.row.bel (by (repeat (first | (with_reducible exact Below.refl _ _) | (with_reducible assumption) | (with_reducible refine Later.out _ ?_) | (with_reducible refine bel_alloc ?_ _) | (with_reducible refine bel_drew ?_) | (with_reducible refine bel_drewN ?_ _) | (with_reducible refine bel_set ?_ ?_ _) | (with_reducible refine After.out _ ?_ ?_) | (dsimp only; omega) | omega | (simp only [World.size_alloc, World.size_setCell, World.size_drew]; omega)))))).mono ?_
  rintro e w' ⟨rfl, y12, rfl⟩
  have hsy12 := y12.bel.size
  (try simp only [World.size_alloc, World.size_setCell, World.size_drew] at hsy12)
  go_wp2_with fail
  with_reducible refine (likeTables_same _ _ _ _ _ _ _ _ rfl rfl hP5l (fun l hl => Nat.le_trans (hP5e.out l hl) (by omega)) (H9.out.rows.bel (by (repeat (first | (with_reducible exact Below.refl _ _) | (with_reducible assumption) | (with_reducible refine Later.out _ ?_) | (with_reducible refine bel_alloc ?_ _) | (with_reducible refine bel_drew ?_) | (with_reducible refine bel_drewN ?_ _) | (with_reducible refine bel_set ?_ ?_ _) | (with_reducible refine After.out _ ?_ ?_) | (dsimp only; omega) | omega | (simp only [World.size_alloc, World.size_setCell, World.size_drew]; omega))))) (H10.out.rows.bel (by (repeat (first | (with_reducible exact Below.refl _ _) | (with_reducible assumption) | (with_reducible refine Later.out _ ?_) | (with_reducible refine bel_alloc ?_ _) | (with_reducible refine bel_drew ?_) | (with_reducible refine bel_drewN ?_ _) | (with_reducible refine bel_set ?_ ?_ _) | (with_reducible refine After.out _ ?_ ?_) | (dsimp only; omega) | omega | (simp only [World.size_alloc, World.size_setCell, World.size_drew]; omega)))))).mono ?_
  rintro e w' ⟨rfl, y13, rfl⟩
  have hsy13 := y13.bel.size
  (try simp only [World.size_alloc, World.size_setCell, World.size_drew] at hsy13)
  go_wp2_with fail
  with_reducible refine (CC3.out _ (hrow3.out.bel (by (repeat (first | (with_reducible exact Below.refl _ _) | (with_reducible assumption) | (with_reducible refine Later.out _ ?_) | (with_reducible refine bel_alloc ?_ _) | (with_reducible refine bel_drew ?_) | (with_reducible refine bel_drewN ?_ _) | (with_reducible refine bel_set ?_ ?_ _) | (with_reducible refine After.out _ ?_ ?_) | (dsimp only; omega) | omega | (simp only [World.size_alloc, World.size_setCell, World.size_drew]; omega))))) (hM.out.bel (by (repeat (first | (with_reducible exact Below.refl _ _) | (with_reducible assumption) | (with_reducible refine Later.out _ ?_) | (with_reducible refine bel_alloc ?_ _) | (with_reducible refine bel_drew ?_) | (with_reducible refine bel_drewN ?_ _) | (with_reducible refine bel_set ?_ ?_ _) | (with_reducible refine After.out _ ?_ ?_) | (dsimp only; omega) | omega | (simp only [World.size_alloc, World.size_setCell, World.size_drew]; omega)))))).mono ?_
  rintro e w' ⟨rfl, y14, rfl⟩
  have hsy14 := y14.bel.size
  (try simp only [World.size_alloc, World.size_setCell, World.size_drew] at hsy14)
  go_upto_region 20 with fail
  go_cut [189] from 183 to 188 (fun b wr => b = .bool false ∧ ∃ y : Later y14.w, wr = y.w)
  case first =>
    by_cases hK20 : K2 = 0
    · subst hK20
      have CH := Lib.hid (fun w hr => hasInt_any i2 R2 a3 R2.length c3 w rfl hR2l hr)
      rw [hR2b.out] at CH
      go_wp2_with fail
      with_reducible refine (CH.out _ (O3.out.row.bel (by (repeat (first | (with_reducible exact Below.refl _ _) | (with_reducible assumption) | (with_reducible refine Later.out _ ?_) | (with_reducible refine bel_alloc ?_ _) | (with_reducible refine bel_drew ?_) | (with_reducible refine bel_drewN ?_ _) | (with_reducible refine bel_set ?_ ?_ _) | (with_reducible refine After.out _ ?_ ?_) | (dsimp only; omega) | omega | (simp only [World.size_alloc, World.size_setCell, World.size_drew]; omega)))))).mono ?_
      rintro e w' ⟨rfl, y15, rfl⟩
      have hsy15 := y15.bel.size
      (try simp only [World.size_alloc, World.size_setCell, World.size_drew] at hsy15)
      go_wp2_with fail
      go_meet
      exact ⟨rfl, y15, rfl⟩
    · have hK21 : (K2 == 0) = false := by rw [beq_eq_false_iff_ne]; exact hK20
      go_wp2_with fail
      go_meet
      exact ⟨rfl, ⟨y14.w, Below.refl _ _⟩, rfl⟩
  case rest =>
    obtain ⟨rfl, y15, rfl⟩ := hcut
    have hsy15 := y15.bel.size
    have hH9 := Lib.hid (H9.out.bel (w' := y15.w) (B := y9.w.heap.size) (by (repeat (first | (with_reducible exact Below.refl _ _) | (with_reducible assumption) | (with_reducible refine Later.out _ ?_) | (with_reducible refine bel_alloc ?_ _) | (with_reducible refine bel_drew ?_) | (with_reducible refine bel_drewN ?_ _) | (with_reducible refine bel_set ?_ ?_ _) | (with_reducible refine After.out _ ?_ ?_) | (dsimp only; omega) | omega | (simp only [World.size_alloc, World.size_setCell, World.size_drew]; omega)))) (Nat.le_refl _))
    have hrow9 := Lib.hid (hrow5.out.bel (w' := y15.w) (by (repeat (first | (with_reducible exact Below.refl _ _) | (with_reducible assumption) | (with_reducible refine Later.out _ ?_) | (with_reducible refine bel_alloc ?_ _) | (with_reducible refine bel_drew ?_) | (with_reducible refine bel_drewN ?_ _) | (with_reducible refine bel_set ?_ ?_ _) | (with_reducible refine After.out _ ?_ ?_) | (dsimp only; omega) | omega | (simp only [World.size_alloc, World.size_setCell, World.size_drew]; omega)))))
    have hM9 := Lib.hid (hM.out.bel (w' := y15.w) (by (repeat (first | (with_reducible exact Below.refl _ _) | (with_reducible assumption) | (with_reducible refine Later.out _ ?_) | (with_reducible refine bel_alloc ?_ _) | (with_reducible refine bel_drew ?_) | (with_reducible refine bel_drewN ?_ _) | (with_reducible refine bel_set ?_ ?_ _) | (with_reducible refine After.out _ ?_ ?_) | (dsimp only; omega) | omega | (simp only [World.size_alloc, World.size_setCell, World.size_drew]; omega)))))
    have hB9 : Below w.heap.size w y15.w := by (repeat (first | (with_reducible exact Below.refl _ _) | (with_reducible assumption) | (with_reducible refine Later.out _ ?_) | (with_reducible refine bel_alloc ?_ _) | (with_reducible refine bel_drew ?_) | (with_reducible refine bel_drewN ?_ _) | (with_reducible refine bel_set ?_ ?_ _) | (with_reducible refine After.out _ ?_ ?_) | (dsimp only; omega) | omega | (simp only [World.size_alloc, World.size_setCell, World.size_drew]; omega)))
    have XA := Lib.hid (show ClmAt y15.w z1.w.heap.size 0 x by constructor <;> simp [go_sem, ↓IntWalk.iteOmega])
    have XD := Lib.hid (show ClmAt y15.w (z1.w.heap.size + 1) 0 d by constructor <;> simp [go_sem, ↓IntWalk.iteOmega])
    have hz15 : z1.w.heap.size + 1 < y15.w.heap.size := by omega
    obtain ⟨V, hV⟩ : ∃ V, y15.w = V := ⟨_, rfl⟩
    rw [hV] at hH9 hrow9 hM9 hB9 XA XD hz15
    rw [hV]
    clear hV hsy15 y15
    go_wp2_with fail
    go_loopw [33, 34, 35] (fun i _ _ wr => ∃ k : Nat, k ≤ R5.length ∧ i = .int .i64 k ∧ ∃ z : Later V, wr = z.w) (fun i _ _ _ => R5.length - (intOf i).toNat)
    case atStart => exact ⟨0, Nat.zero_le _, rfl, ⟨V, Below.refl _ _⟩, rfl⟩
    case round =>
      obtain ⟨k, hk, rfl, z, rfl⟩ := hrel
      have hsz := z.bel.size
      by_cases hgo : K5 = 0 ∧ k < R5.length
      · obtain ⟨rfl, hlt⟩ := hgo
        have hi1 : (k : Int) < (R5.length : Int) := by omega
        obtain ⟨b9, e9, -, h9b, hc9, -⟩ := hH9.out.own.at_ (j := k) (by omega)
        subst e9
        obtain ⟨aT, cT, hvT, hoT⟩ := hH9.out.at_ k hlt
        rw [hvT] at hc9
        have hmT := List.getElem_mem hlt
        obtain ⟨T, hT⟩ : ∃ T, R5[k] = T := ⟨_, rfl⟩
        rw [hT] at hc9 hoT hmT
        have hlb : b9 < V.heap.size := World.block_lt_of_cell? V _ hc9
        have CKT := Lib.hid (fun w hr hr' hM => CK.out T hmT aT cT w hr hr' hoT.cap hM)
        have hrT := Lib.hid hoT.row
        clear hvT hoT hmT hT
        go_wp2_with fail
        with_reducible refine (CKT.out _ (hrow9.out.bel (by (repeat (first | (with_reducible exact Below.refl _ _) | (with_reducible assumption) | (with_reducible refine Later.out _ ?_) | (with_reducible refine bel_alloc ?_ _) | (with_reducible refine bel_drew ?_) | (with_reducible refine bel_drewN ?_ _) | (with_reducible refine bel_set ?_ ?_ _) | (with_reducible refine After.out _ ?_ ?_) | (dsimp only; omega) | omega | (simp only [World.size_alloc, World.size_setCell, World.size_drew]; omega))))) (hrT.out.bel (by (repeat (first | (with_reducible exact Below.refl _ _) | (with_reducible assumption) | (with_reducible refine Later.out _ ?_) | (with_reducible refine bel_alloc ?_ _) | (with_reducible refine bel_drew ?_) | (with_reducible refine bel_drewN ?_ _) | (with_reducible refine bel_set ?_ ?_ _) | (with_reducible refine After.out _ ?_ ?_) | (dsimp only; omega) | omega | (simp only [World.size_alloc, World.size_setCell, World.size_drew]; omega))))) (hM9.out.bel (by (repeat (first | (with_reducible exact Below.refl _ _) | (with_reducible assumption) | (with_reducible refine Later.out _ ?_) | (with_reducible refine bel_alloc ?_ _) | (with_reducible refine bel_drew ?_) | (with_reducible refine bel_drewN ?_ _) | (with_reducible refine bel_set ?_ ?_ _) | (with_reducible refine After.out _ ?_ ?_) | (dsimp only; omega) | omega | (simp only [World.size_alloc, World.size_setCell, World.size_drew]; omega)))))).mono ?_
        rintro e w' ⟨rfl, y16, rfl⟩
        have hsy16 := y16.bel.size
        (try simp only [World.size_alloc, World.size_setCell, World.size_drew] at hsy16)
        go_wp2_with fail
        go_roundw
        case rel => exact ⟨k + 1, by omega, by go_num, LaterC.mk (by (repeat (first | (with_reducible exact Below.refl _ _) | (with_reducible assumption) | (with_reducible refine Later.out _ ?_) | (with_reducible refine bel_alloc ?_ _) | (with_reducible refine bel_drew ?_) | (with_reducible refine bel_drewN ?_ _) | (with_reducible refine bel_set ?_ ?_ _) | (with_reducible refine After.out _ ?_ ?_) | (dsimp only; omega) | omega | (simp only [World.size_alloc, World.size_setCell, World.size_drew]; omega))))⟩
        case measure => first | (simp [intOf]; done) | (simp [intOf]; omega) | omega
      · have hor : (K5 = 0 ∧ k = R5.length) ∨ K5 ≠ 0 := by
          by_cases h5 : K5 = 0
          · exact .inl ⟨h5, Nat.le_antisymm hk (Nat.le_of_not_lt fun h => hgo ⟨h5, h⟩)⟩
          · exact .inr h5
        clear hgo hk
        obtain ⟨a0, a1, a2, a3, a4, a5, a6⟩ := XA.out
        obtain ⟨b0, b1, b2, b3, b4, b5, b6⟩ := XD.out
        simp only [Nat.zero_add] at a0 a1 a2 a3 a4 a5 a6 b0 b1 b2 b3 b4 b5 b6
        by_cases hKd : Kd = 0
        · obtain ⟨e1, e2⟩ := hDb.out hKd
          have C3 := CD3.out
          have C4 := CD4.out
          rw [e1] at C3
          rw [e2] at C4
          replace C3 := Lib.hid C3
          replace C4 := Lib.hid C4
          subst hKd
          clear e1 e2
          rcases hor with ⟨rfl, rfl⟩ | h5
          · have hi1 : ¬ (R5.length : Int) < (R5.length : Int) := by omega
            go_wp2_with fail
            with_reducible refine (C3.out _ (hM9.out.bel (by (repeat (first | (with_reducible exact Below.refl _ _) | (with_reducible assumption) | (with_reducible refine Later.out _ ?_) | (with_reducible refine bel_alloc ?_ _) | (with_reducible refine bel_drew ?_) | (with_reducible refine bel_drewN ?_ _) | (with_reducible refine bel_set ?_ ?_ _) | (with_reducible refine After.out _ ?_ ?_) | (dsimp only; omega) | omega | (simp only [World.size_alloc, World.size_setCell, World.size_drew]; omega)))))).mono ?_
            rintro e w' ⟨rfl, y17, rfl⟩
            have hsy17 := y17.bel.size
            (try simp only [World.size_alloc, World.size_setCell, World.size_drew] at hsy17)
            go_wp2_with fail
            with_reducible refine (C4.out _ (hM9.out.bel (by (repeat (first | (with_reducible exact Below.refl _ _) | (with_reducible assumption) | (with_reducible refine Later.out _ ?_) | (with_reducible refine bel_alloc ?_ _) | (with_reducible refine bel_drew ?_) | (with_reducible refine bel_drewN ?_ _) | (with_reducible refine bel_set ?_ ?_ _) | (with_reducible refine After.out _ ?_ ?_) | (dsimp only; omega) | omega | (simp only [World.size_alloc, World.size_setCell, World.size_drew]; omega)))))).mono ?_
            rintro e w' ⟨rfl, y18, rfl⟩
            have hsy18 := y18.bel.size
            (try simp only [World.size_alloc, World.size_setCell, World.size_drew] at hsy18)
            go_wp2_with fail
            go_ret
            refine .mk rfl ?_
            (repeat (first | (with_reducible exact Below.refl _ _) | (with_reducible assumption) | (with_reducible refine Later.out _ ?_) | (with_reducible refine bel_alloc ?_ _) | (with_reducible refine bel_drew ?_) | (with_reducible refine bel_drewN ?_ _) | (with_reducible refine bel_set ?_ ?_ _) | (with_reducible refine After.out _ ?_ ?_) | (dsimp only; omega) | omega | (simp only [World.size_alloc, World.size_setCell, World.size_drew]; omega)))
          · have h5' : (K5 == 0) = false := by rw [beq_eq_false_iff_ne]; exact h5
            go_wp2_with fail
            with_reducible refine (C3.out _ (hM9.out.bel (by (repeat (first | (with_reducible exact Below.refl _ _) | (with_reducible assumption) | (with_reducible refine Later.out _ ?_) | (with_reducible refine bel_alloc ?_ _) | (with_reducible refine bel_drew ?_) | (with_reducible refine bel_drewN ?_ _) | (with_reducible refine bel_set ?_ ?_ _) | (with_reducible refine After.out _ ?_ ?_) | (dsimp only; omega) | omega | (simp only [World.size_alloc, World.size_setCell, World.size_drew]; omega)))))).mono ?_
            rintro e w' ⟨rfl, y17, rfl⟩
            have hsy17 := y17.bel.size
            (try simp only [World.size_alloc, World.size_setCell, World.size_drew] at hsy17)
            go_wp2_with fail
            with_reducible refine (C4.out _ (hM9.out.bel (by (repeat (first | (with_reducible exact Below.refl _ _) | (with_reducible assumption) | (with_reducible refine Later.out _ ?_) | (with_reducible refine bel_alloc ?_ _) | (with_reducible refine bel_drew ?_) | (with_reducible refine bel_drewN ?_ _) | (with_reducible refine bel_set ?_ ?_ _) | (with_reducible refine After.out _ ?_ ?_) | (dsimp only; omega) | omega | (simp only [World.size_alloc, World.size_setCell, World.size_drew]; omega)))))).mono ?_
            rintro e w' ⟨rfl, y18, rfl⟩
            have hsy18 := y18.bel.size
            (try simp only [World.size_alloc, World.size_setCell, World.size_drew] at hsy18)
            go_wp2_with fail
            go_ret
            refine .mk rfl ?_
            (repeat (first | (with_reducible exact Below.refl _ _) | (with_reducible assumption) | (with_reducible refine Later.out _ ?_) | (with_reducible refine bel_alloc ?_ _) | (with_reducible refine bel_drew ?_) | (with_reducible refine bel_drewN ?_ _) | (with_reducible refine bel_set ?_ ?_ _) | (with_reducible refine After.out _ ?_ ?_) | (dsimp only; omega) | omega | (simp only [World.size_alloc, World.size_setCell, World.size_drew]; omega)))
        · have hKd' : (Kd != 0) = true := by simpa using hKd
          rcases hor with ⟨rfl, rfl⟩ | h5
          · have hi1 : ¬ (R5.length : Int) < (R5.length : Int) := by omega
            go_wp2_with fail
            go_ret
            refine .mk rfl ?_
            (repeat (first | (with_reducible exact Below.refl _ _) | (with_reducible assumption) | (with_reducible refine Later.out _ ?_) | (with_reducible refine bel_alloc ?_ _) | (with_reducible refine bel_drew ?_) | (with_reducible refine bel_drewN ?_ _) | (with_reducible refine bel_set ?_ ?_ _) | (with_reducible refine After.out _ ?_ ?_) | (dsimp only; omega) | omega | (simp only [World.size_alloc, World.size_setCell, World.size_drew]; omega)))
          · have h5' : (K5 == 0) = false := by rw [beq_eq_false_iff_ne]; exact h5
            go_wp2_with fail
            go_ret
            refine .mk rfl ?_
            (repeat (first | (with_reducible exact Below.refl _ _) | (with_reducible assumption) | (with_reducible refine Later.out _ ?_) | (with_reducible refine bel_alloc ?_ _) | (with_reducible refine bel_drew ?_) | (with_reducible refine bel_drewN ?_ _) | (with_reducible refine bel_set ?_ ?_ _) | (with_reducible refine After.out _ ?_ ?_) | (dsimp only; omega) | omega | (simp only [World.size_alloc, World.size_setCell, World.size_drew]; omega)))
end Go.Proofs.YtflcfdiochohgaaGreatDoor

import Derived.Test.YtfjlilpebhiogaaGreatDoorDrawT
import Derived.Test.YtfjlilpebhiogaaGreatDoorReadF
import Derived.Test.YtfjlilpebhiogaaGreatDoorLike
import Derived.Laws.StructEq
import Derived.Test.YtfjlilpebhiogaaGreatDoorClaimT
/- The law ClaimTexts: a claim is recovered from its text. -/
set_option linter.unusedSimpArgs false
set_option linter.unusedVariables false
namespace Go.Proofs.YtfjlilpebhiogaaGreatDoor
open Go.RowKit
theorem neClmX (c : Clm) (w : World) : (binOp .neq 27 (clmV c) (clmV c)).run Tryz.prog w = .ok (.bool false) w := by
  simp [go_sem]
theorem rdK_or (s : ByteArray) : rdK s = 0 ∨ rdK s = 6 := by
  unfold rdK
  split
  · split
    · exact .inl rfl
    · exact .inr rfl
  · exact .inr rfl
theorem rdK_ok {s : ByteArray} (h : rdK s = 0) : claimB (rdC s) = true ∧ clmT (rdC s) = s := by
  unfold rdK at h
  split at h
  · rename_i a b c d e f hp
    split at h
    · rename_i hok
      have e1 : rdC s = rdI a b c d e f := by unfold rdC; rw [hp]; exact if_pos hok
      rw [e1]
      unfold okI at hok
      rw [Bool.and_eq_true, decide_eq_true_eq] at hok
      exact hok
    · cases h
  · cases h
theorem rd_clmT {c : Clm} (h : claimB c = true) : rdC (clmT c) = c ∧ rdK (clmT c) = 0 := by
  have hp := pieces_clm h
  obtain ⟨e1, -⟩ := rd_of hp h rfl
  have hok : okI (clmT c) c.src (decB c.kind) c.place (dotB c.val) (spanT c.fr c.to) (decB c.wt) = true := by
    unfold okI
    rw [e1, h]
    simp
  unfold rdC rdK
  rw [hp]
  simp only [hok, if_true]
  exact ⟨e1, trivial⟩
theorem clmT_size2 {c : Clm} (h : OkC c) (hB : claimB c = true) : (clmT c).size ≤ 1048576 := by
  obtain ⟨a1, a2, a3, a4, a5⟩ := h
  obtain ⟨b1, b2, b3, b4⟩ := claim_bounds hB
  have s1 := decB_size c.kind (by omega) (by omega)
  have s2 := decB_size c.wt (by omega) (by omega)
  have s3 := dotB_size c.val
  have s4 := spanT_size c.fr c.to b3 b4
  unfold clmT
  simp only [ByteArray.size_append]
  have e : (⟨#[47]⟩ : ByteArray).size = 1 := rfl
  omega
theorem rdC_ok {s : ByteArray} (hs : s.size ≤ 1048576) : ClmOk (rdC s) := by
  have z0 : ClmOk clm0 := ⟨by decide, by decide, by decide⟩
  unfold rdC
  split
  · rename_i a b c d e f hp
    have hsz : ∀ t ∈ piecesS 47 s, t.size ≤ 1048576 := fun t h => Nat.le_trans (piecesS_size h) hs
    rw [hp] at hsz
    split
    · exact ⟨hsz a (by simp), hsz c (by simp), Nat.le_trans (fromB_size d) (hsz d (by simp))⟩
    · exact z0
  · exact z0
set_option maxRecDepth 8000 in
set_option maxHeartbeats 8000000 in
theorem lawClmTx_any (a : Option Addr) (n c : Nat) (bs : List Int) (w : World) (hr : Row w a (byteCells bs)) (hl : bs.length = n) (hm : n ≤ maxLen) (hx : ∀ x ∈ bs, 0 ≤ x ∧ x ≤ 255) (hE : Env w) :
    Calls Tryz.prog 3 #[.slice a n c] w (Ret w (.bool true)) := by
  by_cases hbig : 4096 < n
  · clear hr hl hx hE
    go_enter Tryz.func3, Tryz.ntmps3
    go_wp2_with fail
    with_reducible refine (big_yes _ _ _ _ hbig hm).mono ?_
    rintro e w' ⟨rfl, y0, rfl⟩
    have hsy0 := y0.bel.size
    (try simp only [World.size_alloc, World.size_setCell, World.size_drew] at hsy0)
    go_wp2_with fail
    go_ret
    refine .mk rfl ?_
    (repeat (first | (with_reducible exact Below.refl _ _) | (with_reducible assumption) | (with_reducible refine Later.out _ ?_) | (with_reducible refine bel_alloc ?_ _) | (with_reducible refine bel_drew ?_) | (with_reducible refine bel_drewN ?_ _) | (with_reducible refine bel_set ?_ ?_ _) | (with_reducible refine After.out _ ?_ ?_) | (dsimp only; omega) | omega | (simp only [World.size_alloc, World.size_setCell, World.size_drew]; omega)))
  have hn4 : n ≤ 4096 := by omega
  replace hr := Lib.hid hr
  replace hx := Lib.hid hx
  replace hl := Lib.hid hl
  replace hE := Lib.hid hE
  clear hbig hm
  go_enter Tryz.func3, Tryz.ntmps3
  go_wp2_with fail
  with_reducible refine (big_no _ _ _ _ hn4).mono ?_
  rintro e w' ⟨rfl, y0, rfl⟩
  have hsy0 := y0.bel.size
  (try simp only [World.size_alloc, World.size_setCell, World.size_drew] at hsy0)
  go_wp2_with fail
  with_reducible refine (drawClaimText_any a n c bs _ (hr.out.bel (by (repeat (first | (with_reducible exact Below.refl _ _) | (with_reducible assumption) | (with_reducible refine Later.out _ ?_) | (with_reducible refine bel_alloc ?_ _) | (with_reducible refine bel_drew ?_) | (with_reducible refine bel_drewN ?_ _) | (with_reducible refine bel_set ?_ ?_ _) | (with_reducible refine After.out _ ?_ ?_) | (dsimp only; omega) | omega | (simp only [World.size_alloc, World.size_setCell, World.size_drew]; omega))))) hl.out hn4 hx.out).mono ?_
  rintro e w' ⟨x, hx1, rfl, z1, rfl⟩
  have hsz1 := z1.bel.size
  (try simp only [World.size_alloc, World.size_setCell, World.size_drew] at hsz1)
  have okx := okC_ok hx1
  have CI := fun w hM hT => txt_impl x w okx hM hT
  have CS := fun w => txt_spec x w okx
  have CB := fun w hM => isClaim_any x w okx hM
  have hTx : claimB x = true → txtR x = clmT x ∧ txtK x = 0 ∧ rdC (txtR x) = x ∧ rdK (txtR x) = 0 ∧ (txtR x).size ≤ 1048576 := fun h => by
    have e1 : txtR x = clmT x := by simp [txtR, h]
    rw [e1]
    exact ⟨rfl, by simp [txtK, h], (rd_clmT h).1, (rd_clmT h).2, clmT_size2 hx1 h⟩
  have hTn : claimB x = false → txtK x = 1 := fun h => by simp [txtK, h]
  obtain ⟨T, hT⟩ : ∃ T, txtR x = T := ⟨_, rfl⟩
  obtain ⟨K, hK⟩ : ∃ K, txtK x = K := ⟨_, rfl⟩
  obtain ⟨B, hB⟩ : ∃ B, claimB x = B := ⟨_, rfl⟩
  simp only [hT, hK, hB] at CI CS CB hTx hTn
  have xne := Lib.hid (fun w => neClmX x w)
  replace CI := Lib.hid CI
  replace CS := Lib.hid CS
  replace CB := Lib.hid CB
  replace hTx := Lib.hid hTx
  replace hTn := Lib.hid hTn
  clear hx1 okx hT hK hB
  go_wp2_with fail
  with_reducible refine (CI.out _ (hE.out.mx.bel (by (repeat (first | (with_reducible exact Below.refl _ _) | (with_reducible assumption) | (with_reducible refine Later.out _ ?_) | (with_reducible refine bel_alloc ?_ _) | (with_reducible refine bel_drew ?_) | (with_reducible refine bel_drewN ?_ _) | (with_reducible refine bel_set ?_ ?_ _) | (with_reducible refine After.out _ ?_ ?_) | (dsimp only; omega) | omega | (simp only [World.size_alloc, World.size_setCell, World.size_drew]; omega))))) (hE.out.tab.bel (by (repeat (first | (with_reducible exact Below.refl _ _) | (with_reducible assumption) | (with_reducible refine Later.out _ ?_) | (with_reducible refine bel_alloc ?_ _) | (with_reducible refine bel_drew ?_) | (with_reducible refine bel_drewN ?_ _) | (with_reducible refine bel_set ?_ ?_ _) | (with_reducible refine After.out _ ?_ ?_) | (dsimp only; omega) | omega | (simp only [World.size_alloc, World.size_setCell, World.size_drew]; omega)))))).mono ?_
  rintro e w' ⟨rfl, y1, rfl⟩
  have hsy1 := y1.bel.size
  (try simp only [World.size_alloc, World.size_setCell, World.size_drew] at hsy1)
  go_wp2_with fail
  with_reducible refine (CS.out _).mono ?_
  rintro e w' ⟨rfl, y2, rfl⟩
  have hsy2 := y2.bel.size
  (try simp only [World.size_alloc, World.size_setCell, World.size_drew] at hsy2)
  go_wp2_with fail
  with_reducible refine (drawReadClaim_any a n c bs _ (hr.out.bel (by (repeat (first | (with_reducible exact Below.refl _ _) | (with_reducible assumption) | (with_reducible refine Later.out _ ?_) | (with_reducible refine bel_alloc ?_ _) | (with_reducible refine bel_drew ?_) | (with_reducible refine bel_drewN ?_ _) | (with_reducible refine bel_set ?_ ?_ _) | (with_reducible refine After.out _ ?_ ?_) | (dsimp only; omega) | omega | (simp only [World.size_alloc, World.size_setCell, World.size_drew]; omega))))) hl.out hn4 hx.out).mono ?_
  rintro e w' ⟨s, hs, rfl, z2, rfl⟩
  have hsz2 := z2.bel.size
  (try simp only [World.size_alloc, World.size_setCell, World.size_drew] at hsz2)
  have RI := fun w hE => read_any s w (by omega) hE
  have RS := fun w => sRead_any s w (by omega)
  have RA := fun w hM hT => txt_impl (rdC s) w (rdC_ok (by omega)) hM hT
  have hR0 : rdK s = 0 → txtR (rdC s) = s ∧ txtK (rdC s) = 0 := fun h => by
    obtain ⟨h1, h2⟩ := rdK_ok h
    exact ⟨by simp [txtR, h1, h2], by simp [txtK, h1]⟩
  have hJ := rdK_or s
  obtain ⟨D, hD⟩ : ∃ D, rdC s = D := ⟨_, rfl⟩
  obtain ⟨J, hJe⟩ : ∃ J, rdK s = J := ⟨_, rfl⟩
  simp only [hD, hJe] at RI RS RA hR0 hJ
  have dne := Lib.hid (fun w => neClmX D w)
  replace RI := Lib.hid RI
  replace RS := Lib.hid RS
  replace RA := Lib.hid RA
  replace hR0 := Lib.hid hR0
  clear hD hJe hs
  go_wp2_with fail
  with_reducible refine (RI.out _ (hE.out.bel (by (repeat (first | (with_reducible exact Below.refl _ _) | (with_reducible assumption) | (with_reducible refine Later.out _ ?_) | (with_reducible refine bel_alloc ?_ _) | (with_reducible refine bel_drew ?_) | (with_reducible refine bel_drewN ?_ _) | (with_reducible refine bel_set ?_ ?_ _) | (with_reducible refine After.out _ ?_ ?_) | (dsimp only; omega) | omega | (simp only [World.size_alloc, World.size_setCell, World.size_drew]; omega)))))).mono ?_
  rintro e w' ⟨rfl, y3, rfl⟩
  have hsy3 := y3.bel.size
  (try simp only [World.size_alloc, World.size_setCell, World.size_drew] at hsy3)
  go_wp2_with fail
  with_reducible refine (RS.out _).mono ?_
  rintro e w' ⟨rfl, y4, rfl⟩
  have hsy4 := y4.bel.size
  (try simp only [World.size_alloc, World.size_setCell, World.size_drew] at hsy4)
  have dne' := dne.out
  have xne' := xne.out
  cases B
  · obtain rfl := hTn.out rfl
    rcases hJ with rfl | rfl
    · obtain ⟨e1, e2⟩ := hR0.out rfl
      have RA' := RA.out
      rw [e1, e2] at RA'
      replace RA' := Lib.hid RA'
      clear e1 e2
      go_wp2_with fail
      with_reducible refine (CB.out _ (hE.out.mx.bel (by (repeat (first | (with_reducible exact Below.refl _ _) | (with_reducible assumption) | (with_reducible refine Later.out _ ?_) | (with_reducible refine bel_alloc ?_ _) | (with_reducible refine bel_drew ?_) | (with_reducible refine bel_drewN ?_ _) | (with_reducible refine bel_set ?_ ?_ _) | (with_reducible refine After.out _ ?_ ?_) | (dsimp only; omega) | omega | (simp only [World.size_alloc, World.size_setCell, World.size_drew]; omega)))))).mono ?_
      rintro e w' ⟨rfl, y5, rfl⟩
      have hsy5 := y5.bel.size
      (try simp only [World.size_alloc, World.size_setCell, World.size_drew] at hsy5)
      go_wp2_with fail
      with_reducible refine (RA'.out _ (hE.out.mx.bel (by (repeat (first | (with_reducible exact Below.refl _ _) | (with_reducible assumption) | (with_reducible refine Later.out _ ?_) | (with_reducible refine bel_alloc ?_ _) | (with_reducible refine bel_drew ?_) | (with_reducible refine bel_drewN ?_ _) | (with_reducible refine bel_set ?_ ?_ _) | (with_reducible refine After.out _ ?_ ?_) | (dsimp only; omega) | omega | (simp only [World.size_alloc, World.size_setCell, World.size_drew]; omega))))) (hE.out.tab.bel (by (repeat (first | (with_reducible exact Below.refl _ _) | (with_reducible assumption) | (with_reducible refine Later.out _ ?_) | (with_reducible refine bel_alloc ?_ _) | (with_reducible refine bel_drew ?_) | (with_reducible refine bel_drewN ?_ _) | (with_reducible refine bel_set ?_ ?_ _) | (with_reducible refine After.out _ ?_ ?_) | (dsimp only; omega) | omega | (simp only [World.size_alloc, World.size_setCell, World.size_drew]; omega)))))).mono ?_
      rintro e w' ⟨rfl, y6, rfl⟩
      have hsy6 := y6.bel.size
      (try simp only [World.size_alloc, World.size_setCell, World.size_drew] at hsy6)
      go_wp2_with fail
      go_ret
      exact .mk rfl (by (repeat (first | (with_reducible exact Below.refl _ _) | (with_reducible assumption) | (with_reducible refine Later.out _ ?_) | (with_reducible refine bel_alloc ?_ _) | (with_reducible refine bel_drew ?_) | (with_reducible refine bel_drewN ?_ _) | (with_reducible refine bel_set ?_ ?_ _) | (with_reducible refine After.out _ ?_ ?_) | (dsimp only; omega) | omega | (simp only [World.size_alloc, World.size_setCell, World.size_drew]; omega))))
    · skip
      go_wp2_with fail
      with_reducible refine (CB.out _ (hE.out.mx.bel (by (repeat (first | (with_reducible exact Below.refl _ _) | (with_reducible assumption) | (with_reducible refine Later.out _ ?_) | (with_reducible refine bel_alloc ?_ _) | (with_reducible refine bel_drew ?_) | (with_reducible refine bel_drewN ?_ _) | (with_reducible refine bel_set ?_ ?_ _) | (with_reducible refine After.out _ ?_ ?_) | (dsimp only; omega) | omega | (simp only [World.size_alloc, World.size_setCell, World.size_drew]; omega)))))).mono ?_
      rintro e w' ⟨rfl, y5, rfl⟩
      have hsy5 := y5.bel.size
      (try simp only [World.size_alloc, World.size_setCell, World.size_drew] at hsy5)
      go_wp2_with fail
      go_ret
      exact .mk rfl (by (repeat (first | (with_reducible exact Below.refl _ _) | (with_reducible assumption) | (with_reducible refine Later.out _ ?_) | (with_reducible refine bel_alloc ?_ _) | (with_reducible refine bel_drew ?_) | (with_reducible refine bel_drewN ?_ _) | (with_reducible refine bel_set ?_ ?_ _) | (with_reducible refine After.out _ ?_ ?_) | (dsimp only; omega) | omega | (simp only [World.size_alloc, World.size_setCell, World.size_drew]; omega))))
  · obtain ⟨-, rfl, g1, g2, g3⟩ := hTx.out rfl
    have RB := fun w hE => read_any T w g3 hE
    rw [g1, g2] at RB
    replace RB := Lib.hid RB
    clear g1 g2 g3
    rcases hJ with rfl | rfl
    · obtain ⟨e1, e2⟩ := hR0.out rfl
      have RA' := RA.out
      rw [e1, e2] at RA'
      replace RA' := Lib.hid RA'
      clear e1 e2
      go_wp2_with fail
      with_reducible refine (CB.out _ (hE.out.mx.bel (by (repeat (first | (with_reducible exact Below.refl _ _) | (with_reducible assumption) | (with_reducible refine Later.out _ ?_) | (with_reducible refine bel_alloc ?_ _) | (with_reducible refine bel_drew ?_) | (with_reducible refine bel_drewN ?_ _) | (with_reducible refine bel_set ?_ ?_ _) | (with_reducible refine After.out _ ?_ ?_) | (dsimp only; omega) | omega | (simp only [World.size_alloc, World.size_setCell, World.size_drew]; omega)))))).mono ?_
      rintro e w' ⟨rfl, y5, rfl⟩
      have hsy5 := y5.bel.size
      (try simp only [World.size_alloc, World.size_setCell, World.size_drew] at hsy5)
      go_wp2_with fail
      with_reducible refine (RA'.out _ (hE.out.mx.bel (by (repeat (first | (with_reducible exact Below.refl _ _) | (with_reducible assumption) | (with_reducible refine Later.out _ ?_) | (with_reducible refine bel_alloc ?_ _) | (with_reducible refine bel_drew ?_) | (with_reducible refine bel_drewN ?_ _) | (with_reducible refine bel_set ?_ ?_ _) | (with_reducible refine After.out _ ?_ ?_) | (dsimp only; omega) | omega | (simp only [World.size_alloc, World.size_setCell, World.size_drew]; omega))))) (hE.out.tab.bel (by (repeat (first | (with_reducible exact Below.refl _ _) | (with_reducible assumption) | (with_reducible refine Later.out _ ?_) | (with_reducible refine bel_alloc ?_ _) | (with_reducible refine bel_drew ?_) | (with_reducible refine bel_drewN ?_ _) | (with_reducible refine bel_set ?_ ?_ _) | (with_reducible refine After.out _ ?_ ?_) | (dsimp only; omega) | omega | (simp only [World.size_alloc, World.size_setCell, World.size_drew]; omega)))))).mono ?_
      rintro e w' ⟨rfl, y6, rfl⟩
      have hsy6 := y6.bel.size
      (try simp only [World.size_alloc, World.size_setCell, World.size_drew] at hsy6)
      go_wp2_with fail
      with_reducible refine (RB.out _ (hE.out.bel (by (repeat (first | (with_reducible exact Below.refl _ _) | (with_reducible assumption) | (with_reducible refine Later.out _ ?_) | (with_reducible refine bel_alloc ?_ _) | (with_reducible refine bel_drew ?_) | (with_reducible refine bel_drewN ?_ _) | (with_reducible refine bel_set ?_ ?_ _) | (with_reducible refine After.out _ ?_ ?_) | (dsimp only; omega) | omega | (simp only [World.size_alloc, World.size_setCell, World.size_drew]; omega)))))).mono ?_
      rintro e w' ⟨rfl, y7, rfl⟩
      have hsy7 := y7.bel.size
      (try simp only [World.size_alloc, World.size_setCell, World.size_drew] at hsy7)
      go_wp2_with fail
      go_ret
      exact .mk rfl (by (repeat (first | (with_reducible exact Below.refl _ _) | (with_reducible assumption) | (with_reducible refine Later.out _ ?_) | (with_reducible refine bel_alloc ?_ _) | (with_reducible refine bel_drew ?_) | (with_reducible refine bel_drewN ?_ _) | (with_reducible refine bel_set ?_ ?_ _) | (with_reducible refine After.out _ ?_ ?_) | (dsimp only; omega) | omega | (simp only [World.size_alloc, World.size_setCell, World.size_drew]; omega))))
    · skip
      go_wp2_with fail
      with_reducible refine (CB.out _ (hE.out.mx.bel (by (repeat (first | (with_reducible exact Below.refl _ _) | (with_reducible assumption) | (with_reducible refine Later.out _ ?_) | (with_reducible refine bel_alloc ?_ _) | (with_reducible refine bel_drew ?_) | (with_reducible refine bel_drewN ?_ _) | (with_reducible refine bel_set ?_ ?_ _) | (with_reducible refine After.out _ ?_ ?_) | (dsimp only; omega) | omega | (simp only [World.size_alloc, World.size_setCell, World.size_drew]; omega)))))).mono ?_
      rintro e w' ⟨rfl, y5, rfl⟩
      have hsy5 := y5.bel.size
      (try simp only [World.size_alloc, World.size_setCell, World.size_drew] at hsy5)
      go_wp2_with fail
      with_reducible refine (RB.out _ (hE.out.bel (by (repeat (first | (with_reducible exact Below.refl _ _) | (with_reducible assumption) | (with_reducible refine Later.out _ ?_) | (with_reducible refine bel_alloc ?_ _) | (with_reducible refine bel_drew ?_) | (with_reducible refine bel_drewN ?_ _) | (with_reducible refine bel_set ?_ ?_ _) | (with_reducible refine After.out _ ?_ ?_) | (dsimp only; omega) | omega | (simp only [World.size_alloc, World.size_setCell, World.size_drew]; omega)))))).mono ?_
      rintro e w' ⟨rfl, y7, rfl⟩
      have hsy7 := y7.bel.size
      (try simp only [World.size_alloc, World.size_setCell, World.size_drew] at hsy7)
      go_wp2_with fail
      go_ret
      exact .mk rfl (by (repeat (first | (with_reducible exact Below.refl _ _) | (with_reducible assumption) | (with_reducible refine Later.out _ ?_) | (with_reducible refine bel_alloc ?_ _) | (with_reducible refine bel_drew ?_) | (with_reducible refine bel_drewN ?_ _) | (with_reducible refine bel_set ?_ ?_ _) | (with_reducible refine After.out _ ?_ ?_) | (dsimp only; omega) | omega | (simp only [World.size_alloc, World.size_setCell, World.size_drew]; omega))))
end Go.Proofs.YtfjlilpebhiogaaGreatDoor

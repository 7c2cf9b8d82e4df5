import Derived.Test.YtiiekgmdbadalaaDoorClaimB
/- The law IsFact. -/
set_option linter.unusedSimpArgs false
set_option linter.unusedVariables false
namespace Go.Proofs.YtiiekgmdbadalaaDoor
open Go.RowKit
/-- What is left of `left` behind `S`, -1 if nothing is. -/
def szR (S left : Int) : Int := if left - S < 0 then -1 else left - S
theorem szR_no {S left : Int} (h : left - S < 0) : szR S left = -1 := if_pos h
theorem szR_yes {S left : Int} (h : ¬ left - S < 0) : szR S left = left - S := if_neg h
def aB : ByteArray := ⟨#[97]⟩
def factS : ByteArray := ⟨#[102, 97, 99, 116]⟩
def factC (k : Int) (p v : ByteArray) (y : Int) : Clm := ⟨aB, k, p, v, y, y, 1⟩
def factC' (k : Int) (p v : ByteArray) (y : Int) : Clm := ⟨factS, k, p, v, y, y, 1⟩
theorem claimB_fact (k : Int) (p v : ByteArray) (y : Int) : claimB (factC' k p v y) = claimB (factC k p v y) := by
  have h1 : wordB aB = true := by decide +kernel
  have h2 : wordB factS = true := by decide +kernel
  have h3 : valueB (factC' k p v y) = valueB (factC k p v y) := rfl
  unfold claimB
  rw [h3]
  show (wordB factS && wordB p && valueB (factC k p v y) && spanB y y && inB 1 1 100) = (wordB aB && wordB p && valueB (factC k p v y) && spanB y y && inB 1 1 100)
  rw [h1, h2]
def factB (k : Int) (p v : ByteArray) (y : Int) : Bool := inB k 0 1 && claimB (factC k p v y)
section
variable (k : Int) (p v : ByteArray) (y left : Int) (w : World)
set_option maxHeartbeats 400000 in
theorem szFact_any (h1 : p.size ≤ maxLen) (h2 : v.size ≤ maxLen) (h3 : 0 ≤ left) (h4 : left ≤ 1048576) :
    Calls Tryd.prog 15 #[.agg #[.int .i64 k, .string p, .string v, .int .i64 y], .int .i64 left] w (Ret w (.int .i64 (szR (p.size + v.size) left))) := by
  unfold maxLen at h1 h2
  by_cases c1 : left - p.size < 0
  · have X := Lib.hid (szR_no (S := p.size + v.size) (left := left) (by omega))
    go_enter Tryd.func15, Tryd.ntmps15
    go_wp2_with fail
    go_ret
    exact .mk (by rw [X.out]; rfl) (by (repeat (first | (with_reducible exact Below.refl _ _) | (with_reducible assumption) | (with_reducible refine Later.out _ ?_) | (with_reducible refine bel_alloc ?_ _) | (with_reducible refine bel_drew ?_) | (with_reducible refine bel_drewN ?_ _) | (with_reducible refine bel_set ?_ ?_ _) | (with_reducible refine After.out _ ?_ ?_) | (dsimp only; omega) | omega | (simp only [World.size_alloc, World.size_setCell, World.size_drew]; omega))))
  by_cases c2 : left - p.size - v.size < 0
  · have X := Lib.hid (szR_no (S := p.size + v.size) (left := left) (by omega))
    go_enter Tryd.func15, Tryd.ntmps15
    go_wp2_with fail
    go_ret
    exact .mk (by rw [X.out]; rfl) (by (repeat (first | (with_reducible exact Below.refl _ _) | (with_reducible assumption) | (with_reducible refine Later.out _ ?_) | (with_reducible refine bel_alloc ?_ _) | (with_reducible refine bel_drew ?_) | (with_reducible refine bel_drewN ?_ _) | (with_reducible refine bel_set ?_ ?_ _) | (with_reducible refine After.out _ ?_ ?_) | (dsimp only; omega) | omega | (simp only [World.size_alloc, World.size_setCell, World.size_drew]; omega))))
  have X := Lib.hid (show szR (p.size + v.size) left = left - p.size - v.size by rw [szR_yes (by omega)]; omega)
  go_enter Tryd.func15, Tryd.ntmps15
  go_wp2_with fail
  go_ret
  exact .mk (by rw [X.out]; rfl) (by (repeat (first | (with_reducible exact Below.refl _ _) | (with_reducible assumption) | (with_reducible refine Later.out _ ?_) | (with_reducible refine bel_alloc ?_ _) | (with_reducible refine bel_drew ?_) | (with_reducible refine bel_drewN ?_ _) | (with_reducible refine bel_set ?_ ?_ _) | (with_reducible refine After.out _ ?_ ?_) | (dsimp only; omega) | omega | (simp only [World.size_alloc, World.size_setCell, World.size_drew]; omega))))
theorem toFact_any : Calls Tryd.prog 17 #[.agg #[.int .i64 k, .string p, .string v, .int .i64 y]] w (Ret w (.agg #[.int .i64 k, .string p, .string v, .int .i64 y])) := by
  go_enter Tryd.func17, Tryd.ntmps17
  go_wp2_with fail
  go_returns
  refine .mk rfl ?_
  (repeat (first | (with_reducible exact Below.refl _ _) | (with_reducible assumption) | (with_reducible refine Later.out _ ?_) | (with_reducible refine bel_alloc ?_ _) | (with_reducible refine bel_drew ?_) | (with_reducible refine bel_drewN ?_ _) | (with_reducible refine bel_set ?_ ?_ _) | (with_reducible refine After.out _ ?_ ?_) | (dsimp only; omega) | omega | (simp only [World.size_alloc, World.size_setCell, World.size_drew]; omega)))
theorem factClaim_any : Calls Tryd.prog 60 #[.agg #[.int .i64 k, .string p, .string v, .int .i64 y]] w (Ret w (clmV (factC k p v y))) := by
  go_enter Tryd.func60, Tryd.ntmps60
  go_wp2_with fail
  go_returns
  refine .mk rfl ?_
  (repeat (first | (with_reducible exact Below.refl _ _) | (with_reducible assumption) | (with_reducible refine Later.out _ ?_) | (with_reducible refine bel_alloc ?_ _) | (with_reducible refine bel_drew ?_) | (with_reducible refine bel_drewN ?_ _) | (with_reducible refine bel_set ?_ ?_ _) | (with_reducible refine After.out _ ?_ ?_) | (dsimp only; omega) | omega | (simp only [World.size_alloc, World.size_setCell, World.size_drew]; omega)))
theorem sFactClaim_any : Calls Tryd.prog 58 #[.agg #[.int .i64 k, .string p, .string v, .int .i64 y]] w (Ret w (clmV (factC' k p v y))) := by
  go_enter Tryd.func58, Tryd.ntmps58
  go_wp2_with fail
  go_returns
  refine .mk rfl ?_
  (repeat (first | (with_reducible exact Below.refl _ _) | (with_reducible assumption) | (with_reducible refine Later.out _ ?_) | (with_reducible refine bel_alloc ?_ _) | (with_reducible refine bel_drew ?_) | (with_reducible refine bel_drewN ?_ _) | (with_reducible refine bel_set ?_ ?_ _) | (with_reducible refine After.out _ ?_ ?_) | (dsimp only; omega) | omega | (simp only [World.size_alloc, World.size_setCell, World.size_drew]; omega)))
theorem factOk {k : Int} {p v : ByteArray} {y : Int} (h1 : p.size ≤ 1048576) (h2 : v.size ≤ 1048576) : ClmOk (factC k p v y) ∧ ClmOk (factC' k p v y) :=
  ⟨⟨show aB.size ≤ 1048576 by decide +kernel, h1, h2⟩, ⟨show factS.size ≤ 1048576 by decide +kernel, h1, h2⟩⟩
set_option maxHeartbeats 400000 in
theorem isFact_any (h1 : p.size ≤ 1048576) (h2 : v.size ≤ 1048576) (hx : Max w) :
    Calls Tryd.prog 18 #[.agg #[.int .i64 k, .string p, .string v, .int .i64 y]] w (Ret w (.bool (factB k p v y))) := by
  have OK := Lib.hid (factOk (k := k) (y := y) h1 h2)
  replace hx := Lib.hid hx
  cases c1 : inB k 0 1
  · have X := Lib.hid (show factB k p v y = false by simp [factB, c1])
    go_enter Tryd.func18, Tryd.ntmps18
    go_wp2_with fail
    with_reducible refine (within_b _ c1).mono ?_
    rintro e w' ⟨rfl, y1, rfl⟩
    have hsy1 := y1.bel.size
    (try simp only [World.size_alloc, World.size_setCell, World.size_drew] at hsy1)
    go_wp2_with fail
    go_ret
    exact .mk (by rw [X.out]; rfl) (by (repeat (first | (with_reducible exact Below.refl _ _) | (with_reducible assumption) | (with_reducible refine Later.out _ ?_) | (with_reducible refine bel_alloc ?_ _) | (with_reducible refine bel_drew ?_) | (with_reducible refine bel_drewN ?_ _) | (with_reducible refine bel_set ?_ ?_ _) | (with_reducible refine After.out _ ?_ ?_) | (dsimp only; omega) | omega | (simp only [World.size_alloc, World.size_setCell, World.size_drew]; omega))))
  · have X := Lib.hid (show factB k p v y = claimB (factC k p v y) by simp [factB, c1])
    go_enter Tryd.func18, Tryd.ntmps18
    go_wp2_with fail
    with_reducible refine (within_b _ c1).mono ?_
    rintro e w' ⟨rfl, y1, rfl⟩
    have hsy1 := y1.bel.size
    (try simp only [World.size_alloc, World.size_setCell, World.size_drew] at hsy1)
    go_wp2_with fail
    with_reducible refine (factClaim_any _ _ _ _ _).mono ?_
    rintro e w' ⟨rfl, y2, rfl⟩
    have hsy2 := y2.bel.size
    (try simp only [World.size_alloc, World.size_setCell, World.size_drew] at hsy2)
    go_wp2_with fail
    with_reducible refine (isClaim_any (factC k p v y) _ OK.out.1 (hx.out.bel (by (repeat (first | (with_reducible exact Below.refl _ _) | (with_reducible assumption) | (with_reducible refine Later.out _ ?_) | (with_reducible refine bel_alloc ?_ _) | (with_reducible refine bel_drew ?_) | (with_reducible refine bel_drewN ?_ _) | (with_reducible refine bel_set ?_ ?_ _) | (with_reducible refine After.out _ ?_ ?_) | (dsimp only; omega) | omega | (simp only [World.size_alloc, World.size_setCell, World.size_drew]; omega)))))).mono ?_
    rintro e w' ⟨rfl, y3, rfl⟩
    have hsy3 := y3.bel.size
    (try simp only [World.size_alloc, World.size_setCell, World.size_drew] at hsy3)
    go_wp2_with fail
    go_ret
    exact .mk (by rw [X.out]; rfl) (by (repeat (first | (with_reducible exact Below.refl _ _) | (with_reducible assumption) | (with_reducible refine Later.out _ ?_) | (with_reducible refine bel_alloc ?_ _) | (with_reducible refine bel_drew ?_) | (with_reducible refine bel_drewN ?_ _) | (with_reducible refine bel_set ?_ ?_ _) | (with_reducible refine After.out _ ?_ ?_) | (dsimp only; omega) | omega | (simp only [World.size_alloc, World.size_setCell, World.size_drew]; omega))))
set_option maxHeartbeats 400000 in
theorem sIsFact_any (h1 : p.size ≤ 1048576) (h2 : v.size ≤ 1048576) :
    Calls Tryd.prog 16 #[.agg #[.int .i64 k, .string p, .string v, .int .i64 y]] w (Ret w (.bool (factB k p v y))) := by
  have OK := Lib.hid (factOk (k := k) (y := y) h1 h2)
  have hc := claimB_fact k p v y
  have hC := fun w => sIsClaim_any (factC' k p v y) w OK.out.2
  rw [hc] at hC
  replace hC := Lib.hid hC
  clear hc
  by_cases k0 : k = 0
  · have X := Lib.hid (show factB k p v y = claimB (factC k p v y) by simp [factB, k0, inB])
    subst k0
    go_enter Tryd.func16, Tryd.ntmps16
    go_wp2_with fail
    with_reducible refine (sFactClaim_any _ _ _ _ _).mono ?_
    rintro e w' ⟨rfl, y2, rfl⟩
    have hsy2 := y2.bel.size
    (try simp only [World.size_alloc, World.size_setCell, World.size_drew] at hsy2)
    go_wp2_with fail
    with_reducible refine (hC.out _).mono ?_
    rintro e w' ⟨rfl, y3, rfl⟩
    have hsy3 := y3.bel.size
    (try simp only [World.size_alloc, World.size_setCell, World.size_drew] at hsy3)
    go_wp2_with fail
    go_ret
    exact .mk (by rw [X.out]; rfl) (by (repeat (first | (with_reducible exact Below.refl _ _) | (with_reducible assumption) | (with_reducible refine Later.out _ ?_) | (with_reducible refine bel_alloc ?_ _) | (with_reducible refine bel_drew ?_) | (with_reducible refine bel_drewN ?_ _) | (with_reducible refine bel_set ?_ ?_ _) | (with_reducible refine After.out _ ?_ ?_) | (dsimp only; omega) | omega | (simp only [World.size_alloc, World.size_setCell, World.size_drew]; omega))))
  by_cases k1 : k = 1
  · have X := Lib.hid (show factB k p v y = claimB (factC k p v y) by simp [factB, k1, inB])
    subst k1
    clear k0
    go_enter Tryd.func16, Tryd.ntmps16
    go_wp2_with fail
    with_reducible refine (sFactClaim_any _ _ _ _ _).mono ?_
    rintro e w' ⟨rfl, y2, rfl⟩
    have hsy2 := y2.bel.size
    (try simp only [World.size_alloc, World.size_setCell, World.size_drew] at hsy2)
    go_wp2_with fail
    with_reducible refine (hC.out _).mono ?_
    rintro e w' ⟨rfl, y3, rfl⟩
    have hsy3 := y3.bel.size
    (try simp only [World.size_alloc, World.size_setCell, World.size_drew] at hsy3)
    go_wp2_with fail
    go_ret
    exact .mk (by rw [X.out]; rfl) (by (repeat (first | (with_reducible exact Below.refl _ _) | (with_reducible assumption) | (with_reducible refine Later.out _ ?_) | (with_reducible refine bel_alloc ?_ _) | (with_reducible refine bel_drew ?_) | (with_reducible refine bel_drewN ?_ _) | (with_reducible refine bel_set ?_ ?_ _) | (with_reducible refine After.out _ ?_ ?_) | (dsimp only; omega) | omega | (simp only [World.size_alloc, World.size_setCell, World.size_drew]; omega))))
  have X := Lib.hid (show factB k p v y = false by
    have : inB k 0 1 = false := by
      rw [Bool.eq_false_iff]; intro h
      have := inB_iff.1 h
      omega
    simp [factB, this])
  have e0 : (k == 0) = false := by simp [k0]
  have e1 : (k == 1) = false := by simp [k1]
  clear k0 k1
  go_enter Tryd.func16, Tryd.ntmps16
  go_wp2_with fail
  go_ret
  exact .mk (by rw [X.out]; rfl) (by (repeat (first | (with_reducible exact Below.refl _ _) | (with_reducible assumption) | (with_reducible refine Later.out _ ?_) | (with_reducible refine bel_alloc ?_ _) | (with_reducible refine bel_drew ?_) | (with_reducible refine bel_drewN ?_ _) | (with_reducible refine bel_set ?_ ?_ _) | (with_reducible refine After.out _ ?_ ?_) | (dsimp only; omega) | omega | (simp only [World.size_alloc, World.size_setCell, World.size_drew]; omega))))
set_option maxHeartbeats 1000000 in
theorem lawIsFact_any (h1 : p.size ≤ maxLen) (h2 : v.size ≤ maxLen) (hx : Max w) :
    Calls Tryd.prog 3 #[.agg #[.int .i64 k, .string p, .string v, .int .i64 y]] w (Ret w (.bool true)) := by
  have C1 := fun w => szFact_any k p v y 1048576 w h1 h2 (by omega) (by omega)
  by_cases hbig : (1048576 : Int) - (p.size + v.size) < 0
  · rw [szR_no hbig] at C1
    replace C1 := Lib.hid C1
    clear hx
    go_enter Tryd.func3, Tryd.ntmps3
    go_wp2_with fail
    with_reducible refine (C1.out _).mono ?_
    rintro e w' ⟨rfl, y0, rfl⟩
    have hsy0 := y0.bel.size
    (try simp only [World.size_alloc, World.size_setCell, World.size_drew] at hsy0)
    go_wp2_with fail
    go_ret
    exact .mk rfl (by (repeat (first | (with_reducible exact Below.refl _ _) | (with_reducible assumption) | (with_reducible refine Later.out _ ?_) | (with_reducible refine bel_alloc ?_ _) | (with_reducible refine bel_drew ?_) | (with_reducible refine bel_drewN ?_ _) | (with_reducible refine bel_set ?_ ?_ _) | (with_reducible refine After.out _ ?_ ?_) | (dsimp only; omega) | omega | (simp only [World.size_alloc, World.size_setCell, World.size_drew]; omega))))
  · rw [szR_yes hbig] at C1
    replace C1 := Lib.hid C1
    have h1 : p.size ≤ 1048576 := by omega
    have h2 : v.size ≤ 1048576 := by omega
    replace hx := Lib.hid hx
    have CI := fun w hx => isFact_any k p v y w h1 h2 hx
    have CS := fun w => sIsFact_any k p v y w h1 h2
    obtain ⟨B, hB⟩ : ∃ B, factB k p v y = B := ⟨_, rfl⟩
    simp only [hB] at CI CS
    replace CI := Lib.hid CI
    replace CS := Lib.hid CS
    clear hB
    go_enter Tryd.func3, Tryd.ntmps3
    go_wp2_with fail
    with_reducible refine (C1.out _).mono ?_
    rintro e w' ⟨rfl, y0, rfl⟩
    have hsy0 := y0.bel.size
    (try simp only [World.size_alloc, World.size_setCell, World.size_drew] at hsy0)
    go_wp2_with fail
    with_reducible refine (toFact_any _ _ _ _ _).mono ?_
    rintro e w' ⟨rfl, y1, rfl⟩
    have hsy1 := y1.bel.size
    (try simp only [World.size_alloc, World.size_setCell, World.size_drew] at hsy1)
    go_wp2_with fail
    with_reducible refine (CS.out _).mono ?_
    rintro e w' ⟨rfl, y2, rfl⟩
    have hsy2 := y2.bel.size
    (try simp only [World.size_alloc, World.size_setCell, World.size_drew] at hsy2)
    go_wp2_with fail
    with_reducible refine (toFact_any _ _ _ _ _).mono ?_
    rintro e w' ⟨rfl, y3, rfl⟩
    have hsy3 := y3.bel.size
    (try simp only [World.size_alloc, World.size_setCell, World.size_drew] at hsy3)
    go_wp2_with fail
    with_reducible refine (CI.out _ (hx.out.bel (by (repeat (first | (with_reducible exact Below.refl _ _) | (with_reducible assumption) | (with_reducible refine Later.out _ ?_) | (with_reducible refine bel_alloc ?_ _) | (with_reducible refine bel_drew ?_) | (with_reducible refine bel_drewN ?_ _) | (with_reducible refine bel_set ?_ ?_ _) | (with_reducible refine After.out _ ?_ ?_) | (dsimp only; omega) | omega | (simp only [World.size_alloc, World.size_setCell, World.size_drew]; omega)))))).mono ?_
    rintro e w' ⟨rfl, y4, rfl⟩
    have hsy4 := y4.bel.size
    (try simp only [World.size_alloc, World.size_setCell, World.size_drew] at hsy4)
    go_wp2_with fail
    go_ret
    exact .mk rfl (by (repeat (first | (with_reducible exact Below.refl _ _) | (with_reducible assumption) | (with_reducible refine Later.out _ ?_) | (with_reducible refine bel_alloc ?_ _) | (with_reducible refine bel_drew ?_) | (with_reducible refine bel_drewN ?_ _) | (with_reducible refine bel_set ?_ ?_ _) | (with_reducible refine After.out _ ?_ ?_) | (dsimp only; omega) | omega | (simp only [World.size_alloc, World.size_setCell, World.size_drew]; omega))))
end
end Go.Proofs.YtiiekgmdbadalaaDoor

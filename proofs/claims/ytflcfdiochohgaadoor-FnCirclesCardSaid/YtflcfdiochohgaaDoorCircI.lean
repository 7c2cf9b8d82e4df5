import Derived.Test.YtflcfdiochohgaaDoorAbt
import Derived.Test.YtflcfdiochohgaaDoorPackB
/- CircleIn, both sides. -/
set_option linter.unusedSimpArgs false
set_option linter.unusedVariables false
namespace Go.Proofs.YtflcfdiochohgaaDoor
open Go.RowKit
noncomputable def circK (L : List Clm) (p : ByteArray) (y : Int) : Int := if aboutZ L p y = 0 then (if (circZ L y p).isSome then 0 else 4) else aboutZ L p y
noncomputable def circR (L : List Clm) (p : ByteArray) (y : Int) : List ByteArray := if aboutZ L p y = 0 then (circZ L y p).getD [] else []
theorem circ_len {f : ByteArray → Option ByteArray} {place : ByteArray} : ∀ {n : Nat} {out : List ByteArray} {p : ByteArray} {r : List ByteArray}, circ f place n out p = some r → r.length ≤ out.length + n
  | 0, _, _, _, h => by cases h
  | n + 1, out, p, r, h => by
    rw [circ] at h
    split at h
    · cases h
    · split at h
      · obtain rfl := Option.some.inj h
        simp
      · split at h
        · cases h
        · have := circ_len h
          simp at this
          omega
theorem circR_len (L : List Clm) (p : ByteArray) (y : Int) {n : Nat} (hn : L.length = n) (hm : n ≤ 1048576) : (circR L p y).length ≤ 1048576 := by
  unfold circR
  split
  · rename_i h
    have h12 := len_of_claims (aboutZ_claims h).1
    cases hz : circZ L y p with
    | none => simp
    | some r =>
      have := circ_len hz
      simp at this ⊢
      omega
  · simp
section
variable (L : List Clm) (p : ByteArray) (y : Int) (a : Option Addr) (n c : Nat) (w : World) (hn : L.length = n) (hm : n ≤ 1048576) (hr : Row w a (clmsCells L)) (ok : ∀ c ∈ L, ClmOk c) (hp : p.size ≤ 1048576)
include hn hm hr ok hp
set_option maxHeartbeats 1000000 in
theorem circ_impl (hx : Max w) : Calls Tryd.prog 7 #[.slice a n c, .string p, .int .i64 y] w (RetOwn w 9 1 (circR L p y).length (strCells (circR L p y)) fun v => .tuple #[v, .int .i64 (circK L p y)]) := by
  have C1 := aboutCode_any L p y a n c w hn hm hr ok hp hx
  by_cases h : aboutZ L p y = 0
  · obtain ⟨hcl, hpw⟩ := aboutZ_claims h
    have C2 := fun w hr => circleIn_any L y p a n c w hn hm hr
    cases hZ : circZ L y p with
    | none =>
      rw [show circR L p y = [] by simp [circR, h, hZ], show circK L p y = 4 by simp [circK, h, hZ]]
      rw [h] at C1
      rw [hZ] at C2
      replace C1 := Lib.hid C1
      replace C2 := Lib.hid C2
      replace hr := Lib.hid hr
      clear ok h hcl hpw hZ hx
      go_enter Tryd.func7, Tryd.ntmps7
      go_wp2_with fail
      with_reducible refine (C1.out).mono ?_
      rintro e w' ⟨rfl, y1, rfl⟩
      have hsy1 := y1.bel.size
      (try simp only [World.size_alloc, World.size_setCell, World.size_drew] at hsy1)
      go_wp2_with fail
      with_reducible refine (C2.out _ (hr.out.bel (by (repeat (first | (with_reducible exact Below.refl _ _) | (with_reducible assumption) | (with_reducible refine Later.out _ ?_) | (with_reducible refine bel_alloc ?_ _) | (with_reducible refine bel_drew ?_) | (with_reducible refine bel_drewN ?_ _) | (with_reducible refine bel_set ?_ ?_ _) | (with_reducible refine After.out _ ?_ ?_) | (dsimp only; omega) | omega | (simp only [World.size_alloc, World.size_setCell, World.size_drew]; omega)))))).mono ?_
      rintro e w' ⟨a2, n2, c2, r2, rfl, -, -, -, y2, rfl⟩
      have hs2 := y2.bel.size
      (try simp only [World.size_alloc, World.size_setCell, World.size_drew] at hs2)
      go_wp2_with fail
      refine bodyPost_ret (by simp [results, Tryd.results7, go_sem, ↓IntWalk.iteOmega, *]; try rfl) rfl ?_
      refine RetOwn.mk (.slice none 0 0) rfl (World.ownsRow_nil _ _ _ _) ?_
      (repeat (first | (with_reducible exact Below.refl _ _) | (with_reducible assumption) | (with_reducible refine Later.out _ ?_) | (with_reducible refine bel_alloc ?_ _) | (with_reducible refine bel_drew ?_) | (with_reducible refine bel_drewN ?_ _) | (with_reducible refine bel_set ?_ ?_ _) | (with_reducible refine After.out _ ?_ ?_) | (dsimp only; omega) | omega | (simp only [World.size_alloc, World.size_setCell, World.size_drew]; omega)))
    | some r =>
      rw [show circR L p y = r by simp [circR, h, hZ], show circK L p y = 0 by simp [circK, h, hZ]]
      rw [h] at C1
      rw [hZ] at C2
      replace C1 := Lib.hid C1
      replace C2 := Lib.hid C2
      replace hr := Lib.hid hr
      clear ok h hcl hpw hZ hx
      go_enter Tryd.func7, Tryd.ntmps7
      go_wp2_with fail
      with_reducible refine (C1.out).mono ?_
      rintro e w' ⟨rfl, y1, rfl⟩
      have hsy1 := y1.bel.size
      (try simp only [World.size_alloc, World.size_setCell, World.size_drew] at hsy1)
      go_wp2_with fail
      with_reducible refine (C2.out _ (hr.out.bel (by (repeat (first | (with_reducible exact Below.refl _ _) | (with_reducible assumption) | (with_reducible refine Later.out _ ?_) | (with_reducible refine bel_alloc ?_ _) | (with_reducible refine bel_drew ?_) | (with_reducible refine bel_drewN ?_ _) | (with_reducible refine bel_set ?_ ?_ _) | (with_reducible refine After.out _ ?_ ?_) | (dsimp only; omega) | omega | (simp only [World.size_alloc, World.size_setCell, World.size_drew]; omega)))))).mono ?_
      rintro e w' ⟨a2, n2, c2, r2, rfl, hl2, hown, hs, y2, rfl⟩
      obtain rfl := hs _ rfl
      subst hl2
      have H2 := Lib.hid hown
      clear hown hs
      have hs2 := y2.bel.size
      (try simp only [World.size_alloc, World.size_setCell, World.size_drew] at hs2)
      go_wp2_with fail
      refine bodyPost_ret (by simp [results, Tryd.results7, go_sem, ↓IntWalk.iteOmega, *]; try rfl) rfl ?_
      refine RetOwn.mk _ rfl (own_mono H2.out ?_) ?_
      · ((try simp only [World.size_alloc, World.size_setCell, World.size_drew]); omega)
      · (repeat (first | (with_reducible exact Below.refl _ _) | (with_reducible assumption) | (with_reducible refine Later.out _ ?_) | (with_reducible refine bel_alloc ?_ _) | (with_reducible refine bel_drew ?_) | (with_reducible refine bel_drewN ?_ _) | (with_reducible refine bel_set ?_ ?_ _) | (with_reducible refine After.out _ ?_ ?_) | (dsimp only; omega) | omega | (simp only [World.size_alloc, World.size_setCell, World.size_drew]; omega)))
  · rw [show circR L p y = [] by simp [circR, h], show circK L p y = aboutZ L p y by simp [circK, h]]
    generalize aboutZ L p y = k at C1 h
    have hk : (k == 0) = false := by simpa using h
    have hk' : (k != 0) = true := by simpa using h
    replace C1 := Lib.hid C1
    clear ok hr hx
    go_enter Tryd.func7, Tryd.ntmps7
    go_wp2_with fail
    with_reducible refine (C1.out).mono ?_
    rintro e w' ⟨rfl, y1, rfl⟩
    have hsy1 := y1.bel.size
    (try simp only [World.size_alloc, World.size_setCell, World.size_drew] at hsy1)
    go_wp2_with fail
    refine bodyPost_ret (by simp [results, Tryd.results7, go_sem, ↓IntWalk.iteOmega, *]; try rfl) rfl ?_
    refine RetOwn.mk (.slice none 0 0) rfl (World.ownsRow_nil _ _ _ _) ?_
    (repeat (first | (with_reducible exact Below.refl _ _) | (with_reducible assumption) | (with_reducible refine Later.out _ ?_) | (with_reducible refine bel_alloc ?_ _) | (with_reducible refine bel_drew ?_) | (with_reducible refine bel_drewN ?_ _) | (with_reducible refine bel_set ?_ ?_ _) | (with_reducible refine After.out _ ?_ ?_) | (dsimp only; omega) | omega | (simp only [World.size_alloc, World.size_setCell, World.size_drew]; omega)))
set_option maxHeartbeats 1000000 in
theorem circ_spec : Calls Tryd.prog 8 #[.slice a n c, .string p, .int .i64 y] w (RetOwn w 9 1 (circR L p y).length (strCells (circR L p y)) fun v => .tuple #[v, .int .i64 (circK L p y)]) := by
  have C1 := sAboutCode_any L p y a n c w hn hm hr ok hp
  by_cases h : aboutZ L p y = 0
  · obtain ⟨hcl, hpw⟩ := aboutZ_claims h
    have C2 := fun w hr => sCircle_any L y p a n c w hn hm hr (named_of fun c hc => claim_of_claims hcl hc)
    cases hZ : circZ L y p with
    | none =>
      rw [show circR L p y = [] by simp [circR, h, hZ], show circK L p y = 4 by simp [circK, h, hZ]]
      rw [h] at C1
      rw [hZ] at C2
      replace C1 := Lib.hid C1
      replace C2 := Lib.hid C2
      replace hr := Lib.hid hr
      clear ok h hcl hpw hZ
      go_enter Tryd.func8, Tryd.ntmps8
      go_wp2_with fail
      with_reducible refine (C1.out).mono ?_
      rintro e w' ⟨rfl, y1, rfl⟩
      have hsy1 := y1.bel.size
      (try simp only [World.size_alloc, World.size_setCell, World.size_drew] at hsy1)
      go_wp2_with fail
      with_reducible refine (C2.out _ (hr.out.bel (by (repeat (first | (with_reducible exact Below.refl _ _) | (with_reducible assumption) | (with_reducible refine Later.out _ ?_) | (with_reducible refine bel_alloc ?_ _) | (with_reducible refine bel_drew ?_) | (with_reducible refine bel_drewN ?_ _) | (with_reducible refine bel_set ?_ ?_ _) | (with_reducible refine After.out _ ?_ ?_) | (dsimp only; omega) | omega | (simp only [World.size_alloc, World.size_setCell, World.size_drew]; omega)))))).mono ?_
      rintro e w' ⟨a2, n2, c2, r2, rfl, -, -, -, y2, rfl⟩
      have hs2 := y2.bel.size
      (try simp only [World.size_alloc, World.size_setCell, World.size_drew] at hs2)
      go_wp2_with fail
      refine bodyPost_ret (by simp [results, Tryd.results8, go_sem, ↓IntWalk.iteOmega, *]; try rfl) rfl ?_
      refine RetOwn.mk (.slice none 0 0) rfl (World.ownsRow_nil _ _ _ _) ?_
      (repeat (first | (with_reducible exact Below.refl _ _) | (with_reducible assumption) | (with_reducible refine Later.out _ ?_) | (with_reducible refine bel_alloc ?_ _) | (with_reducible refine bel_drew ?_) | (with_reducible refine bel_drewN ?_ _) | (with_reducible refine bel_set ?_ ?_ _) | (with_reducible refine After.out _ ?_ ?_) | (dsimp only; omega) | omega | (simp only [World.size_alloc, World.size_setCell, World.size_drew]; omega)))
    | some r =>
      rw [show circR L p y = r by simp [circR, h, hZ], show circK L p y = 0 by simp [circK, h, hZ]]
      rw [h] at C1
      rw [hZ] at C2
      replace C1 := Lib.hid C1
      replace C2 := Lib.hid C2
      replace hr := Lib.hid hr
      clear ok h hcl hpw hZ
      go_enter Tryd.func8, Tryd.ntmps8
      go_wp2_with fail
      with_reducible refine (C1.out).mono ?_
      rintro e w' ⟨rfl, y1, rfl⟩
      have hsy1 := y1.bel.size
      (try simp only [World.size_alloc, World.size_setCell, World.size_drew] at hsy1)
      go_wp2_with fail
      with_reducible refine (C2.out _ (hr.out.bel (by (repeat (first | (with_reducible exact Below.refl _ _) | (with_reducible assumption) | (with_reducible refine Later.out _ ?_) | (with_reducible refine bel_alloc ?_ _) | (with_reducible refine bel_drew ?_) | (with_reducible refine bel_drewN ?_ _) | (with_reducible refine bel_set ?_ ?_ _) | (with_reducible refine After.out _ ?_ ?_) | (dsimp only; omega) | omega | (simp only [World.size_alloc, World.size_setCell, World.size_drew]; omega)))))).mono ?_
      rintro e w' ⟨a2, n2, c2, r2, rfl, hl2, hown, hs, y2, rfl⟩
      obtain rfl := hs _ rfl
      subst hl2
      have H2 := Lib.hid hown
      clear hown hs
      have hs2 := y2.bel.size
      (try simp only [World.size_alloc, World.size_setCell, World.size_drew] at hs2)
      go_wp2_with fail
      refine bodyPost_ret (by simp [results, Tryd.results8, go_sem, ↓IntWalk.iteOmega, *]; try rfl) rfl ?_
      refine RetOwn.mk _ rfl (own_mono H2.out ?_) ?_
      · ((try simp only [World.size_alloc, World.size_setCell, World.size_drew]); omega)
      · (repeat (first | (with_reducible exact Below.refl _ _) | (with_reducible assumption) | (with_reducible refine Later.out _ ?_) | (with_reducible refine bel_alloc ?_ _) | (with_reducible refine bel_drew ?_) | (with_reducible refine bel_drewN ?_ _) | (with_reducible refine bel_set ?_ ?_ _) | (with_reducible refine After.out _ ?_ ?_) | (dsimp only; omega) | omega | (simp only [World.size_alloc, World.size_setCell, World.size_drew]; omega)))
  · rw [show circR L p y = [] by simp [circR, h], show circK L p y = aboutZ L p y by simp [circK, h]]
    generalize aboutZ L p y = k at C1 h
    have hk : (k == 0) = false := by simpa using h
    have hk' : (k != 0) = true := by simpa using h
    replace C1 := Lib.hid C1
    clear ok hr
    go_enter Tryd.func8, Tryd.ntmps8
    go_wp2_with fail
    with_reducible refine (C1.out).mono ?_
    rintro e w' ⟨rfl, y1, rfl⟩
    have hsy1 := y1.bel.size
    (try simp only [World.size_alloc, World.size_setCell, World.size_drew] at hsy1)
    go_wp2_with fail
    refine bodyPost_ret (by simp [results, Tryd.results8, go_sem, ↓IntWalk.iteOmega, *]; try rfl) rfl ?_
    refine RetOwn.mk (.slice none 0 0) rfl (World.ownsRow_nil _ _ _ _) ?_
    (repeat (first | (with_reducible exact Below.refl _ _) | (with_reducible assumption) | (with_reducible refine Later.out _ ?_) | (with_reducible refine bel_alloc ?_ _) | (with_reducible refine bel_drew ?_) | (with_reducible refine bel_drewN ?_ _) | (with_reducible refine bel_set ?_ ?_ _) | (with_reducible refine After.out _ ?_ ?_) | (dsimp only; omega) | omega | (simp only [World.size_alloc, World.size_setCell, World.size_drew]; omega)))
end
end Go.Proofs.YtflcfdiochohgaaDoor

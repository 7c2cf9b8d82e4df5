import Derived.Test.YtflcfdiochohgaaGreatDoorPackC
/- IsRepair and AreChosenConsistent, both sides. -/
set_option linter.unusedSimpArgs false
set_option linter.unusedVariables false
namespace Go.Proofs.YtflcfdiochohgaaGreatDoor
open Go.RowKit
noncomputable def repR (L : List Clm) (l : List Int) : Bool := if codeZ L l = 0 then repG L l else false
section
variable (L : List Clm) (l : List Int) (a : Option Addr) (n c : Nat) (a' : Option Addr) (n' c' : Nat) (w : World) (hn : L.length = n) (hm : n ≤ 1048576) (hn' : l.length = n') (hm' : n' ≤ 1048576) (hr : Row w a (clmsCells L)) (hr' : Row w a' (intCells l)) (ok : ∀ c ∈ L, ClmOk c)
include hn hn' hm hm' hr hr' ok
set_option maxHeartbeats 1000000 in
theorem rep_impl (hx : Max w) : Calls Tryz.prog 34 #[.slice a n c, .slice a' n' c'] w (Ret w (.tuple #[.bool (repR L l), .int .i64 (codeZ L l)])) := by
  have C1 := chosenCode_any L l a a' n c n' c' w hn hn' hm hm' hr hr' ok hx
  by_cases h : codeZ L l = 0
  · have hcl := code_claims h
    have hri := code_rises h
    have hwi := within_of_rises hri
    have h12 := len_of_claims hcl
    have hll := rises_len hri
    have C2 := fun w hr hr' => isRepair_any L l a a' n c n' c' w hn hn' hm hm' hr hr'
    rw [show repR L l = repG L l by simp [repR, h]]
    rw [h] at C1 ⊢
    replace C1 := Lib.hid C1
    replace C2 := Lib.hid C2
    replace hr := Lib.hid hr
    replace hr' := Lib.hid hr'
    clear ok h hcl hri hwi hx
    go_enter Tryz.func34, Tryz.ntmps34
    go_wp2_with fail
    with_reducible refine (C1.out).mono ?_
    rintro e w' ⟨rfl, y1, rfl⟩
    have hsy1 := y1.bel.size
    (try simp only [World.size_alloc, World.size_setCell, World.size_drew] at hsy1)
    go_wp2_with fail
    with_reducible refine (C2.out _ (hr.out.bel (by (repeat (first | (with_reducible exact Below.refl _ _) | (with_reducible assumption) | (with_reducible refine Later.out _ ?_) | (with_reducible refine bel_alloc ?_ _) | (with_reducible refine bel_drew ?_) | (with_reducible refine bel_drewN ?_ _) | (with_reducible refine bel_set ?_ ?_ _) | (with_reducible refine After.out _ ?_ ?_) | (dsimp only; omega) | omega | (simp only [World.size_alloc, World.size_setCell, World.size_drew]; omega))))) (hr'.out.bel (by (repeat (first | (with_reducible exact Below.refl _ _) | (with_reducible assumption) | (with_reducible refine Later.out _ ?_) | (with_reducible refine bel_alloc ?_ _) | (with_reducible refine bel_drew ?_) | (with_reducible refine bel_drewN ?_ _) | (with_reducible refine bel_set ?_ ?_ _) | (with_reducible refine After.out _ ?_ ?_) | (dsimp only; omega) | omega | (simp only [World.size_alloc, World.size_setCell, World.size_drew]; omega)))))).mono ?_
    rintro e w' ⟨rfl, y2, rfl⟩
    have hsy2 := y2.bel.size
    (try simp only [World.size_alloc, World.size_setCell, World.size_drew] at hsy2)
    go_wp2_with fail
    refine bodyPost_ret (by simp [results, Tryz.results34, go_sem, ↓IntWalk.iteOmega, *]; try rfl) rfl ?_
    exact .mk rfl (by (repeat (first | (with_reducible exact Below.refl _ _) | (with_reducible assumption) | (with_reducible refine Later.out _ ?_) | (with_reducible refine bel_alloc ?_ _) | (with_reducible refine bel_drew ?_) | (with_reducible refine bel_drewN ?_ _) | (with_reducible refine bel_set ?_ ?_ _) | (with_reducible refine After.out _ ?_ ?_) | (dsimp only; omega) | omega | (simp only [World.size_alloc, World.size_setCell, World.size_drew]; omega))))
  · rw [show repR L l = false by simp [repR, h]]
    generalize codeZ L l = k at C1 h
    have hk : (k == 0) = false := by simpa using h
    have hk' : (k != 0) = true := by simpa using h
    replace C1 := Lib.hid C1
    clear ok hr hr' hx
    go_enter Tryz.func34, Tryz.ntmps34
    go_wp2_with fail
    with_reducible refine (C1.out).mono ?_
    rintro e w' ⟨rfl, y1, rfl⟩
    have hsy1 := y1.bel.size
    (try simp only [World.size_alloc, World.size_setCell, World.size_drew] at hsy1)
    go_wp2_with fail
    refine bodyPost_ret (by simp [results, Tryz.results34, go_sem, ↓IntWalk.iteOmega, *]; try rfl) rfl ?_
    exact .mk rfl (by (repeat (first | (with_reducible exact Below.refl _ _) | (with_reducible assumption) | (with_reducible refine Later.out _ ?_) | (with_reducible refine bel_alloc ?_ _) | (with_reducible refine bel_drew ?_) | (with_reducible refine bel_drewN ?_ _) | (with_reducible refine bel_set ?_ ?_ _) | (with_reducible refine After.out _ ?_ ?_) | (dsimp only; omega) | omega | (simp only [World.size_alloc, World.size_setCell, World.size_drew]; omega))))
set_option maxHeartbeats 1000000 in
theorem rep_spec : Calls Tryz.prog 35 #[.slice a n c, .slice a' n' c'] w (Ret w (.tuple #[.bool (repR L l), .int .i64 (codeZ L l)])) := by
  have C1 := sCode_any L l a a' n c n' c' w hn hn' hm hm' hr hr' ok
  by_cases h : codeZ L l = 0
  · have hcl := code_claims h
    have hri := code_rises h
    have hwi := within_of_rises hri
    have h12 := len_of_claims hcl
    have hll := rises_len hri
    have C2 := fun w hr hr' => sRepair_any L l a a' n c n' c' w hn hn' hm hm' hr hr' (named_of fun c hc => claim_of_claims hcl hc)
    rw [show repR L l = repG L l by simp [repR, h]]
    rw [h] at C1 ⊢
    replace C1 := Lib.hid C1
    replace C2 := Lib.hid C2
    replace hr := Lib.hid hr
    replace hr' := Lib.hid hr'
    clear ok h hcl hri hwi
    go_enter Tryz.func35, Tryz.ntmps35
    go_wp2_with fail
    with_reducible refine (C1.out).mono ?_
    rintro e w' ⟨rfl, y1, rfl⟩
    have hsy1 := y1.bel.size
    (try simp only [World.size_alloc, World.size_setCell, World.size_drew] at hsy1)
    go_wp2_with fail
    with_reducible refine (C2.out _ (hr.out.bel (by (repeat (first | (with_reducible exact Below.refl _ _) | (with_reducible assumption) | (with_reducible refine Later.out _ ?_) | (with_reducible refine bel_alloc ?_ _) | (with_reducible refine bel_drew ?_) | (with_reducible refine bel_drewN ?_ _) | (with_reducible refine bel_set ?_ ?_ _) | (with_reducible refine After.out _ ?_ ?_) | (dsimp only; omega) | omega | (simp only [World.size_alloc, World.size_setCell, World.size_drew]; omega))))) (hr'.out.bel (by (repeat (first | (with_reducible exact Below.refl _ _) | (with_reducible assumption) | (with_reducible refine Later.out _ ?_) | (with_reducible refine bel_alloc ?_ _) | (with_reducible refine bel_drew ?_) | (with_reducible refine bel_drewN ?_ _) | (with_reducible refine bel_set ?_ ?_ _) | (with_reducible refine After.out _ ?_ ?_) | (dsimp only; omega) | omega | (simp only [World.size_alloc, World.size_setCell, World.size_drew]; omega)))))).mono ?_
    rintro e w' ⟨rfl, y2, rfl⟩
    have hsy2 := y2.bel.size
    (try simp only [World.size_alloc, World.size_setCell, World.size_drew] at hsy2)
    go_wp2_with fail
    refine bodyPost_ret (by simp [results, Tryz.results35, go_sem, ↓IntWalk.iteOmega, *]; try rfl) rfl ?_
    exact .mk rfl (by (repeat (first | (with_reducible exact Below.refl _ _) | (with_reducible assumption) | (with_reducible refine Later.out _ ?_) | (with_reducible refine bel_alloc ?_ _) | (with_reducible refine bel_drew ?_) | (with_reducible refine bel_drewN ?_ _) | (with_reducible refine bel_set ?_ ?_ _) | (with_reducible refine After.out _ ?_ ?_) | (dsimp only; omega) | omega | (simp only [World.size_alloc, World.size_setCell, World.size_drew]; omega))))
  · rw [show repR L l = false by simp [repR, h]]
    generalize codeZ L l = k at C1 h
    have hk : (k == 0) = false := by simpa using h
    have hk' : (k != 0) = true := by simpa using h
    replace C1 := Lib.hid C1
    clear ok hr hr'
    go_enter Tryz.func35, Tryz.ntmps35
    go_wp2_with fail
    with_reducible refine (C1.out).mono ?_
    rintro e w' ⟨rfl, y1, rfl⟩
    have hsy1 := y1.bel.size
    (try simp only [World.size_alloc, World.size_setCell, World.size_drew] at hsy1)
    go_wp2_with fail
    refine bodyPost_ret (by simp [results, Tryz.results35, go_sem, ↓IntWalk.iteOmega, *]; try rfl) rfl ?_
    exact .mk rfl (by (repeat (first | (with_reducible exact Below.refl _ _) | (with_reducible assumption) | (with_reducible refine Later.out _ ?_) | (with_reducible refine bel_alloc ?_ _) | (with_reducible refine bel_drew ?_) | (with_reducible refine bel_drewN ?_ _) | (with_reducible refine bel_set ?_ ?_ _) | (with_reducible refine After.out _ ?_ ?_) | (dsimp only; omega) | omega | (simp only [World.size_alloc, World.size_setCell, World.size_drew]; omega))))
end

section
variable (L : List Clm) (l : List Int) (a : Option Addr) (n c : Nat) (a' : Option Addr) (n' c' : Nat) (w : World) (hn : L.length = n) (hm : n ≤ 1048576) (hn' : l.length = n') (hm' : n' ≤ 1048576) (hr : Row w a (clmsCells L)) (hr' : Row w a' (intCells l)) (ok : ∀ c ∈ L, ClmOk c)
include hn hn' hm hm' hr hr' ok
end

end Go.Proofs.YtflcfdiochohgaaGreatDoor

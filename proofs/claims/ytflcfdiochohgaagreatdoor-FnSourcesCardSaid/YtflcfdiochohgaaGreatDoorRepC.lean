import Derived.Test.YtflcfdiochohgaaGreatDoorPackC
/- IsRepair and AreChosenConsistent, both sides. -/
set_option linter.unusedSimpArgs false
set_option linter.unusedVariables false
namespace Go.Proofs.YtflcfdiochohgaaGreatDoor
open Go.RowKit
section
variable (L : List Clm) (l : List Int) (a : Option Addr) (n c : Nat) (a' : Option Addr) (n' c' : Nat) (w : World) (hn : L.length = n) (hm : n ≤ 1048576) (hn' : l.length = n') (hm' : n' ≤ 1048576) (hr : Row w a (clmsCells L)) (hr' : Row w a' (intCells l)) (ok : ∀ c ∈ L, ClmOk c)
include hn hn' hm hm' hr hr' ok
end

noncomputable def chcR (L : List Clm) (l : List Int) : Bool := if codeZ L l = 0 then consB (pick L l) else false
section
variable (L : List Clm) (l : List Int) (a : Option Addr) (n c : Nat) (a' : Option Addr) (n' c' : Nat) (w : World) (hn : L.length = n) (hm : n ≤ 1048576) (hn' : l.length = n') (hm' : n' ≤ 1048576) (hr : Row w a (clmsCells L)) (hr' : Row w a' (intCells l)) (ok : ∀ c ∈ L, ClmOk c)
include hn hn' hm hm' hr hr' ok
set_option maxHeartbeats 1000000 in
theorem chc_impl (hx : Max w) : Calls Tryz.prog 72 #[.slice a n c, .slice a' n' c'] w (Ret w (.tuple #[.bool (chcR L l), .int .i64 (codeZ L l)])) := by
  have C1 := chosenCode_any L l a a' n c n' c' w hn hn' hm hm' hr hr' ok hx
  by_cases h : codeZ L l = 0
  · have hcl := code_claims h
    have hri := code_rises h
    have hwi := within_of_rises hri
    have h12 := len_of_claims hcl
    have hll := rises_len hri
    have hpl := pick_le L l
    have C2 := fun w hr hr' => chosen_any L l a a' n c n' c' w hn hn' hm hm' hr hr' hwi
    have C3 := fun a c w hc hr => areConsistent_any (pick L l) a (pick L l).length c w rfl (by omega) hc hr
    rw [show chcR L l = consB (pick L l) by simp [chcR, h]]
    rw [h] at C1 ⊢
    replace C1 := Lib.hid C1
    replace C2 := Lib.hid C2
    replace C3 := Lib.hid C3
    replace hr := Lib.hid hr
    replace hr' := Lib.hid hr'
    clear ok h hcl hri hwi hx
    go_enter Tryz.func72, Tryz.ntmps72
    go_wp2_with fail
    with_reducible refine (C1.out).mono ?_
    rintro e w' ⟨rfl, y1, rfl⟩
    have hsy1 := y1.bel.size
    (try simp only [World.size_alloc, World.size_setCell, World.size_drew] at hsy1)
    go_wp2_with fail
    with_reducible refine (C2.out _ (hr.out.bel (by (repeat (first | (with_reducible exact Below.refl _ _) | (with_reducible assumption) | (with_reducible refine Later.out _ ?_) | (with_reducible refine bel_alloc ?_ _) | (with_reducible refine bel_drew ?_) | (with_reducible refine bel_drewN ?_ _) | (with_reducible refine bel_set ?_ ?_ _) | (with_reducible refine After.out _ ?_ ?_) | (dsimp only; omega) | omega | (simp only [World.size_alloc, World.size_setCell, World.size_drew]; omega))))) (hr'.out.bel (by (repeat (first | (with_reducible exact Below.refl _ _) | (with_reducible assumption) | (with_reducible refine Later.out _ ?_) | (with_reducible refine bel_alloc ?_ _) | (with_reducible refine bel_drew ?_) | (with_reducible refine bel_drewN ?_ _) | (with_reducible refine bel_set ?_ ?_ _) | (with_reducible refine After.out _ ?_ ?_) | (dsimp only; omega) | omega | (simp only [World.size_alloc, World.size_setCell, World.size_drew]; omega)))))).mono ?_
    rintro e w' ⟨a2, c2, rfl, hown, y2, rfl⟩
    have hsy2 := y2.bel.size
    (try simp only [World.size_alloc, World.size_setCell, World.size_drew] at hsy2)
    have H2 := Lib.hid (Owns.of hown)
    clear hown
    go_wp2_with fail
    with_reducible refine (C3.out _ _ _ H2.out.cap H2.out.row).mono ?_
    rintro e w' ⟨rfl, y3, rfl⟩
    have hsy3 := y3.bel.size
    (try simp only [World.size_alloc, World.size_setCell, World.size_drew] at hsy3)
    go_wp2_with fail
    refine bodyPost_ret (by simp [results, Tryz.results72, go_sem, ↓IntWalk.iteOmega, *]; try rfl) rfl ?_
    exact .mk rfl (by (repeat (first | (with_reducible exact Below.refl _ _) | (with_reducible assumption) | (with_reducible refine Later.out _ ?_) | (with_reducible refine bel_alloc ?_ _) | (with_reducible refine bel_drew ?_) | (with_reducible refine bel_drewN ?_ _) | (with_reducible refine bel_set ?_ ?_ _) | (with_reducible refine After.out _ ?_ ?_) | (dsimp only; omega) | omega | (simp only [World.size_alloc, World.size_setCell, World.size_drew]; omega))))
  · rw [show chcR L l = false by simp [chcR, h]]
    generalize codeZ L l = k at C1 h
    have hk : (k == 0) = false := by simpa using h
    have hk' : (k != 0) = true := by simpa using h
    replace C1 := Lib.hid C1
    clear ok hr hr' hx
    go_enter Tryz.func72, Tryz.ntmps72
    go_wp2_with fail
    with_reducible refine (C1.out).mono ?_
    rintro e w' ⟨rfl, y1, rfl⟩
    have hsy1 := y1.bel.size
    (try simp only [World.size_alloc, World.size_setCell, World.size_drew] at hsy1)
    go_wp2_with fail
    refine bodyPost_ret (by simp [results, Tryz.results72, go_sem, ↓IntWalk.iteOmega, *]; try rfl) rfl ?_
    exact .mk rfl (by (repeat (first | (with_reducible exact Below.refl _ _) | (with_reducible assumption) | (with_reducible refine Later.out _ ?_) | (with_reducible refine bel_alloc ?_ _) | (with_reducible refine bel_drew ?_) | (with_reducible refine bel_drewN ?_ _) | (with_reducible refine bel_set ?_ ?_ _) | (with_reducible refine After.out _ ?_ ?_) | (dsimp only; omega) | omega | (simp only [World.size_alloc, World.size_setCell, World.size_drew]; omega))))
end

end Go.Proofs.YtflcfdiochohgaaGreatDoor

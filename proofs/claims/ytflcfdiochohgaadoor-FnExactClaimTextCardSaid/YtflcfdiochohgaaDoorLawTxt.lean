import Derived.Test.YtflcfdiochohgaaDoorClaimT
import Derived.Test.YtflcfdiochohgaaDoorPackAb
/- The law ClaimText. -/
set_option linter.unusedSimpArgs false
set_option linter.unusedVariables false
namespace Go.Proofs.YtflcfdiochohgaaDoor
open Go.RowKit
set_option maxHeartbeats 2000000 in
theorem lawTxt_any (c : Clm) (w : World) (hm : ClmMax c) (hx : Max w) (hT : Tab w) :
    Calls Tryd.prog 4 #[clmV c] w (Ret w (.bool true)) := by
  have C1 := fun w => szClaim_any c 1048576 w hm (by omega) (by omega)
  by_cases hbig : (1048576 : Int) - clmSz c < 0
  · rw [szR_no hbig] at C1
    replace C1 := Lib.hid C1
    clear hx hm hT
    go_enter Tryd.func4, Tryd.ntmps4
    go_wp2_with fail
    with_reducible refine (C1.out _).mono ?_
    rintro e w' ⟨rfl, y0, rfl⟩
    have hsy0 := y0.bel.size
    (try simp only [World.size_alloc, World.size_setCell, World.size_drew] at hsy0)
    go_wp2_with fail
    go_ret
    exact .mk rfl (by (repeat (first | (with_reducible exact Below.refl _ _) | (with_reducible assumption) | (with_reducible refine Later.out _ ?_) | (with_reducible refine bel_alloc ?_ _) | (with_reducible refine bel_drew ?_) | (with_reducible refine bel_drewN ?_ _) | (with_reducible refine bel_set ?_ ?_ _) | (with_reducible refine After.out _ ?_ ?_) | (dsimp only; omega) | omega | (simp only [World.size_alloc, World.size_setCell, World.size_drew]; omega))))
  · rw [szR_yes hbig] at C1
    replace C1 := Lib.hid C1
    have ok := clmOk_of hbig (by omega)
    replace hx := Lib.hid hx
    replace hT := Lib.hid hT
    have CI := fun w hx hT => txt_impl c w ok hx hT
    have CS := fun w => txt_spec c w ok
    obtain ⟨T, hTe⟩ : ∃ B, txtR c = B := ⟨_, rfl⟩
    obtain ⟨K, hK⟩ : ∃ B, txtK c = B := ⟨_, rfl⟩
    simp only [hTe, hK] at CI CS
    replace CI := Lib.hid CI
    replace CS := Lib.hid CS
    have hn := clmSz_nonneg c
    clear hTe hK hm ok
    go_enter Tryd.func4, Tryd.ntmps4
    go_wp2_with fail
    with_reducible refine (C1.out _).mono ?_
    rintro e w' ⟨rfl, y0, rfl⟩
    have hsy0 := y0.bel.size
    (try simp only [World.size_alloc, World.size_setCell, World.size_drew] at hsy0)
    go_wp2_with fail
    with_reducible refine (toClaim_any c _).mono ?_
    rintro e w' ⟨rfl, y1, rfl⟩
    have hsy1 := y1.bel.size
    (try simp only [World.size_alloc, World.size_setCell, World.size_drew] at hsy1)
    go_wp2_with fail
    with_reducible refine (CS.out _).mono ?_
    rintro e w' ⟨rfl, y2, rfl⟩
    have hsy2 := y2.bel.size
    (try simp only [World.size_alloc, World.size_setCell, World.size_drew] at hsy2)
    go_wp2_with fail
    with_reducible refine (toClaim_any c _).mono ?_
    rintro e w' ⟨rfl, y3, rfl⟩
    have hsy3 := y3.bel.size
    (try simp only [World.size_alloc, World.size_setCell, World.size_drew] at hsy3)
    go_wp2_with fail
    with_reducible refine (CI.out _ (hx.out.bel (by (repeat (first | (with_reducible exact Below.refl _ _) | (with_reducible assumption) | (with_reducible refine Later.out _ ?_) | (with_reducible refine bel_alloc ?_ _) | (with_reducible refine bel_drew ?_) | (with_reducible refine bel_drewN ?_ _) | (with_reducible refine bel_set ?_ ?_ _) | (with_reducible refine After.out _ ?_ ?_) | (dsimp only; omega) | omega | (simp only [World.size_alloc, World.size_setCell, World.size_drew]; omega))))) (hT.out.bel (by (repeat (first | (with_reducible exact Below.refl _ _) | (with_reducible assumption) | (with_reducible refine Later.out _ ?_) | (with_reducible refine bel_alloc ?_ _) | (with_reducible refine bel_drew ?_) | (with_reducible refine bel_drewN ?_ _) | (with_reducible refine bel_set ?_ ?_ _) | (with_reducible refine After.out _ ?_ ?_) | (dsimp only; omega) | omega | (simp only [World.size_alloc, World.size_setCell, World.size_drew]; omega)))))).mono ?_
    rintro e w' ⟨rfl, y4, rfl⟩
    have hsy4 := y4.bel.size
    (try simp only [World.size_alloc, World.size_setCell, World.size_drew] at hsy4)
    go_wp2_with fail
    go_ret
    exact .mk rfl (by (repeat (first | (with_reducible exact Below.refl _ _) | (with_reducible assumption) | (with_reducible refine Later.out _ ?_) | (with_reducible refine bel_alloc ?_ _) | (with_reducible refine bel_drew ?_) | (with_reducible refine bel_drewN ?_ _) | (with_reducible refine bel_set ?_ ?_ _) | (with_reducible refine After.out _ ?_ ?_) | (dsimp only; omega) | omega | (simp only [World.size_alloc, World.size_setCell, World.size_drew]; omega))))
end Go.Proofs.YtflcfdiochohgaaDoor

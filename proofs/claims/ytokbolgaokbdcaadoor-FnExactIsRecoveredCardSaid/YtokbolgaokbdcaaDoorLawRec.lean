import Derived.Test.YtokbolgaokbdcaaDoorDtx
/- The law IsRecovered. -/
set_option linter.unusedSimpArgs false
set_option linter.unusedVariables false
namespace Go.Proofs.YtokbolgaokbdcaaDoor
open Go.RowKit
set_option maxRecDepth 8000 in
set_option maxHeartbeats 4000000 in
theorem lawIsRecovered_any (T : List Rul) (l : List Int) (a : Option Addr) (n c : Nat) (b : Option Addr) (m d : Nat) (w : World) (hn : T.length = n) (hnc : n ≤ c) (hcm : c ≤ maxLen) (hr : RulesR w a T) (hmx : ∀ r ∈ T, RulIn r) (hl : l.length = m) (hmd : m ≤ d) (hdm : d ≤ maxLen) (hrl : Row w b (intCells l)) :
    Calls Tryd.prog 5 #[.slice a n c, .slice b m d] w (Ret w (.bool true)) := by
  subst hn hl
  have hm : T.length ≤ maxLen := by omega
  by_cases hbs : 1048576 < l.length
  · have hbs' : (1048576 : Int) < (l.length : Int) := by omega
    clear hr hmx hrl
    go_enter Tryd.func5, Tryd.ntmps5
    go_wp2_with fail
    go_ret
    exact .mk rfl (by (repeat (first | (with_reducible exact Below.refl _ _) | (with_reducible assumption) | (with_reducible refine Later.out _ ?_) | (with_reducible refine bel_alloc ?_ _) | (with_reducible refine bel_drew ?_) | (with_reducible refine bel_drewN ?_ _) | (with_reducible refine bel_set ?_ ?_ _) | (with_reducible refine After.out _ ?_ ?_) | (dsimp only; omega) | omega | (simp only [World.size_alloc, World.size_setCell, World.size_drew]; omega))))
  have hs1 : l.length ≤ 1048576 := by omega
  have hbs' : ¬ (1048576 : Int) < (l.length : Int) := by omega
  have C1 := fun w hr => szRuleS_any T a T.length c 1048576 w rfl hm hr hmx (by omega) (by omega)
  by_cases hbig : (1048576 : Int) - tabSz T < 0
  · rw [szR_no hbig] at C1
    replace C1 := Lib.hid (C1 w hr)
    clear hmx hr hrl
    go_enter Tryd.func5, Tryd.ntmps5
    go_wp2_with fail
    with_reducible refine (C1.out).mono ?_
    rintro e w' ⟨rfl, y0, rfl⟩
    have hsy0 := y0.bel.size
    (try simp only [World.size_alloc, World.size_setCell, World.size_drew] at hsy0)
    go_wp2_with fail
    go_ret
    exact .mk rfl (by (repeat (first | (with_reducible exact Below.refl _ _) | (with_reducible assumption) | (with_reducible refine Later.out _ ?_) | (with_reducible refine bel_alloc ?_ _) | (with_reducible refine bel_drew ?_) | (with_reducible refine bel_drewN ?_ _) | (with_reducible refine bel_set ?_ ?_ _) | (with_reducible refine After.out _ ?_ ?_) | (dsimp only; omega) | omega | (simp only [World.size_alloc, World.size_setCell, World.size_drew]; omega))))
  rw [szR_yes hbig] at C1
  replace C1 := Lib.hid (C1 w hr)
  have hlen := tabSz_len hbig (by omega)
  have hm1 : T.length ≤ 1048576 := by omega
  have ok := tabSz_ok hbig (by omega)
  have hnn := tabSz_nonneg T
  have hnz : ¬ ((1048576 : Int) - tabSz T < 0) := hbig
  obtain ⟨z, hz⟩ : ∃ z, (1048576 : Int) - tabSz T = z := ⟨_, rfl⟩
  rw [hz] at C1 hnz
  have CT := Lib.hid (fun w hr => toRuleS_any T a T.length c w rfl hm1 ok hr)
  have CN := Lib.hid (fun w hr => toInt64S_any l b l.length d w rfl hs1 hr)
  have CQ := Lib.hid (fun a c a' c' w hr hr' => eqRuleS_same T a a' T.length c T.length c' w rfl rfl hm1 ok hr hr')
  have CE := Lib.hid (fun a c a' c' w hr hr' => eqInt64S_same (l := l) (a := a) (c := c) (a' := a') (c' := c') (n := l.length) (n' := l.length) (w := w) rfl rfl hs1 hs1 hr hr')
  have CS := fun a c b d w hbd hdm hr hr' => rec_spec T l a b T.length c l.length d w rfl hm1 ok rfl hs1 hbd hdm hr hr'
  have CI := fun a c b d w hnc hcm hbd hdm hr hr' => rec_impl T l a b T.length c l.length d w rfl hm1 hnc hcm ok rfl hs1 hbd hdm hr hr'
  obtain ⟨p, hp⟩ : ∃ p, irB T l = p := ⟨_, rfl⟩
  obtain ⟨q, hq⟩ : ∃ q, irC T l = q := ⟨_, rfl⟩
  simp only [hp, hq] at CS CI
  replace CS := Lib.hid CS
  replace CI := Lib.hid CI
  replace hr := Lib.hid hr
  replace hrl := Lib.hid hrl
  clear hmx ok hbig hz hbs hlen hnn hp hq
  go_enter Tryd.func5, Tryd.ntmps5
  go_wp2_with fail
  with_reducible refine (C1.out).mono ?_
  rintro e w' ⟨rfl, y0, rfl⟩
  have hsy0 := y0.bel.size
  (try simp only [World.size_alloc, World.size_setCell, World.size_drew] at hsy0)
  go_wp2_with fail
  with_reducible refine (CT.out _ (hr.out.bel (by (repeat (first | (with_reducible exact Below.refl _ _) | (with_reducible assumption) | (with_reducible refine Later.out _ ?_) | (with_reducible refine bel_alloc ?_ _) | (with_reducible refine bel_drew ?_) | (with_reducible refine bel_drewN ?_ _) | (with_reducible refine bel_set ?_ ?_ _) | (with_reducible refine After.out _ ?_ ?_) | (dsimp only; omega) | omega | (simp only [World.size_alloc, World.size_setCell, World.size_drew]; omega)))))).mono ?_
  rintro e w' ⟨g1, c1, vs1, rfl, hg1, hot, y1, rfl⟩
  have hsy1 := y1.bel.size
  (try simp only [World.size_alloc, World.size_setCell, World.size_drew] at hsy1 hg1)
  have O1 := Lib.hid hot
  clear hot
  go_wp2_with fail
  with_reducible refine (CN.out _ (hrl.out.bel (by (repeat (first | (with_reducible exact Below.refl _ _) | (with_reducible assumption) | (with_reducible refine Later.out _ ?_) | (with_reducible refine bel_alloc ?_ _) | (with_reducible refine bel_drew ?_) | (with_reducible refine bel_drewN ?_ _) | (with_reducible refine bel_set ?_ ?_ _) | (with_reducible refine After.out _ ?_ ?_) | (dsimp only; omega) | omega | (simp only [World.size_alloc, World.size_setCell, World.size_drew]; omega)))))).mono ?_
  rintro e w' ⟨a2, c2, rfl, hown, y2, rfl⟩
  have hsy2 := y2.bel.size
  (try simp only [World.size_alloc, World.size_setCell, World.size_drew] at hsy2)
  have O2 := Lib.hid (Owns.of hown)
  clear hown
  have hcap2 := Lib.hid (ownsRow_cap O2.out.own)
  go_wp2_with fail
  with_reducible refine (CS.out _ _ _ _ _ hcap2.out.1 hcap2.out.2 (O1.out.rules.bel (by (repeat (first | (with_reducible exact Below.refl _ _) | (with_reducible assumption) | (with_reducible refine Later.out _ ?_) | (with_reducible refine bel_alloc ?_ _) | (with_reducible refine bel_drew ?_) | (with_reducible refine bel_drewN ?_ _) | (with_reducible refine bel_set ?_ ?_ _) | (with_reducible refine After.out _ ?_ ?_) | (dsimp only; omega) | omega | (simp only [World.size_alloc, World.size_setCell, World.size_drew]; omega))))) (O2.out.row.bel (by (repeat (first | (with_reducible exact Below.refl _ _) | (with_reducible assumption) | (with_reducible refine Later.out _ ?_) | (with_reducible refine bel_alloc ?_ _) | (with_reducible refine bel_drew ?_) | (with_reducible refine bel_drewN ?_ _) | (with_reducible refine bel_set ?_ ?_ _) | (with_reducible refine After.out _ ?_ ?_) | (dsimp only; omega) | omega | (simp only [World.size_alloc, World.size_setCell, World.size_drew]; omega)))))).mono ?_
  rintro e w' ⟨rfl, y3, rfl⟩
  have hsy3 := y3.bel.size
  (try simp only [World.size_alloc, World.size_setCell, World.size_drew] at hsy3)
  go_wp2_with fail
  with_reducible refine (CT.out _ (hr.out.bel (by (repeat (first | (with_reducible exact Below.refl _ _) | (with_reducible assumption) | (with_reducible refine Later.out _ ?_) | (with_reducible refine bel_alloc ?_ _) | (with_reducible refine bel_drew ?_) | (with_reducible refine bel_drewN ?_ _) | (with_reducible refine bel_set ?_ ?_ _) | (with_reducible refine After.out _ ?_ ?_) | (dsimp only; omega) | omega | (simp only [World.size_alloc, World.size_setCell, World.size_drew]; omega)))))).mono ?_
  rintro e w' ⟨g4, c4, vs4, rfl, hg4, hot, y4, rfl⟩
  have hsy4 := y4.bel.size
  (try simp only [World.size_alloc, World.size_setCell, World.size_drew] at hsy4 hg4)
  have hcap4 := Lib.hid (ownsRow_cap hot.own.own)
  have O4 := Lib.hid hot
  clear hot
  go_wp2_with fail
  with_reducible refine (CN.out _ (hrl.out.bel (by (repeat (first | (with_reducible exact Below.refl _ _) | (with_reducible assumption) | (with_reducible refine Later.out _ ?_) | (with_reducible refine bel_alloc ?_ _) | (with_reducible refine bel_drew ?_) | (with_reducible refine bel_drewN ?_ _) | (with_reducible refine bel_set ?_ ?_ _) | (with_reducible refine After.out _ ?_ ?_) | (dsimp only; omega) | omega | (simp only [World.size_alloc, World.size_setCell, World.size_drew]; omega)))))).mono ?_
  rintro e w' ⟨a5, c5, rfl, hown, y5, rfl⟩
  have hsy5 := y5.bel.size
  (try simp only [World.size_alloc, World.size_setCell, World.size_drew] at hsy5)
  have O5 := Lib.hid (Owns.of hown)
  clear hown
  have hcap5 := Lib.hid (ownsRow_cap O5.out.own)
  go_wp2_with fail
  with_reducible refine (CI.out _ _ _ _ _ hcap4.out.1 hcap4.out.2 hcap5.out.1 hcap5.out.2 (O4.out.rules.bel (by (repeat (first | (with_reducible exact Below.refl _ _) | (with_reducible assumption) | (with_reducible refine Later.out _ ?_) | (with_reducible refine bel_alloc ?_ _) | (with_reducible refine bel_drew ?_) | (with_reducible refine bel_drewN ?_ _) | (with_reducible refine bel_set ?_ ?_ _) | (with_reducible refine After.out _ ?_ ?_) | (dsimp only; omega) | omega | (simp only [World.size_alloc, World.size_setCell, World.size_drew]; omega))))) (O5.out.row.bel (by (repeat (first | (with_reducible exact Below.refl _ _) | (with_reducible assumption) | (with_reducible refine Later.out _ ?_) | (with_reducible refine bel_alloc ?_ _) | (with_reducible refine bel_drew ?_) | (with_reducible refine bel_drewN ?_ _) | (with_reducible refine bel_set ?_ ?_ _) | (with_reducible refine After.out _ ?_ ?_) | (dsimp only; omega) | omega | (simp only [World.size_alloc, World.size_setCell, World.size_drew]; omega)))))).mono ?_
  rintro e w' ⟨rfl, y6, rfl⟩
  have hsy6 := y6.bel.size
  (try simp only [World.size_alloc, World.size_setCell, World.size_drew] at hsy6)
  go_wp2_with fail
  with_reducible refine (CT.out _ (hr.out.bel (by (repeat (first | (with_reducible exact Below.refl _ _) | (with_reducible assumption) | (with_reducible refine Later.out _ ?_) | (with_reducible refine bel_alloc ?_ _) | (with_reducible refine bel_drew ?_) | (with_reducible refine bel_drewN ?_ _) | (with_reducible refine bel_set ?_ ?_ _) | (with_reducible refine After.out _ ?_ ?_) | (dsimp only; omega) | omega | (simp only [World.size_alloc, World.size_setCell, World.size_drew]; omega)))))).mono ?_
  rintro e w' ⟨g7, c7, vs7, rfl, hg7, hot, y7, rfl⟩
  have hsy7 := y7.bel.size
  (try simp only [World.size_alloc, World.size_setCell, World.size_drew] at hsy7 hg7)
  have O7 := Lib.hid hot
  clear hot
  go_wp2_with fail
  with_reducible refine (CQ.out _ _ _ _ _ (O4.out.rules.bel (by (repeat (first | (with_reducible exact Below.refl _ _) | (with_reducible assumption) | (with_reducible refine Later.out _ ?_) | (with_reducible refine bel_alloc ?_ _) | (with_reducible refine bel_drew ?_) | (with_reducible refine bel_drewN ?_ _) | (with_reducible refine bel_set ?_ ?_ _) | (with_reducible refine After.out _ ?_ ?_) | (dsimp only; omega) | omega | (simp only [World.size_alloc, World.size_setCell, World.size_drew]; omega))))) (O7.out.rules.bel (by (repeat (first | (with_reducible exact Below.refl _ _) | (with_reducible assumption) | (with_reducible refine Later.out _ ?_) | (with_reducible refine bel_alloc ?_ _) | (with_reducible refine bel_drew ?_) | (with_reducible refine bel_drewN ?_ _) | (with_reducible refine bel_set ?_ ?_ _) | (with_reducible refine After.out _ ?_ ?_) | (dsimp only; omega) | omega | (simp only [World.size_alloc, World.size_setCell, World.size_drew]; omega)))))).mono ?_
  rintro e w' ⟨rfl, y8, rfl⟩
  have hsy8 := y8.bel.size
  (try simp only [World.size_alloc, World.size_setCell, World.size_drew] at hsy8)
  go_wp2_with fail
  with_reducible refine (CN.out _ (hrl.out.bel (by (repeat (first | (with_reducible exact Below.refl _ _) | (with_reducible assumption) | (with_reducible refine Later.out _ ?_) | (with_reducible refine bel_alloc ?_ _) | (with_reducible refine bel_drew ?_) | (with_reducible refine bel_drewN ?_ _) | (with_reducible refine bel_set ?_ ?_ _) | (with_reducible refine After.out _ ?_ ?_) | (dsimp only; omega) | omega | (simp only [World.size_alloc, World.size_setCell, World.size_drew]; omega)))))).mono ?_
  rintro e w' ⟨a9, c9, rfl, hown, y9, rfl⟩
  have hsy9 := y9.bel.size
  (try simp only [World.size_alloc, World.size_setCell, World.size_drew] at hsy9)
  have O9 := Lib.hid (Owns.of hown)
  clear hown
  go_wp2_with fail
  with_reducible refine (CE.out _ _ _ _ _ (O5.out.row.bel (by (repeat (first | (with_reducible exact Below.refl _ _) | (with_reducible assumption) | (with_reducible refine Later.out _ ?_) | (with_reducible refine bel_alloc ?_ _) | (with_reducible refine bel_drew ?_) | (with_reducible refine bel_drewN ?_ _) | (with_reducible refine bel_set ?_ ?_ _) | (with_reducible refine After.out _ ?_ ?_) | (dsimp only; omega) | omega | (simp only [World.size_alloc, World.size_setCell, World.size_drew]; omega))))) (O9.out.row.bel (by (repeat (first | (with_reducible exact Below.refl _ _) | (with_reducible assumption) | (with_reducible refine Later.out _ ?_) | (with_reducible refine bel_alloc ?_ _) | (with_reducible refine bel_drew ?_) | (with_reducible refine bel_drewN ?_ _) | (with_reducible refine bel_set ?_ ?_ _) | (with_reducible refine After.out _ ?_ ?_) | (dsimp only; omega) | omega | (simp only [World.size_alloc, World.size_setCell, World.size_drew]; omega)))))).mono ?_
  rintro e w' ⟨rfl, y10, rfl⟩
  have hsy10 := y10.bel.size
  (try simp only [World.size_alloc, World.size_setCell, World.size_drew] at hsy10)
  go_wp2_with fail
  go_ret
  exact .mk rfl (by (repeat (first | (with_reducible exact Below.refl _ _) | (with_reducible assumption) | (with_reducible refine Later.out _ ?_) | (with_reducible refine bel_alloc ?_ _) | (with_reducible refine bel_drew ?_) | (with_reducible refine bel_drewN ?_ _) | (with_reducible refine bel_set ?_ ?_ _) | (with_reducible refine After.out _ ?_ ?_) | (dsimp only; omega) | omega | (simp only [World.size_alloc, World.size_setCell, World.size_drew]; omega))))
end Go.Proofs.YtokbolgaokbdcaaDoor

import Derived.Test.YtokbolgaokbdcaaDoorParsR
/- The law CountParsings. -/
set_option linter.unusedSimpArgs false
set_option linter.unusedVariables false
namespace Go.Proofs.YtokbolgaokbdcaaDoor
open Go.RowKit
set_option maxRecDepth 8000 in
set_option maxHeartbeats 4000000 in
theorem lawCountParsings_any (T : List Rul) (s : ByteArray) (a : Option Addr) (n c : Nat) (w : World) (hn : T.length = n) (hnc : n ≤ c) (hcm : c ≤ maxLen) (hr : RulesR w a T) (hmx : ∀ r ∈ T, RulIn r) (hs : s.size ≤ maxLen) :
    Calls Tryd.prog 3 #[.slice a n c, .string s] w (Ret w (.bool true)) := by
  subst hn
  have hm : T.length ≤ maxLen := by omega
  unfold maxLen at hs
  by_cases hbs : 1048576 < s.size
  · clear hr hmx
    go_enter Tryd.func3, Tryd.ntmps3
    go_wp2_with fail
    go_ret
    exact .mk rfl (by (repeat (first | (with_reducible exact Below.refl _ _) | (with_reducible assumption) | (with_reducible refine Later.out _ ?_) | (with_reducible refine bel_alloc ?_ _) | (with_reducible refine bel_drew ?_) | (with_reducible refine bel_drewN ?_ _) | (with_reducible refine bel_set ?_ ?_ _) | (with_reducible refine After.out _ ?_ ?_) | (dsimp only; omega) | omega | (simp only [World.size_alloc, World.size_setCell, World.size_drew]; omega))))
  have hs1 : s.size ≤ 1048576 := by omega
  have C1 := fun w hr => szRuleS_any T a T.length c 1048576 w rfl hm hr hmx (by omega) (by omega)
  by_cases hbig : (1048576 : Int) - tabSz T < 0
  · rw [szR_no hbig] at C1
    replace C1 := Lib.hid (C1 w hr)
    clear hmx hr hbs hs
    go_enter Tryd.func3, Tryd.ntmps3
    go_wp2_with fail
    with_reducible refine (C1.out).mono ?_
    rintro e w' ⟨rfl, y0, rfl⟩
    have hsy0 := y0.bel.size
    (try simp only [World.size_alloc, World.size_setCell, World.size_drew] at hsy0)
    go_wp2_with fail
    go_ret
    exact .mk rfl (by (repeat (first | (with_reducible exact Below.refl _ _) | (with_reducible assumption) | (with_reducible refine Later.out _ ?_) | (with_reducible refine bel_alloc ?_ _) | (with_reducible refine bel_drew ?_) | (with_reducible refine bel_drewN ?_ _) | (with_reducible refine bel_set ?_ ?_ _) | (with_reducible refine After.out _ ?_ ?_) | (dsimp only; omega) | omega | (simp only [World.size_alloc, World.size_setCell, World.size_drew]; omega))))
  rw [szR_yes hbig] at C1
  replace C1 := Lib.hid (C1 w hr)
  have hlen := tabSz_len hbig (by omega)
  have hm1 : T.length ≤ 1048576 := by omega
  have ok := tabSz_ok hbig (by omega)
  have hnn := tabSz_nonneg T
  have hnz : ¬ ((1048576 : Int) - tabSz T < 0) := hbig
  obtain ⟨z, hz⟩ : ∃ z, (1048576 : Int) - tabSz T = z := ⟨_, rfl⟩
  rw [hz] at C1 hnz
  have CT := Lib.hid (fun w hr => toRuleS_any T a T.length c w rfl hm1 ok hr)
  have CQ := Lib.hid (fun a c a' c' w hr hr' => eqRuleS_same T a a' T.length c T.length c' w rfl rfl hm1 ok hr hr')
  have CS := Lib.hid (fun a c w hr => count_spec T s a T.length c w rfl hm1 ok hs1 hr)
  have CI := Lib.hid (fun a c w hnc hcm hr => count_impl T s a T.length c w rfl hm1 hnc hcm ok hs1 hr)
  obtain ⟨p, q⟩ := countR T s
  replace hr := Lib.hid hr
  clear hmx ok hbig hz hbs hlen hnn
  go_enter Tryd.func3, Tryd.ntmps3
  go_wp2_with fail
  with_reducible refine (C1.out).mono ?_
  rintro e w' ⟨rfl, y0, rfl⟩
  have hsy0 := y0.bel.size
  (try simp only [World.size_alloc, World.size_setCell, World.size_drew] at hsy0)
  go_wp2_with fail
  with_reducible refine (CT.out _ (hr.out.bel (by (repeat (first | (with_reducible exact Below.refl _ _) | (with_reducible assumption) | (with_reducible refine Later.out _ ?_) | (with_reducible refine bel_alloc ?_ _) | (with_reducible refine bel_drew ?_) | (with_reducible refine bel_drewN ?_ _) | (with_reducible refine bel_set ?_ ?_ _) | (with_reducible refine After.out _ ?_ ?_) | (dsimp only; omega) | omega | (simp only [World.size_alloc, World.size_setCell, World.size_drew]; omega)))))).mono ?_
  rintro e w' ⟨g1, c1, vs1, rfl, hg1, hot, y1, rfl⟩
  have hsy1 := y1.bel.size
  (try simp only [World.size_alloc, World.size_setCell, World.size_drew] at hsy1 hg1)
  have hcap1 := ownsRow_cap hot.own.own
  have O1 := Lib.hid hot
  clear hot
  go_wp2_with fail
  with_reducible refine (CS.out _ _ _ O1.out.rules).mono ?_
  rintro e w' ⟨rfl, y2, rfl⟩
  have hsy2 := y2.bel.size
  (try simp only [World.size_alloc, World.size_setCell, World.size_drew] at hsy2)
  go_wp2_with fail
  with_reducible refine (CT.out _ (hr.out.bel (by (repeat (first | (with_reducible exact Below.refl _ _) | (with_reducible assumption) | (with_reducible refine Later.out _ ?_) | (with_reducible refine bel_alloc ?_ _) | (with_reducible refine bel_drew ?_) | (with_reducible refine bel_drewN ?_ _) | (with_reducible refine bel_set ?_ ?_ _) | (with_reducible refine After.out _ ?_ ?_) | (dsimp only; omega) | omega | (simp only [World.size_alloc, World.size_setCell, World.size_drew]; omega)))))).mono ?_
  rintro e w' ⟨g3, c3, vs3, rfl, hg3, hot, y3, rfl⟩
  have hsy3 := y3.bel.size
  (try simp only [World.size_alloc, World.size_setCell, World.size_drew] at hsy3 hg3)
  have hcap3 := ownsRow_cap hot.own.own
  have O3 := Lib.hid hot
  clear hot
  go_wp2_with fail
  with_reducible refine (CI.out _ _ _ hcap3.1 hcap3.2 O3.out.rules).mono ?_
  rintro e w' ⟨rfl, y4, rfl⟩
  have hsy4 := y4.bel.size
  (try simp only [World.size_alloc, World.size_setCell, World.size_drew] at hsy4)
  go_wp2_with fail
  with_reducible refine (CT.out _ (hr.out.bel (by (repeat (first | (with_reducible exact Below.refl _ _) | (with_reducible assumption) | (with_reducible refine Later.out _ ?_) | (with_reducible refine bel_alloc ?_ _) | (with_reducible refine bel_drew ?_) | (with_reducible refine bel_drewN ?_ _) | (with_reducible refine bel_set ?_ ?_ _) | (with_reducible refine After.out _ ?_ ?_) | (dsimp only; omega) | omega | (simp only [World.size_alloc, World.size_setCell, World.size_drew]; omega)))))).mono ?_
  rintro e w' ⟨g5, c5, vs5, rfl, hg5, hot, y5, rfl⟩
  have hsy5 := y5.bel.size
  (try simp only [World.size_alloc, World.size_setCell, World.size_drew] at hsy5 hg5)
  have hcap5 := ownsRow_cap hot.own.own
  have O5 := Lib.hid hot
  clear hot
  go_wp2_with fail
  with_reducible refine (CQ.out _ _ _ _ _ (O3.out.rules.bel (by (repeat (first | (with_reducible exact Below.refl _ _) | (with_reducible assumption) | (with_reducible refine Later.out _ ?_) | (with_reducible refine bel_alloc ?_ _) | (with_reducible refine bel_drew ?_) | (with_reducible refine bel_drewN ?_ _) | (with_reducible refine bel_set ?_ ?_ _) | (with_reducible refine After.out _ ?_ ?_) | (dsimp only; omega) | omega | (simp only [World.size_alloc, World.size_setCell, World.size_drew]; omega))))) O5.out.rules).mono ?_
  rintro e w' ⟨rfl, y6, rfl⟩
  have hsy6 := y6.bel.size
  (try simp only [World.size_alloc, World.size_setCell, World.size_drew] at hsy6)
  go_wp2_with fail
  go_ret
  exact .mk rfl (by (repeat (first | (with_reducible exact Below.refl _ _) | (with_reducible assumption) | (with_reducible refine Later.out _ ?_) | (with_reducible refine bel_alloc ?_ _) | (with_reducible refine bel_drew ?_) | (with_reducible refine bel_drewN ?_ _) | (with_reducible refine bel_set ?_ ?_ _) | (with_reducible refine After.out _ ?_ ?_) | (dsimp only; omega) | omega | (simp only [World.size_alloc, World.size_setCell, World.size_drew]; omega))))
end Go.Proofs.YtokbolgaokbdcaaDoor

import Derived.Test.YtokbolgaokbdcaaDoorDtx
import Derived.Test.YtokbolgaokbdcaaDoorParsR
import Derived.Test.YtokbolgaokbdcaaDoorRulM
/- The law DecodeText. -/
set_option linter.unusedSimpArgs false
set_option linter.unusedVariables false
namespace Go.Proofs.YtokbolgaokbdcaaDoor
open Go.RowKit
set_option maxRecDepth 8000 in
set_option maxHeartbeats 4000000 in
theorem lawDecodeText_any (T : List Rul) (s : ByteArray) (a : Option Addr) (n c : Nat) (w : World) (hn : T.length = n) (hnc : n ≤ c) (hcm : c ≤ maxLen) (hr : RulesR w a T) (hmx : ∀ r ∈ T, RulIn r) (hs : s.size ≤ maxLen) :
    Calls Tryd.prog 6 #[.slice a n c, .string s] w (Ret w (.bool true)) := by
  subst hn
  have hm : T.length ≤ maxLen := by omega
  unfold maxLen at hs
  by_cases hbs : 1048576 < s.size
  · clear hr hmx
    go_enter Tryd.func6, Tryd.ntmps6
    go_wp2_with fail
    go_ret
    exact .mk rfl (by (repeat (first | (with_reducible exact Below.refl _ _) | (with_reducible assumption) | (with_reducible refine Later.out _ ?_) | (with_reducible refine bel_alloc ?_ _) | (with_reducible refine bel_drew ?_) | (with_reducible refine bel_drewN ?_ _) | (with_reducible refine bel_set ?_ ?_ _) | (with_reducible refine After.out _ ?_ ?_) | (dsimp only; omega) | omega | (simp only [World.size_alloc, World.size_setCell, World.size_drew]; omega))))
  have hs1 : s.size ≤ 1048576 := by omega
  have C1 := fun w hr => szRuleS_any T a T.length c 1048576 w rfl hm hr hmx (by omega) (by omega)
  by_cases hbig : (1048576 : Int) - tabSz T < 0
  · rw [szR_no hbig] at C1
    replace C1 := Lib.hid (C1 w hr)
    clear hmx hr hbs hs
    go_enter Tryd.func6, Tryd.ntmps6
    go_wp2_with fail
    with_reducible refine (C1.out).mono ?_
    rintro e w' ⟨rfl, y0, rfl⟩
    have hsy0 := y0.bel.size
    (try simp only [World.size_alloc, World.size_setCell, World.size_drew] at hsy0)
    go_wp2_with fail
    go_ret
    exact .mk rfl (by (repeat (first | (with_reducible exact Below.refl _ _) | (with_reducible assumption) | (with_reducible refine Later.out _ ?_) | (with_reducible refine bel_alloc ?_ _) | (with_reducible refine bel_drew ?_) | (with_reducible refine bel_drewN ?_ _) | (with_reducible refine bel_set ?_ ?_ _) | (with_reducible refine After.out _ ?_ ?_) | (dsimp only; omega) | omega | (simp only [World.size_alloc, World.size_setCell, World.size_drew]; omega))))
  rw [szR_yes hbig] at C1
  replace C1 := Lib.hid (C1 w hr)
  have hlen := tabSz_len hbig (by omega)
  have hm1 : T.length ≤ 1048576 := by omega
  have ok := tabSz_ok hbig (by omega)
  have hnn := tabSz_nonneg T
  have hnz : ¬ ((1048576 : Int) - tabSz T < 0) := hbig
  have htz : tabSz T ≤ 1048576 := by omega
  have hof := offT_bd T (Nat.le_refl _)
  obtain ⟨q, hq⟩ : ∃ q, offT T T.length = q := ⟨_, rfl⟩
  have CM := fun g hi c vs w h h1 h2 => markRuleS_any T g hi T.length c vs w h rfl h1 h2 htz
  rw [hq] at hof
  simp only [hq] at CM
  replace CM := Lib.hid CM
  have hq0 : ¬ ((1 : Int) + (q : Int) < 0) := by omega
  obtain ⟨z, hz⟩ : ∃ z, (1048576 : Int) - tabSz T = z := ⟨_, rfl⟩
  rw [hz] at C1 hnz
  have CT := Lib.hid (fun w hr => toRuleS_any T a T.length c w rfl hm1 ok hr)
  have CQ := Lib.hid (fun a c a' c' w hr hr' => eqRuleS_same T a a' T.length c T.length c' w rfl rfl hm1 ok hr hr')
  have CS := fun a c w hr => decode_spec T s a T.length c w rfl hm1 ok hs1 hr
  have CI := fun a c w hnc hcm hr => decode_impl T s a T.length c w rfl hm1 hnc hcm ok hs1 hr
  have hRl := dtL_len T s
  obtain ⟨R, hR⟩ : ∃ R, dtL T s = R := ⟨_, rfl⟩
  obtain ⟨K, hK⟩ : ∃ K, dtC T s = K := ⟨_, rfl⟩
  simp only [hR, hK] at CS CI
  rw [hR] at hRl
  have hR1 : R.length ≤ 1048576 := by omega
  replace CS := Lib.hid CS
  replace CI := Lib.hid CI
  have CE := Lib.hid (fun a c a' c' w hr hr' => eqInt64S_same (l := R) (a := a) (c := c) (a' := a') (c' := c') (n := R.length) (n' := R.length) (w := w) rfl rfl hR1 hR1 hr hr')
  replace hr := Lib.hid hr
  clear hmx ok hbig hz hbs hlen hnn hR hK hq hRl htz hof
  go_enter Tryd.func6, Tryd.ntmps6
  go_wp2_with fail
  with_reducible refine (C1.out).mono ?_
  rintro e w' ⟨rfl, y0, rfl⟩
  have hsy0 := y0.bel.size
  (try simp only [World.size_alloc, World.size_setCell, World.size_drew] at hsy0)
  go_wp2_with fail
  with_reducible refine (CT.out _ (hr.out.bel (by (repeat (first | (with_reducible exact Below.refl _ _) | (with_reducible assumption) | (with_reducible refine Later.out _ ?_) | (with_reducible refine bel_alloc ?_ _) | (with_reducible refine bel_drew ?_) | (with_reducible refine bel_drewN ?_ _) | (with_reducible refine bel_set ?_ ?_ _) | (with_reducible refine After.out _ ?_ ?_) | (dsimp only; omega) | omega | (simp only [World.size_alloc, World.size_setCell, World.size_drew]; omega)))))).mono ?_
  rintro e w' ⟨g1, c1, vs1, rfl, hg1, hot, y1, rfl⟩
  have hsy1 := y1.bel.size
  (try simp only [World.size_alloc, World.size_setCell, World.size_drew] at hsy1 hg1)
  have hcap1 := ownsRow_cap hot.own.own
  have O1 := Lib.hid hot
  clear hot
  go_wp2_with fail
  with_reducible refine (CS.out _ _ _ O1.out.rules).mono ?_
  rintro e w' ⟨a2, c2, rfl, hown, y2, rfl⟩
  have hsy2 := y2.bel.size
  (try simp only [World.size_alloc, World.size_setCell, World.size_drew] at hsy2)
  have O2 := Lib.hid (Owns.of hown)
  clear hown
  go_wp2_with fail
  with_reducible refine (CT.out _ (hr.out.bel (by (repeat (first | (with_reducible exact Below.refl _ _) | (with_reducible assumption) | (with_reducible refine Later.out _ ?_) | (with_reducible refine bel_alloc ?_ _) | (with_reducible refine bel_drew ?_) | (with_reducible refine bel_drewN ?_ _) | (with_reducible refine bel_set ?_ ?_ _) | (with_reducible refine After.out _ ?_ ?_) | (dsimp only; omega) | omega | (simp only [World.size_alloc, World.size_setCell, World.size_drew]; omega)))))).mono ?_
  rintro e w' ⟨g3, c3, vs3, rfl, hg3, hot, y3, rfl⟩
  have hsy3 := y3.bel.size
  (try simp only [World.size_alloc, World.size_setCell, World.size_drew] at hsy3 hg3)
  have hcap3 := ownsRow_cap hot.own.own
  have O3 := Lib.hid hot
  clear hot
  go_wp2_with fail
  with_reducible refine (CI.out _ _ _ hcap3.1 hcap3.2 O3.out.rules).mono ?_
  rintro e w' ⟨a4, c4, rfl, hown, y4, rfl⟩
  have hsy4 := y4.bel.size
  (try simp only [World.size_alloc, World.size_setCell, World.size_drew] at hsy4)
  have O4 := Lib.hid (Owns.of hown)
  clear hown
  go_wp2_with fail
  with_reducible refine (CE.out _ _ _ _ _ (O4.out.row.bel (by (repeat (first | (with_reducible exact Below.refl _ _) | (with_reducible assumption) | (with_reducible refine Later.out _ ?_) | (with_reducible refine bel_alloc ?_ _) | (with_reducible refine bel_drew ?_) | (with_reducible refine bel_drewN ?_ _) | (with_reducible refine bel_set ?_ ?_ _) | (with_reducible refine After.out _ ?_ ?_) | (dsimp only; omega) | omega | (simp only [World.size_alloc, World.size_setCell, World.size_drew]; omega))))) (O2.out.row.bel (by (repeat (first | (with_reducible exact Below.refl _ _) | (with_reducible assumption) | (with_reducible refine Later.out _ ?_) | (with_reducible refine bel_alloc ?_ _) | (with_reducible refine bel_drew ?_) | (with_reducible refine bel_drewN ?_ _) | (with_reducible refine bel_set ?_ ?_ _) | (with_reducible refine After.out _ ?_ ?_) | (dsimp only; omega) | omega | (simp only [World.size_alloc, World.size_setCell, World.size_drew]; omega)))))).mono ?_
  rintro e w' ⟨rfl, y5, rfl⟩
  have hsy5 := y5.bel.size
  (try simp only [World.size_alloc, World.size_setCell, World.size_drew] at hsy5)
  go_wp2_with fail
  with_reducible refine (CT.out _ (hr.out.bel (by (repeat (first | (with_reducible exact Below.refl _ _) | (with_reducible assumption) | (with_reducible refine Later.out _ ?_) | (with_reducible refine bel_alloc ?_ _) | (with_reducible refine bel_drew ?_) | (with_reducible refine bel_drewN ?_ _) | (with_reducible refine bel_set ?_ ?_ _) | (with_reducible refine After.out _ ?_ ?_) | (dsimp only; omega) | omega | (simp only [World.size_alloc, World.size_setCell, World.size_drew]; omega)))))).mono ?_
  rintro e w' ⟨g6, c6, vs6, rfl, hg6, hot, y6, rfl⟩
  have hsy6 := y6.bel.size
  (try simp only [World.size_alloc, World.size_setCell, World.size_drew] at hsy6 hg6)
  have hcap6 := ownsRow_cap hot.own.own
  have O6 := Lib.hid hot
  clear hot
  go_wp2_with fail
  with_reducible refine (CQ.out _ _ _ _ _ (O3.out.rules.bel (by (repeat (first | (with_reducible exact Below.refl _ _) | (with_reducible assumption) | (with_reducible refine Later.out _ ?_) | (with_reducible refine bel_alloc ?_ _) | (with_reducible refine bel_drew ?_) | (with_reducible refine bel_drewN ?_ _) | (with_reducible refine bel_set ?_ ?_ _) | (with_reducible refine After.out _ ?_ ?_) | (dsimp only; omega) | omega | (simp only [World.size_alloc, World.size_setCell, World.size_drew]; omega))))) (O6.out.rules.bel (by (repeat (first | (with_reducible exact Below.refl _ _) | (with_reducible assumption) | (with_reducible refine Later.out _ ?_) | (with_reducible refine bel_alloc ?_ _) | (with_reducible refine bel_drew ?_) | (with_reducible refine bel_drewN ?_ _) | (with_reducible refine bel_set ?_ ?_ _) | (with_reducible refine After.out _ ?_ ?_) | (dsimp only; omega) | omega | (simp only [World.size_alloc, World.size_setCell, World.size_drew]; omega)))))).mono ?_
  rintro e w' ⟨rfl, y7, rfl⟩
  have hsy7 := y7.bel.size
  (try simp only [World.size_alloc, World.size_setCell, World.size_drew] at hsy7)
  go_wp2_with fail
  with_reducible refine (CM.out _ y3.w.heap.size _ _ _ (O3.out.bel (by (repeat (first | (with_reducible exact Below.refl _ _) | (with_reducible assumption) | (with_reducible refine Later.out _ ?_) | (with_reducible refine bel_alloc ?_ _) | (with_reducible refine bel_drew ?_) | (with_reducible refine bel_drewN ?_ _) | (with_reducible refine bel_set ?_ ?_ _) | (with_reducible refine After.out _ ?_ ?_) | (dsimp only; omega) | omega | (simp only [World.size_alloc, World.size_setCell, World.size_drew]; omega)))) (Nat.le_refl _)) (Nat.succ_le_of_lt O3.out.lt) (by ((try simp only [World.size_alloc, World.size_setCell, World.size_drew]); omega))).mono ?_
  rintro e w' ⟨rfl, z8, rfl⟩
  have hsz8 := z8.btw.size
  (try simp only [World.size_alloc, World.size_setCell, World.size_drew] at hsz8)
  have H4 := Lib.hid ((O4.out.bel (B := y4.w.heap.size) (by (repeat (first | (with_reducible exact Below.refl _ _) | (with_reducible assumption) | (with_reducible refine Later.out _ ?_) | (with_reducible refine bel_alloc ?_ _) | (with_reducible refine bel_drew ?_) | (with_reducible refine bel_drewN ?_ _) | (with_reducible refine bel_set ?_ ?_ _) | (with_reducible refine After.out _ ?_ ?_) | (dsimp only; omega) | omega | (simp only [World.size_alloc, World.size_setCell, World.size_drew]; omega)))) (Nat.le_refl _)).btw z8.btw (.inr (by ((try simp only [World.size_alloc, World.size_setCell, World.size_drew]); omega))))
  have H2 := Lib.hid ((O2.out.bel (B := y2.w.heap.size) (by (repeat (first | (with_reducible exact Below.refl _ _) | (with_reducible assumption) | (with_reducible refine Later.out _ ?_) | (with_reducible refine bel_alloc ?_ _) | (with_reducible refine bel_drew ?_) | (with_reducible refine bel_drewN ?_ _) | (with_reducible refine bel_set ?_ ?_ _) | (with_reducible refine After.out _ ?_ ?_) | (dsimp only; omega) | omega | (simp only [World.size_alloc, World.size_setCell, World.size_drew]; omega)))) (Nat.le_refl _)).btw z8.btw (.inl (by ((try simp only [World.size_alloc, World.size_setCell, World.size_drew]); omega))))
  clear O1 O3 O6 O2 O4
  go_wp2_with fail
  with_reducible refine (CE.out _ _ _ _ _ H4.out.row H2.out.row).mono ?_
  rintro e w' ⟨rfl, y9, rfl⟩
  have hsy9 := y9.bel.size
  (try simp only [World.size_alloc, World.size_setCell, World.size_drew] at hsy9)
  go_wp2_with fail
  with_reducible refine (markInt64S_any _ _ _ _ _ 1 _ _ (H4.out.bel (B := z8.w.heap.size) (by (repeat (first | (with_reducible exact Below.refl _ _) | (with_reducible assumption) | (with_reducible refine Later.out _ ?_) | (with_reducible refine bel_alloc ?_ _) | (with_reducible refine bel_drew ?_) | (with_reducible refine bel_drewN ?_ _) | (with_reducible refine bel_set ?_ ?_ _) | (with_reducible refine After.out _ ?_ ?_) | (dsimp only; omega) | omega | (simp only [World.size_alloc, World.size_setCell, World.size_drew]; omega)))) (by ((try simp only [World.size_alloc, World.size_setCell, World.size_drew]); omega))) hR1 (by omega) (by omega)).mono ?_
  rintro e w' ⟨rfl, z10, rfl, hown⟩
  have hsz10 := z10.btw.size
  (try simp only [World.size_alloc, World.size_setCell, World.size_drew] at hsz10)
  have M10 := Lib.hid hown
  clear hown
  have H22 := Lib.hid ((H2.out.bel (B := z8.w.heap.size) (by (repeat (first | (with_reducible exact Below.refl _ _) | (with_reducible assumption) | (with_reducible refine Later.out _ ?_) | (with_reducible refine bel_alloc ?_ _) | (with_reducible refine bel_drew ?_) | (with_reducible refine bel_drewN ?_ _) | (with_reducible refine bel_set ?_ ?_ _) | (with_reducible refine After.out _ ?_ ?_) | (dsimp only; omega) | omega | (simp only [World.size_alloc, World.size_setCell, World.size_drew]; omega)))) (by ((try simp only [World.size_alloc, World.size_setCell, World.size_drew]); omega))).btw z10.btw (.inl (by ((try simp only [World.size_alloc, World.size_setCell, World.size_drew]); omega))))
  go_wp2_with fail
  with_reducible refine (heldInt64S_any _ _ _ 1 _ M10.out.row hR1 (by omega) (by omega)).mono ?_
  rintro e w' ⟨rfl, y11, rfl⟩
  have hsy11 := y11.bel.size
  (try simp only [World.size_alloc, World.size_setCell, World.size_drew] at hsy11)
  go_wp2_with fail
  with_reducible refine (CT.out _ (hr.out.bel (by (repeat (first | (with_reducible exact Below.refl _ _) | (with_reducible assumption) | (with_reducible refine Later.out _ ?_) | (with_reducible refine bel_alloc ?_ _) | (with_reducible refine bel_drew ?_) | (with_reducible refine bel_drewN ?_ _) | (with_reducible refine bel_set ?_ ?_ _) | (with_reducible refine After.out _ ?_ ?_) | (dsimp only; omega) | omega | (simp only [World.size_alloc, World.size_setCell, World.size_drew]; omega)))))).mono ?_
  rintro e w' ⟨g12, c12, vs12, rfl, hg12, hot, y12, rfl⟩
  have hsy12 := y12.bel.size
  (try simp only [World.size_alloc, World.size_setCell, World.size_drew] at hsy12 hg12)
  have hcap12 := ownsRow_cap hot.own.own
  have O12 := Lib.hid hot
  clear hot
  go_wp2_with fail
  with_reducible refine (CI.out _ _ _ hcap12.1 hcap12.2 O12.out.rules).mono ?_
  rintro e w' ⟨a13, c13, rfl, hown, y13, rfl⟩
  have hsy13 := y13.bel.size
  (try simp only [World.size_alloc, World.size_setCell, World.size_drew] at hsy13)
  have O13 := Lib.hid (Owns.of hown)
  clear hown
  go_wp2_with fail
  with_reducible refine (CE.out _ _ _ _ _ O13.out.row (H22.out.row.bel (by (repeat (first | (with_reducible exact Below.refl _ _) | (with_reducible assumption) | (with_reducible refine Later.out _ ?_) | (with_reducible refine bel_alloc ?_ _) | (with_reducible refine bel_drew ?_) | (with_reducible refine bel_drewN ?_ _) | (with_reducible refine bel_set ?_ ?_ _) | (with_reducible refine After.out _ ?_ ?_) | (dsimp only; omega) | omega | (simp only [World.size_alloc, World.size_setCell, World.size_drew]; omega)))))).mono ?_
  rintro e w' ⟨rfl, y14, rfl⟩
  have hsy14 := y14.bel.size
  (try simp only [World.size_alloc, World.size_setCell, World.size_drew] at hsy14)
  go_wp2_with fail
  with_reducible refine (heldInt64S_any _ _ _ 1 _ (M10.out.row.bel (by (repeat (first | (with_reducible exact Below.refl _ _) | (with_reducible assumption) | (with_reducible refine Later.out _ ?_) | (with_reducible refine bel_alloc ?_ _) | (with_reducible refine bel_drew ?_) | (with_reducible refine bel_drewN ?_ _) | (with_reducible refine bel_set ?_ ?_ _) | (with_reducible refine After.out _ ?_ ?_) | (dsimp only; omega) | omega | (simp only [World.size_alloc, World.size_setCell, World.size_drew]; omega))))) hR1 (by omega) (by omega)).mono ?_
  rintro e w' ⟨rfl, y15, rfl⟩
  have hsy15 := y15.bel.size
  (try simp only [World.size_alloc, World.size_setCell, World.size_drew] at hsy15)
  go_wp2_with fail
  go_ret
  exact .mk rfl (by (repeat (first | (with_reducible exact Below.refl _ _) | (with_reducible assumption) | (with_reducible refine Later.out _ ?_) | (with_reducible refine bel_alloc ?_ _) | (with_reducible refine bel_drew ?_) | (with_reducible refine bel_drewN ?_ _) | (with_reducible refine bel_set ?_ ?_ _) | (with_reducible refine After.out _ ?_ ?_) | (dsimp only; omega) | omega | (simp only [World.size_alloc, World.size_setCell, World.size_drew]; omega))))
end Go.Proofs.YtokbolgaokbdcaaDoor

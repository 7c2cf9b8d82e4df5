import Derived.Test.YtklcaphkfdlipaaGreatDoorClm3
import Derived.Test.YtklcaphkfdlipaaGreatDoorPackVc
/- The law ClaimantsOf. -/
set_option linter.unusedSimpArgs false
set_option linter.unusedVariables false
namespace Go.Proofs.YtklcaphkfdlipaaGreatDoor
open Go.RowKit
set_option maxRecDepth 8000 in
set_option maxHeartbeats 16000000 in
theorem lawClaimantsOf_any (R : List (List Pt)) (V : List Vw) (x : Int) (a b : Option Addr) (n c m d : Nat) (w : World) (hn : R.length = n) (hnc : n ≤ c) (hcm : c ≤ maxLen) (hr : RingsR w a R) (hmx : ∀ r ∈ R, r.length ≤ maxLen) (hn' : V.length = m) (hmd : m ≤ d) (hdm : d ≤ maxLen) (hr' : ViewsR w b V) (hmx' : ∀ v ∈ V, VwIn v) (hx : (Lit.int .i64 x).wf = true) :
    Calls Tryz.prog 5 #[.slice a n c, .slice b m d, .int .i64 x] w (Ret w (.bool true)) := by
  subst hn hn'
  have hm : R.length ≤ maxLen := by omega
  have hm' : V.length ≤ maxLen := by omega
  have C1 := fun w hr => szPointSS_any R a R.length c 1048576 w rfl hm hr hmx (by omega) (by omega)
  by_cases hbig : (1048576 : Int) - ringsSz R < 0
  · rw [szR_no hbig] at C1
    replace C1 := Lib.hid (C1 w hr)
    clear hmx hr hmx' hr' hcm hdm hm hm'
    go_enter Tryz.func5, Tryz.ntmps5
    go_wp2_with fail
    with_reducible refine (C1.out).mono ?_
    rintro e w' ⟨rfl, y0, rfl⟩
    have hsy0 := y0.bel.size
    (try simp only [World.size_alloc, World.size_setCell, World.size_drew] at hsy0)
    go_wp2_with fail
    go_ret
    exact .mk rfl (by (repeat (first | (with_reducible first | exact Below.refl _ _ | assumption | refine Later.out _ ?_ | refine bel_alloc ?_ _ | refine bel_drew ?_ | refine bel_drewN ?_ _ | refine bel_set ?_ ?_ _ | refine After.out _ ?_ ?_) | (dsimp only; omega) | omega | (simp only [World.size_alloc, World.size_setCell, World.size_drew]; omega))))
  rw [szR_yes hbig] at C1
  replace C1 := Lib.hid (C1 w hr)
  have hrnn := ringsSz_nonneg R
  have C2 := fun (w : World) hr => szViewS_any V b V.length d (1048576 - ringsSz R) w rfl hm' hr hmx' (by omega) (by omega)
  have hlen := ringsSz_len hbig (by omega)
  have hm1 : R.length ≤ 1048576 := by omega
  have ok := ringsSz_ok hbig (by omega)
  have hz1 : ringsSz R ≤ 1048576 := by omega
  by_cases hbig2 : (1048576 : Int) - ringsSz R - viewsSz V < 0
  · rw [szR_no hbig2] at C2
    replace C2 := Lib.hid C2
    obtain ⟨z, hz⟩ : ∃ z, (1048576 : Int) - ringsSz R = z := ⟨_, rfl⟩
    simp only [hz] at C1 C2
    rw [hz] at hbig
    replace hr' := Lib.hid hr'
    clear hmx hr hmx' hcm hdm hm hm' ok hz hbig2 hlen hz1 hrnn
    go_enter Tryz.func5, Tryz.ntmps5
    go_wp2_with fail
    with_reducible refine (C1.out).mono ?_
    rintro e w' ⟨rfl, y0, rfl⟩
    have hsy0 := y0.bel.size
    (try simp only [World.size_alloc, World.size_setCell, World.size_drew] at hsy0)
    go_wp2_with fail
    with_reducible refine (C2.out _ (hr'.out.bel (by (repeat (first | (with_reducible first | exact Below.refl _ _ | assumption | refine Later.out _ ?_ | refine bel_alloc ?_ _ | refine bel_drew ?_ | refine bel_drewN ?_ _ | refine bel_set ?_ ?_ _ | refine After.out _ ?_ ?_) | (dsimp only; omega) | omega | (simp only [World.size_alloc, World.size_setCell, World.size_drew]; omega)))))).mono ?_
    rintro e w' ⟨rfl, y1, rfl⟩
    have hsy1 := y1.bel.size
    (try simp only [World.size_alloc, World.size_setCell, World.size_drew] at hsy1)
    go_wp2_with fail
    go_ret
    exact .mk rfl (by (repeat (first | (with_reducible first | exact Below.refl _ _ | assumption | refine Later.out _ ?_ | refine bel_alloc ?_ _ | refine bel_drew ?_ | refine bel_drewN ?_ _ | refine bel_set ?_ ?_ _ | refine After.out _ ?_ ?_) | (dsimp only; omega) | omega | (simp only [World.size_alloc, World.size_setCell, World.size_drew]; omega))))
  rw [szR_yes hbig2] at C2
  replace C2 := Lib.hid C2
  have hlen2 := viewsSz_len hbig2 (by omega)
  have hm2 : V.length ≤ 1048576 := by omega
  have ok2 := viewsSz_ok hbig2 (by omega)
  have hvnn := viewsSz_nonneg V
  have hz2 : viewsSz V ≤ 1048576 := by omega
  have q1 := rgM_bd R (Nat.le_refl _)
  rw [List.take_length] at q1
  have q1' := wSum_nonneg rgM_nonneg R
  have q2 := vwM_bd V (Nat.le_refl _)
  rw [List.take_length] at q2
  have q2' := wSum_nonneg vwM_nonneg V
  have CM := fun (g hi c : Nat) (vs : List Value) (w : World) h h1 h2 => markPointSS_any R g hi R.length c vs w h rfl h1 h2 hz1
  have CN := fun (g hi c : Nat) (vs : List Value) (k : Int) (w : World) h h1 h2 h3 h4 => markViewS_any V g hi V.length c vs k w h rfl h1 h2 hz2 h3 h4
  obtain ⟨qa, hqa⟩ : ∃ q, wSum rgM R = q := ⟨_, rfl⟩
  obtain ⟨qb, hqb⟩ : ∃ q, wSum vwM V = q := ⟨_, rfl⟩
  simp only [hqa] at CM
  simp only [hqb] at CN
  rw [hqa] at q1 q1'
  rw [hqb] at q2 q2'
  have qa1 : qa ≤ 2097152 := by omega
  have qb1 : qb ≤ 1048576 := by omega
  replace CM := Lib.hid CM
  replace CN := Lib.hid CN
  obtain ⟨z, hz⟩ : ∃ z, (1048576 : Int) - ringsSz R = z := ⟨_, rfl⟩
  simp only [hz] at C1 C2
  rw [hz] at hbig hbig2
  obtain ⟨zz, hzz⟩ : ∃ zz, z - viewsSz V = zz := ⟨_, rfl⟩
  simp only [hzz] at C2
  rw [hzz] at hbig2
  have CT := Lib.hid (fun w hr => toPointSS_any R a R.length c w rfl hm1 ok hr)
  have CU := Lib.hid (fun w hr => toViewS_any V b V.length d w rfl hm2 ok2 hr)
  have CQ := Lib.hid (fun a c a' c' w hr hr' => eqPointSS_same R a a' R.length c R.length c' w rfl rfl hm1 ok hr hr')
  have CR := Lib.hid (fun a c a' c' w hr hr' => eqViewS_same V a a' V.length c V.length c' w rfl rfl hm2 ok2 hr hr')
  have hRl := clL_len R V x
  have CS := fun (a : Option Addr) (c : Nat) (b : Option Addr) (d : Nat) (w : World) hr hr' => cl_spec R V x a b R.length c V.length d w rfl hm1 ok hr rfl hm2 ok2 hr'
  have CI := fun (a : Option Addr) (c : Nat) (b : Option Addr) (d : Nat) (w : World) h1 h2 hr hr' => cl_impl R V x a b R.length c V.length d w rfl hm1 h1 h2 ok hr rfl hm2 ok2 hr'
  obtain ⟨E, hE⟩ : ∃ E, clL R V x = E := ⟨_, rfl⟩
  obtain ⟨K, hK⟩ : ∃ K, clC R V x = K := ⟨_, rfl⟩
  simp only [hE, hK] at CS CI
  rw [hE] at hRl
  have hR1 : E.length ≤ 1048576 := by omega
  replace CS := Lib.hid CS
  replace CI := Lib.hid CI
  have CE := Lib.hid (fun (a : Option Addr) (c : Nat) (a' : Option Addr) (c' : Nat) (w : World) hr hr' => eqStringS_same E a a' E.length c E.length c' w rfl rfl hR1 hr hr')
  clear hE hK
  replace hr := Lib.hid hr
  replace hr' := Lib.hid hr'
  clear hmx hmx' ok ok2 hz hzz hlen hlen2 hz1 hz2 hqa hqb q1 q2 hcm hdm hm hm'
  go_enter Tryz.func5, Tryz.ntmps5
  go_wp2_with fail
  with_reducible refine (C1.out).mono ?_
  rintro e w' ⟨rfl, y0, rfl⟩
  have hsy0 := y0.bel.size
  (try simp only [World.size_alloc, World.size_setCell, World.size_drew] at hsy0)
  go_wp2_with fail
  with_reducible refine (C2.out _ (hr'.out.bel (by (repeat (first | (with_reducible first | exact Below.refl _ _ | assumption | refine Later.out _ ?_ | refine bel_alloc ?_ _ | refine bel_drew ?_ | refine bel_drewN ?_ _ | refine bel_set ?_ ?_ _ | refine After.out _ ?_ ?_) | (dsimp only; omega) | omega | (simp only [World.size_alloc, World.size_setCell, World.size_drew]; omega)))))).mono ?_
  rintro e w' ⟨rfl, y00, rfl⟩
  have hsy00 := y00.bel.size
  (try simp only [World.size_alloc, World.size_setCell, World.size_drew] at hsy00)
  go_wp2_with fail
  with_reducible refine (CT.out _ (hr.out.bel (by (repeat (first | (with_reducible first | exact Below.refl _ _ | assumption | refine Later.out _ ?_ | refine bel_alloc ?_ _ | refine bel_drew ?_ | refine bel_drewN ?_ _ | refine bel_set ?_ ?_ _ | refine After.out _ ?_ ?_) | (dsimp only; omega) | omega | (simp only [World.size_alloc, World.size_setCell, World.size_drew]; omega)))))).mono ?_
  rintro e w' ⟨g1, c1, vs1, rfl, hg1, hot, y1, rfl⟩
  have hsy1 := y1.bel.size
  (try simp only [World.size_alloc, World.size_setCell, World.size_drew] at hsy1 hg1)
  have hcap1 := own_caps2 hot.own.own
  have O1 := Lib.hid hot
  clear hot
  go_wp2_with fail
  with_reducible refine (CU.out _ (hr'.out.bel (by (repeat (first | (with_reducible first | exact Below.refl _ _ | assumption | refine Later.out _ ?_ | refine bel_alloc ?_ _ | refine bel_drew ?_ | refine bel_drewN ?_ _ | refine bel_set ?_ ?_ _ | refine After.out _ ?_ ?_) | (dsimp only; omega) | omega | (simp only [World.size_alloc, World.size_setCell, World.size_drew]; omega)))))).mono ?_
  rintro e w' ⟨g2, c2, vs2, rfl, hg2, hot, y2, rfl⟩
  have hsy2 := y2.bel.size
  (try simp only [World.size_alloc, World.size_setCell, World.size_drew] at hsy2 hg2)
  have hcap2 := own_caps2 hot.own.own
  have O2 := Lib.hid hot
  clear hot
  go_wp2_with fail
  with_reducible refine (CS.out _ _ _ _ _ (O1.out.rows.bel (by (repeat (first | (with_reducible first | exact Below.refl _ _ | assumption | refine Later.out _ ?_ | refine bel_alloc ?_ _ | refine bel_drew ?_ | refine bel_drewN ?_ _ | refine bel_set ?_ ?_ _ | refine After.out _ ?_ ?_) | (dsimp only; omega) | omega | (simp only [World.size_alloc, World.size_setCell, World.size_drew]; omega))))) (O2.out.rows.bel (by (repeat (first | (with_reducible first | exact Below.refl _ _ | assumption | refine Later.out _ ?_ | refine bel_alloc ?_ _ | refine bel_drew ?_ | refine bel_drewN ?_ _ | refine bel_set ?_ ?_ _ | refine After.out _ ?_ ?_) | (dsimp only; omega) | omega | (simp only [World.size_alloc, World.size_setCell, World.size_drew]; omega)))))).mono ?_
  rintro e w' ⟨a3, c3, rfl, hown, y3, rfl⟩
  have hsy3 := y3.bel.size
  (try simp only [World.size_alloc, World.size_setCell, World.size_drew] at hsy3)
  have O3 := Lib.hid (Owns.of hown)
  clear hown
  go_wp2_with fail
  with_reducible refine (CT.out _ (hr.out.bel (by (repeat (first | (with_reducible first | exact Below.refl _ _ | assumption | refine Later.out _ ?_ | refine bel_alloc ?_ _ | refine bel_drew ?_ | refine bel_drewN ?_ _ | refine bel_set ?_ ?_ _ | refine After.out _ ?_ ?_) | (dsimp only; omega) | omega | (simp only [World.size_alloc, World.size_setCell, World.size_drew]; omega)))))).mono ?_
  rintro e w' ⟨g4, c4, vs4, rfl, hg4, hot, y4, rfl⟩
  have hsy4 := y4.bel.size
  (try simp only [World.size_alloc, World.size_setCell, World.size_drew] at hsy4 hg4)
  have hcap4 := own_caps2 hot.own.own
  have O4 := Lib.hid hot
  clear hot
  go_wp2_with fail
  with_reducible refine (CU.out _ (hr'.out.bel (by (repeat (first | (with_reducible first | exact Below.refl _ _ | assumption | refine Later.out _ ?_ | refine bel_alloc ?_ _ | refine bel_drew ?_ | refine bel_drewN ?_ _ | refine bel_set ?_ ?_ _ | refine After.out _ ?_ ?_) | (dsimp only; omega) | omega | (simp only [World.size_alloc, World.size_setCell, World.size_drew]; omega)))))).mono ?_
  rintro e w' ⟨g5, c5, vs5, rfl, hg5, hot, y5, rfl⟩
  have hsy5 := y5.bel.size
  (try simp only [World.size_alloc, World.size_setCell, World.size_drew] at hsy5 hg5)
  have hcap5 := own_caps2 hot.own.own
  have O5 := Lib.hid hot
  clear hot
  go_wp2_with fail
  with_reducible refine (CI.out _ _ _ _ _ hcap4.1 hcap4.2 (O4.out.rows.bel (by (repeat (first | (with_reducible first | exact Below.refl _ _ | assumption | refine Later.out _ ?_ | refine bel_alloc ?_ _ | refine bel_drew ?_ | refine bel_drewN ?_ _ | refine bel_set ?_ ?_ _ | refine After.out _ ?_ ?_) | (dsimp only; omega) | omega | (simp only [World.size_alloc, World.size_setCell, World.size_drew]; omega))))) (O5.out.rows.bel (by (repeat (first | (with_reducible first | exact Below.refl _ _ | assumption | refine Later.out _ ?_ | refine bel_alloc ?_ _ | refine bel_drew ?_ | refine bel_drewN ?_ _ | refine bel_set ?_ ?_ _ | refine After.out _ ?_ ?_) | (dsimp only; omega) | omega | (simp only [World.size_alloc, World.size_setCell, World.size_drew]; omega)))))).mono ?_
  rintro e w' ⟨a6, c6, rfl, hown, y6, rfl⟩
  have hsy6 := y6.bel.size
  (try simp only [World.size_alloc, World.size_setCell, World.size_drew] at hsy6)
  have O6 := Lib.hid (Owns.of hown)
  clear hown
  go_wp2_with fail
  with_reducible refine (CE.out _ _ _ _ _ (O6.out.row.bel (by (repeat (first | (with_reducible first | exact Below.refl _ _ | assumption | refine Later.out _ ?_ | refine bel_alloc ?_ _ | refine bel_drew ?_ | refine bel_drewN ?_ _ | refine bel_set ?_ ?_ _ | refine After.out _ ?_ ?_) | (dsimp only; omega) | omega | (simp only [World.size_alloc, World.size_setCell, World.size_drew]; omega))))) (O3.out.row.bel (by (repeat (first | (with_reducible first | exact Below.refl _ _ | assumption | refine Later.out _ ?_ | refine bel_alloc ?_ _ | refine bel_drew ?_ | refine bel_drewN ?_ _ | refine bel_set ?_ ?_ _ | refine After.out _ ?_ ?_) | (dsimp only; omega) | omega | (simp only [World.size_alloc, World.size_setCell, World.size_drew]; omega)))))).mono ?_
  rintro e w' ⟨rfl, y7, rfl⟩
  have hsy7 := y7.bel.size
  (try simp only [World.size_alloc, World.size_setCell, World.size_drew] at hsy7)
  go_wp2_with fail
  with_reducible refine (CT.out _ (hr.out.bel (by (repeat (first | (with_reducible first | exact Below.refl _ _ | assumption | refine Later.out _ ?_ | refine bel_alloc ?_ _ | refine bel_drew ?_ | refine bel_drewN ?_ _ | refine bel_set ?_ ?_ _ | refine After.out _ ?_ ?_) | (dsimp only; omega) | omega | (simp only [World.size_alloc, World.size_setCell, World.size_drew]; omega)))))).mono ?_
  rintro e w' ⟨g8, c8, vs8, rfl, hg8, hot, y8, rfl⟩
  have hsy8 := y8.bel.size
  (try simp only [World.size_alloc, World.size_setCell, World.size_drew] at hsy8 hg8)
  have hcap8 := own_caps2 hot.own.own
  have O8 := Lib.hid hot
  clear hot
  go_wp2_with fail
  with_reducible refine (CQ.out _ _ _ _ _ (O4.out.rows.bel (by (repeat (first | (with_reducible first | exact Below.refl _ _ | assumption | refine Later.out _ ?_ | refine bel_alloc ?_ _ | refine bel_drew ?_ | refine bel_drewN ?_ _ | refine bel_set ?_ ?_ _ | refine After.out _ ?_ ?_) | (dsimp only; omega) | omega | (simp only [World.size_alloc, World.size_setCell, World.size_drew]; omega))))) (O8.out.rows.bel (by (repeat (first | (with_reducible first | exact Below.refl _ _ | assumption | refine Later.out _ ?_ | refine bel_alloc ?_ _ | refine bel_drew ?_ | refine bel_drewN ?_ _ | refine bel_set ?_ ?_ _ | refine After.out _ ?_ ?_) | (dsimp only; omega) | omega | (simp only [World.size_alloc, World.size_setCell, World.size_drew]; omega)))))).mono ?_
  rintro e w' ⟨rfl, y9, rfl⟩
  have hsy9 := y9.bel.size
  (try simp only [World.size_alloc, World.size_setCell, World.size_drew] at hsy9)
  go_wp2_with fail
  with_reducible refine (CU.out _ (hr'.out.bel (by (repeat (first | (with_reducible first | exact Below.refl _ _ | assumption | refine Later.out _ ?_ | refine bel_alloc ?_ _ | refine bel_drew ?_ | refine bel_drewN ?_ _ | refine bel_set ?_ ?_ _ | refine After.out _ ?_ ?_) | (dsimp only; omega) | omega | (simp only [World.size_alloc, World.size_setCell, World.size_drew]; omega)))))).mono ?_
  rintro e w' ⟨g10, c10, vs10, rfl, hg10, hot, y10, rfl⟩
  have hsy10 := y10.bel.size
  (try simp only [World.size_alloc, World.size_setCell, World.size_drew] at hsy10 hg10)
  have hcap10 := own_caps2 hot.own.own
  have O10 := Lib.hid hot
  clear hot
  go_wp2_with fail
  with_reducible refine (CR.out _ _ _ _ _ (O5.out.rows.bel (by (repeat (first | (with_reducible first | exact Below.refl _ _ | assumption | refine Later.out _ ?_ | refine bel_alloc ?_ _ | refine bel_drew ?_ | refine bel_drewN ?_ _ | refine bel_set ?_ ?_ _ | refine After.out _ ?_ ?_) | (dsimp only; omega) | omega | (simp only [World.size_alloc, World.size_setCell, World.size_drew]; omega))))) (O10.out.rows.bel (by (repeat (first | (with_reducible first | exact Below.refl _ _ | assumption | refine Later.out _ ?_ | refine bel_alloc ?_ _ | refine bel_drew ?_ | refine bel_drewN ?_ _ | refine bel_set ?_ ?_ _ | refine After.out _ ?_ ?_) | (dsimp only; omega) | omega | (simp only [World.size_alloc, World.size_setCell, World.size_drew]; omega)))))).mono ?_
  rintro e w' ⟨rfl, y11, rfl⟩
  have hsy11 := y11.bel.size
  (try simp only [World.size_alloc, World.size_setCell, World.size_drew] at hsy11)
  have P4 := Lib.hid (O4.out.bel (w' := y11.w) (by (repeat (first | (with_reducible first | exact Below.refl _ _ | assumption | refine Later.out _ ?_ | refine bel_alloc ?_ _ | refine bel_drew ?_ | refine bel_drewN ?_ _ | refine bel_set ?_ ?_ _ | refine After.out _ ?_ ?_) | (dsimp only; omega) | omega | (simp only [World.size_alloc, World.size_setCell, World.size_drew]; omega)))) (Nat.le_refl _))
  have P5 := Lib.hid (O5.out.bel (w' := y11.w) (by (repeat (first | (with_reducible first | exact Below.refl _ _ | assumption | refine Later.out _ ?_ | refine bel_alloc ?_ _ | refine bel_drew ?_ | refine bel_drewN ?_ _ | refine bel_set ?_ ?_ _ | refine After.out _ ?_ ?_) | (dsimp only; omega) | omega | (simp only [World.size_alloc, World.size_setCell, World.size_drew]; omega)))) (Nat.le_refl _))
  have P6 := Lib.hid (O6.out.bel (B := y6.w.heap.size) (w' := y11.w) (by (repeat (first | (with_reducible first | exact Below.refl _ _ | assumption | refine Later.out _ ?_ | refine bel_alloc ?_ _ | refine bel_drew ?_ | refine bel_drewN ?_ _ | refine bel_set ?_ ?_ _ | refine After.out _ ?_ ?_) | (dsimp only; omega) | omega | (simp only [World.size_alloc, World.size_setCell, World.size_drew]; omega)))) (Nat.le_refl _))
  have P3 := Lib.hid (O3.out.bel (B := y3.w.heap.size) (w' := y11.w) (by (repeat (first | (with_reducible first | exact Below.refl _ _ | assumption | refine Later.out _ ?_ | refine bel_alloc ?_ _ | refine bel_drew ?_ | refine bel_drewN ?_ _ | refine bel_set ?_ ?_ _ | refine After.out _ ?_ ?_) | (dsimp only; omega) | omega | (simp only [World.size_alloc, World.size_setCell, World.size_drew]; omega)))) (Nat.le_refl _))
  have l4 := O4.out.lt
  have l5 := O5.out.lt
  clear O1 O2 O3 O4 O5 O6 O8 O10
  go_wp2_with fail
  with_reducible refine (CM.out g4 y4.w.heap.size _ _ _ P4.out (by omega) (by omega)).mono ?_
  rintro e w' ⟨rfl, z12, rfl⟩
  have hsz12 := z12.btw.size
  have Q5 := Lib.hid (P5.out.btw z12.btw (by omega))
  have Q6 := Lib.hid (P6.out.btw z12.btw (.inr (by omega)))
  have Q3 := Lib.hid (P3.out.btw z12.btw (.inl (by omega)))
  clear P4 P5 P6 P3
  go_wp2_with fail
  with_reducible refine (CN.out g5 y5.w.heap.size _ _ _ _ Q5.out (by omega) (by omega) (by omega) (by omega)).mono ?_
  rintro e w' ⟨rfl, z13, rfl⟩
  have hsz13 := z13.btw.size
  have H6 := Lib.hid (Q6.out.btw z13.btw (.inr (by omega)))
  have H3 := Lib.hid (Q3.out.btw z13.btw (.inl (by omega)))
  clear Q5 Q6 Q3
  have hkk : ¬ ((1 : Int) + qa + qb < 0) := by omega
  go_wp2_with fail
  with_reducible refine (CE.out _ _ _ _ _ H6.out.row H3.out.row).mono ?_
  rintro e w' ⟨rfl, y14, rfl⟩
  have hsy14 := y14.bel.size
  (try simp only [World.size_alloc, World.size_setCell, World.size_drew] at hsy14)
  go_wp2_with fail
  with_reducible refine (markStringS_any _ _ _ _ _ 1 _ _ (H6.out.bel (B := z13.w.heap.size) (by (repeat (first | (with_reducible first | exact Below.refl _ _ | assumption | refine Later.out _ ?_ | refine bel_alloc ?_ _ | refine bel_drew ?_ | refine bel_drewN ?_ _ | refine bel_set ?_ ?_ _ | refine After.out _ ?_ ?_) | (dsimp only; omega) | omega | (simp only [World.size_alloc, World.size_setCell, World.size_drew]; omega)))) (by ((try simp only [World.size_alloc, World.size_setCell, World.size_drew]); omega))) (by ((try simp only [World.size_alloc, World.size_setCell, World.size_drew]); omega)) (by omega) (by omega) (by omega)).mono ?_
  rintro e w' ⟨rfl, z15, rfl, hown⟩
  have hsz15 := z15.btw.size
  (try simp only [World.size_alloc, World.size_setCell, World.size_drew] at hsz15)
  have M15 := Lib.hid hown
  clear hown
  have H33 := Lib.hid ((H3.out.bel (B := z13.w.heap.size) (by (repeat (first | (with_reducible first | exact Below.refl _ _ | assumption | refine Later.out _ ?_ | refine bel_alloc ?_ _ | refine bel_drew ?_ | refine bel_drewN ?_ _ | refine bel_set ?_ ?_ _ | refine After.out _ ?_ ?_) | (dsimp only; omega) | omega | (simp only [World.size_alloc, World.size_setCell, World.size_drew]; omega)))) (by ((try simp only [World.size_alloc, World.size_setCell, World.size_drew]); omega))).btw z15.btw (.inl (by ((try simp only [World.size_alloc, World.size_setCell, World.size_drew]); omega))))
  go_wp2_with fail
  with_reducible refine (heldStringS_any _ _ _ 1 _ M15.out.row (by omega) (by omega) (by omega)).mono ?_
  rintro e w' ⟨rfl, y16, rfl⟩
  have hsy16 := y16.bel.size
  (try simp only [World.size_alloc, World.size_setCell, World.size_drew] at hsy16)
  go_wp2_with fail
  with_reducible refine (CT.out _ (hr.out.bel (by (repeat (first | (with_reducible first | exact Below.refl _ _ | assumption | refine Later.out _ ?_ | refine bel_alloc ?_ _ | refine bel_drew ?_ | refine bel_drewN ?_ _ | refine bel_set ?_ ?_ _ | refine After.out _ ?_ ?_) | (dsimp only; omega) | omega | (simp only [World.size_alloc, World.size_setCell, World.size_drew]; omega)))))).mono ?_
  rintro e w' ⟨g17, c17, vs17, rfl, hg17, hot, y17, rfl⟩
  have hsy17 := y17.bel.size
  (try simp only [World.size_alloc, World.size_setCell, World.size_drew] at hsy17 hg17)
  have hcap17 := own_caps2 hot.own.own
  have O17 := Lib.hid hot
  clear hot
  go_wp2_with fail
  with_reducible refine (CU.out _ (hr'.out.bel (by (repeat (first | (with_reducible first | exact Below.refl _ _ | assumption | refine Later.out _ ?_ | refine bel_alloc ?_ _ | refine bel_drew ?_ | refine bel_drewN ?_ _ | refine bel_set ?_ ?_ _ | refine After.out _ ?_ ?_) | (dsimp only; omega) | omega | (simp only [World.size_alloc, World.size_setCell, World.size_drew]; omega)))))).mono ?_
  rintro e w' ⟨g18, c18, vs18, rfl, hg18, hot, y18, rfl⟩
  have hsy18 := y18.bel.size
  (try simp only [World.size_alloc, World.size_setCell, World.size_drew] at hsy18 hg18)
  have hcap18 := own_caps2 hot.own.own
  have O18 := Lib.hid hot
  clear hot
  go_wp2_with fail
  with_reducible refine (CI.out _ _ _ _ _ hcap17.1 hcap17.2 (O17.out.rows.bel (by (repeat (first | (with_reducible first | exact Below.refl _ _ | assumption | refine Later.out _ ?_ | refine bel_alloc ?_ _ | refine bel_drew ?_ | refine bel_drewN ?_ _ | refine bel_set ?_ ?_ _ | refine After.out _ ?_ ?_) | (dsimp only; omega) | omega | (simp only [World.size_alloc, World.size_setCell, World.size_drew]; omega))))) (O18.out.rows.bel (by (repeat (first | (with_reducible first | exact Below.refl _ _ | assumption | refine Later.out _ ?_ | refine bel_alloc ?_ _ | refine bel_drew ?_ | refine bel_drewN ?_ _ | refine bel_set ?_ ?_ _ | refine After.out _ ?_ ?_) | (dsimp only; omega) | omega | (simp only [World.size_alloc, World.size_setCell, World.size_drew]; omega)))))).mono ?_
  rintro e w' ⟨a19, c19, rfl, hown, y19, rfl⟩
  have hsy19 := y19.bel.size
  (try simp only [World.size_alloc, World.size_setCell, World.size_drew] at hsy19)
  have O19 := Lib.hid (Owns.of hown)
  clear hown
  go_wp2_with fail
  with_reducible refine (CE.out _ _ _ _ _ (O19.out.row.bel (by (repeat (first | (with_reducible first | exact Below.refl _ _ | assumption | refine Later.out _ ?_ | refine bel_alloc ?_ _ | refine bel_drew ?_ | refine bel_drewN ?_ _ | refine bel_set ?_ ?_ _ | refine After.out _ ?_ ?_) | (dsimp only; omega) | omega | (simp only [World.size_alloc, World.size_setCell, World.size_drew]; omega))))) (H33.out.row.bel (by (repeat (first | (with_reducible first | exact Below.refl _ _ | assumption | refine Later.out _ ?_ | refine bel_alloc ?_ _ | refine bel_drew ?_ | refine bel_drewN ?_ _ | refine bel_set ?_ ?_ _ | refine After.out _ ?_ ?_) | (dsimp only; omega) | omega | (simp only [World.size_alloc, World.size_setCell, World.size_drew]; omega)))))).mono ?_
  rintro e w' ⟨rfl, y20, rfl⟩
  have hsy20 := y20.bel.size
  (try simp only [World.size_alloc, World.size_setCell, World.size_drew] at hsy20)
  go_wp2_with fail
  with_reducible refine (heldStringS_any _ _ _ 1 _ (M15.out.row.bel (by (repeat (first | (with_reducible first | exact Below.refl _ _ | assumption | refine Later.out _ ?_ | refine bel_alloc ?_ _ | refine bel_drew ?_ | refine bel_drewN ?_ _ | refine bel_set ?_ ?_ _ | refine After.out _ ?_ ?_) | (dsimp only; omega) | omega | (simp only [World.size_alloc, World.size_setCell, World.size_drew]; omega))))) (by omega) (by omega) (by omega)).mono ?_
  rintro e w' ⟨rfl, y21, rfl⟩
  have hsy21 := y21.bel.size
  (try simp only [World.size_alloc, World.size_setCell, World.size_drew] at hsy21)
  go_wp2_with fail
  go_ret
  exact .mk rfl (by (repeat (first | (with_reducible first | exact Below.refl _ _ | assumption | refine Later.out _ ?_ | refine bel_alloc ?_ _ | refine bel_drew ?_ | refine bel_drewN ?_ _ | refine bel_set ?_ ?_ _ | refine After.out _ ?_ ?_) | (dsimp only; omega) | omega | (simp only [World.size_alloc, World.size_setCell, World.size_drew]; omega))))
end Go.Proofs.YtklcaphkfdlipaaGreatDoor

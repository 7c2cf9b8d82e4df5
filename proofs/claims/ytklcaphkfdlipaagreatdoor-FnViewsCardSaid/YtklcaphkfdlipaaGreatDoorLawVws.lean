import Derived.Test.YtklcaphkfdlipaaGreatDoorDrVf
import Derived.Test.YtklcaphkfdlipaaGreatDoorLikeV
import Derived.Test.YtklcaphkfdlipaaGreatDoorPackVa
import Derived.Test.YtklcaphkfdlipaaGreatDoorVwL
/- The law on views: distances, and agreed rings. -/
set_option linter.unusedSimpArgs false
set_option linter.unusedVariables false
namespace Go.Proofs.YtklcaphkfdlipaaGreatDoor
open Go.RowKit
theorem mvL_len {R : List (List Pt)} {V : List Vw} : (mvL R V).length ≤ R.length := by
  unfold mvL; split
  · rw [majL_len]; omega
  · simp
theorem drC_beq (R : List (List Pt)) (V : List Vw) : (drC R V == 0) = viewsB R V := by
  unfold drC
  cases viewsB R V <;> rfl
set_option maxRecDepth 8000 in
set_option maxHeartbeats 16000000 in
theorem lawViews_any (a : Option Addr) (n c : Nat) (bs : List Int) (w : World) (hr : Row w a (byteCells bs)) (hl : bs.length = n) (hm : n ≤ maxLen) (hx : ∀ x ∈ bs, 0 ≤ x ∧ x ≤ 255) :
    Calls Tryz.prog 6 #[.slice a n c] w (Ret w (.bool true)) := by
  by_cases hbig : 4096 < n
  · clear hr hl hx
    go_enter Tryz.func6, Tryz.ntmps6
    go_wp2_with fail
    with_reducible refine (big_yes _ _ _ _ hbig hm).mono ?_
    rintro e w' ⟨rfl, y0, rfl⟩
    have hsy0 := y0.bel.size
    (try simp only [World.size_alloc, World.size_setCell, World.size_drew] at hsy0)
    go_wp2_with fail
    go_ret
    exact .mk rfl (by (repeat (first | (with_reducible first | exact Below.refl _ _ | assumption | refine Later.out _ ?_ | refine bel_alloc ?_ _ | refine bel_drew ?_ | refine bel_drewN ?_ _ | refine bel_set ?_ ?_ _ | refine After.out _ ?_ ?_) | (dsimp only; omega) | omega | (simp only [World.size_alloc, World.size_setCell, World.size_drew]; omega))))
  have hn4 : n ≤ 4096 := by omega
  replace hr := Lib.hid hr
  replace hx := Lib.hid hx
  replace hl := Lib.hid hl
  clear hbig hm
  go_enter Tryz.func6, Tryz.ntmps6
  go_wp2_with fail
  with_reducible refine (big_no _ _ _ _ hn4).mono ?_
  rintro e w' ⟨rfl, y0, rfl⟩
  have hsy0 := y0.bel.size
  (try simp only [World.size_alloc, World.size_setCell, World.size_drew] at hsy0)
  go_wp2_with fail
  with_reducible refine (drawDst_any a n c bs _ (hr.out.bel (by (repeat (first | (with_reducible first | exact Below.refl _ _ | assumption | refine Later.out _ ?_ | refine bel_alloc ?_ _ | refine bel_drew ?_ | refine bel_drewN ?_ _ | refine bel_set ?_ ?_ _ | refine After.out _ ?_ ?_) | (dsimp only; omega) | omega | (simp only [World.size_alloc, World.size_setCell, World.size_drew]; omega))))) hl.out hn4 hx.out).mono ?_
  rintro e w' ⟨R, a1, n1, c1, T, b1, m1, d1, x, z, rfl, -, -, -, -, hF, z1, rfl⟩
  have hs1 := z1.bel.size
  obtain ⟨hl1, hn7, hc1, hcm1, ho1, hr1, hl2, hm5, ho2, hr2⟩ := hF
  subst hl1 hl2
  have ok1 : ∀ r ∈ R, r.length ≤ 1048576 := fun r hr => by have := (ho1 r hr).len; omega
  have ok2 : ∀ v ∈ T, VwOk v := fun v hv => (ho2 v hv).ok
  have CD := fun (x z : Int) (w : World) (hr : RingsR w a1 R) (hr' : ViewsR w b1 T) => ds_impl R T x z a1 b1 R.length c1 T.length d1 w rfl (by omega) hc1 hcm1 ok1 hr rfl (by omega) ok2 hr'
  have CE := fun (w : World) (hr : RingsR w a1 R) (hr' : ViewsR w b1 T) => ds_spec R T x z a1 b1 R.length c1 T.length d1 w rfl (by omega) ok1 hr rfl (by omega) ok2 hr'
  have X1 := fun h => ds_back (R := R) (V := T) (x := x) (y := z) h
  have X2 := fun h k hk => ds_three (R := R) (V := T) (x := x) (y := z) h (k := k) hk
  have CD1 := CD x z
  have CB := fun (h : viewC R T [x, z] = 0) (w : World) (hr : RingsR w a1 R) (hr' : ViewsR w b1 T) => (show Calls Tryz.prog 33 #[.slice a1 R.length c1, .slice b1 T.length d1, .int .i64 z, .int .i64 x] w (Ret w (.tuple #[.int .i64 (dsN R T x z), .int .i64 0])) by
    have := CD z x w hr hr'
    rw [(X1 h).1, (X1 h).2] at this
    exact this)
  have CK1 := fun (h : viewC R T [x, z] = 0) (k : Nat) (hk : k < T.length) (w : World) (hr : RingsR w a1 R) (hr' : ViewsR w b1 T) => (show Calls Tryz.prog 33 #[.slice a1 R.length c1, .slice b1 T.length d1, .int .i64 x, .int .i64 (k : Nat)] w (Ret w (.tuple #[.int .i64 (dsN R T x k), .int .i64 0])) by
    have := CD x k w hr hr'
    rw [(X2 h k hk).1] at this
    exact this)
  have CK2 := fun (h : viewC R T [x, z] = 0) (k : Nat) (hk : k < T.length) (w : World) (hr : RingsR w a1 R) (hr' : ViewsR w b1 T) => (show Calls Tryz.prog 33 #[.slice a1 R.length c1, .slice b1 T.length d1, .int .i64 (k : Nat), .int .i64 z] w (Ret w (.tuple #[.int .i64 (dsN R T k z), .int .i64 0])) by
    have := CD k z w hr hr'
    rw [(X2 h k hk).2.1] at this
    exact this)
  have X3 := fun h k hk => (X2 h k hk).2.2
  clear CD X1 X2
  obtain ⟨P, hP⟩ : ∃ P : Nat → Int, (fun k : Nat => dsN R T x k) = P := ⟨_, rfl⟩
  obtain ⟨Q, hQ⟩ : ∃ Q : Nat → Int, (fun k : Nat => dsN R T k z) = Q := ⟨_, rfl⟩
  have hP1 := fun k => congrFun hP k
  have hQ1 := fun k => congrFun hQ k
  simp only [hP1, hQ1] at CK1 CK2 X3
  clear hP hQ hP1 hQ1
  generalize dsN R T x z = D at *
  generalize viewC R T [x, z] = K1 at *
  replace CD1 := Lib.hid CD1
  replace CE := Lib.hid CE
  replace CB := Lib.hid CB
  replace CK1 := Lib.hid CK1
  replace CK2 := Lib.hid CK2
  replace X3 := Lib.hid X3
  replace hr1 := Lib.hid hr1
  replace hr2 := Lib.hid hr2
  clear ho1 ho2 ok1 ok2
  go_wp2_with fail
  with_reducible refine (CD1.out _ (hr1.out.bel (by (repeat (first | (with_reducible first | exact Below.refl _ _ | assumption | refine Later.out _ ?_ | refine bel_alloc ?_ _ | refine bel_drew ?_ | refine bel_drewN ?_ _ | refine bel_set ?_ ?_ _ | refine After.out _ ?_ ?_) | (dsimp only; omega) | omega | (simp only [World.size_alloc, World.size_setCell, World.size_drew]; omega))))) (hr2.out.bel (by (repeat (first | (with_reducible first | exact Below.refl _ _ | assumption | refine Later.out _ ?_ | refine bel_alloc ?_ _ | refine bel_drew ?_ | refine bel_drewN ?_ _ | refine bel_set ?_ ?_ _ | refine After.out _ ?_ ?_) | (dsimp only; omega) | omega | (simp only [World.size_alloc, World.size_setCell, World.size_drew]; omega)))))).mono ?_
  rintro e w' ⟨rfl, y2, rfl⟩
  have hsy2 := y2.bel.size
  (try simp only [World.size_alloc, World.size_setCell, World.size_drew] at hsy2)
  go_wp2_with fail
  with_reducible refine (CE.out _ (hr1.out.bel (by (repeat (first | (with_reducible first | exact Below.refl _ _ | assumption | refine Later.out _ ?_ | refine bel_alloc ?_ _ | refine bel_drew ?_ | refine bel_drewN ?_ _ | refine bel_set ?_ ?_ _ | refine After.out _ ?_ ?_) | (dsimp only; omega) | omega | (simp only [World.size_alloc, World.size_setCell, World.size_drew]; omega))))) (hr2.out.bel (by (repeat (first | (with_reducible first | exact Below.refl _ _ | assumption | refine Later.out _ ?_ | refine bel_alloc ?_ _ | refine bel_drew ?_ | refine bel_drewN ?_ _ | refine bel_set ?_ ?_ _ | refine After.out _ ?_ ?_) | (dsimp only; omega) | omega | (simp only [World.size_alloc, World.size_setCell, World.size_drew]; omega)))))).mono ?_
  rintro e w' ⟨rfl, y3, rfl⟩
  have hsy3 := y3.bel.size
  (try simp only [World.size_alloc, World.size_setCell, World.size_drew] at hsy3)
  go_wp2_with fail
  with_reducible refine (drawDsp_any a n c bs _ (hr.out.bel (by (repeat (first | (with_reducible first | exact Below.refl _ _ | assumption | refine Later.out _ ?_ | refine bel_alloc ?_ _ | refine bel_drew ?_ | refine bel_drewN ?_ _ | refine bel_set ?_ ?_ _ | refine After.out _ ?_ ?_) | (dsimp only; omega) | omega | (simp only [World.size_alloc, World.size_setCell, World.size_drew]; omega))))) hl.out hn4 hx.out).mono ?_
  rintro e w' ⟨R2, a2, n2, c2, T2, b2, m2, d2, rfl, hF, z4, rfl⟩
  have hs4 := z4.bel.size
  obtain ⟨hl1, hn72, hc2, hcm2, ho1, hr3, hl2, hm52, ho2, hr4⟩ := hF
  subst hl1 hl2
  have ok1 : ∀ r ∈ R2, r.length ≤ 1048576 := fun r hr => by have := (ho1 r hr).len; omega
  have ok2 : ∀ v ∈ T2, VwOk v := fun v hv => (ho2 v hv).ok
  have C1 := Lib.hid (fun (w : World) (hr : RingsR w a2 R2) (hr' : ViewsR w b2 T2) => dr_impl R2 T2 a2 b2 R2.length c2 T2.length d2 w rfl (by omega) hc2 hcm2 ok1 hr rfl (by omega) ok2 hr')
  have C2 := Lib.hid (fun (w : World) (hr : RingsR w a2 R2) (hr' : ViewsR w b2 T2) => dr_spec R2 T2 a2 b2 R2.length c2 T2.length d2 w rfl (by omega) ok1 hr rfl (by omega) ok2 hr')
  have C3 := Lib.hid (fun (w : World) (hr : RingsR w a2 R2) (hr' : ViewsR w b2 T2) => da_impl R2 T2 a2 b2 R2.length c2 T2.length d2 w rfl (by omega) hc2 hcm2 ok1 hr rfl (by omega) ok2 hr')
  have C4 := Lib.hid (fun (w : World) (hr : RingsR w a2 R2) (hr' : ViewsR w b2 T2) => da_spec R2 T2 a2 b2 R2.length c2 T2.length d2 w rfl (by omega) ok1 hr rfl (by omega) ok2 hr')
  have C5 := Lib.hid (fun (w : World) (hr : RingsR w a2 R2) (hr' : ViewsR w b2 T2) => mv_impl R2 T2 a2 b2 R2.length c2 T2.length d2 w rfl (by omega) hc2 hcm2 ok1 hr rfl (by omega) ok2 hr')
  have C6 := Lib.hid (fun (w : World) (hr : RingsR w a2 R2) (hr' : ViewsR w b2 T2) => mv_spec R2 T2 a2 b2 R2.length c2 T2.length d2 w rfl (by omega) ok1 hr rfl (by omega) ok2 hr')
  have C7 := Lib.hid (fun (w : World) (hr : RingsR w a2 R2) (hr' : ViewsR w b2 T2) => areViews_any R2 T2 a2 b2 R2.length c2 T2.length d2 w rfl (by omega) hc2 hcm2 ok1 hr rfl (by omega) ok2 hr')
  have hKB := drC_beq R2 T2
  have hL1 : (drL R2 T2).length ≤ 1048576 := by have := drL_len R2 T2; omega
  have hL2 : (mvL R2 T2).length ≤ 1048576 := by have := mvL_len (R := R2) (V := T2); omega
  have hV1 := fun (h : viewsB R2 T2 = true) => viewsB_ok h
  have hV2 := fun (h : viewsB R2 T2 = true) => (show drL R2 T2 = dispTo T2 R2.length by unfold drL; rw [if_pos h])
  have hV3 := fun (h : viewsB R2 T2 = true) => (show mvL R2 T2 = majL T2 R2.length by unfold mvL; rw [if_pos h])
  generalize drL R2 T2 = DL at *
  generalize mvL R2 T2 = ML at *
  generalize daN R2 T2 = DA at *
  generalize drC R2 T2 = K2 at *
  generalize viewsB R2 T2 = B at *
  replace hr3 := Lib.hid hr3
  replace hr4 := Lib.hid hr4
  replace hV1 := Lib.hid hV1
  replace hV2 := Lib.hid hV2
  replace hV3 := Lib.hid hV3
  clear ho1 ho2 ok1 ok2 CD1 CE
  go_wp2_with fail
  with_reducible refine (C1.out _ (hr3.out.bel (by (repeat (first | (with_reducible first | exact Below.refl _ _ | assumption | refine Later.out _ ?_ | refine bel_alloc ?_ _ | refine bel_drew ?_ | refine bel_drewN ?_ _ | refine bel_set ?_ ?_ _ | refine After.out _ ?_ ?_) | (dsimp only; omega) | omega | (simp only [World.size_alloc, World.size_setCell, World.size_drew]; omega))))) (hr4.out.bel (by (repeat (first | (with_reducible first | exact Below.refl _ _ | assumption | refine Later.out _ ?_ | refine bel_alloc ?_ _ | refine bel_drew ?_ | refine bel_drewN ?_ _ | refine bel_set ?_ ?_ _ | refine After.out _ ?_ ?_) | (dsimp only; omega) | omega | (simp only [World.size_alloc, World.size_setCell, World.size_drew]; omega)))))).mono ?_
  rintro e w' ⟨a5, c5, rfl, hown, y5, rfl⟩
  have hsy5 := y5.bel.size
  (try simp only [World.size_alloc, World.size_setCell, World.size_drew] at hsy5)
  have O5 := Lib.hid (Owns.of hown)
  clear hown
  go_wp2_with fail
  with_reducible refine (C2.out _ (hr3.out.bel (by (repeat (first | (with_reducible first | exact Below.refl _ _ | assumption | refine Later.out _ ?_ | refine bel_alloc ?_ _ | refine bel_drew ?_ | refine bel_drewN ?_ _ | refine bel_set ?_ ?_ _ | refine After.out _ ?_ ?_) | (dsimp only; omega) | omega | (simp only [World.size_alloc, World.size_setCell, World.size_drew]; omega))))) (hr4.out.bel (by (repeat (first | (with_reducible first | exact Below.refl _ _ | assumption | refine Later.out _ ?_ | refine bel_alloc ?_ _ | refine bel_drew ?_ | refine bel_drewN ?_ _ | refine bel_set ?_ ?_ _ | refine After.out _ ?_ ?_) | (dsimp only; omega) | omega | (simp only [World.size_alloc, World.size_setCell, World.size_drew]; omega)))))).mono ?_
  rintro e w' ⟨a6, c6, rfl, hown, y6, rfl⟩
  have hsy6 := y6.bel.size
  (try simp only [World.size_alloc, World.size_setCell, World.size_drew] at hsy6)
  have O6 := Lib.hid (Owns.of hown)
  clear hown
  go_wp2_with fail
  with_reducible refine (C3.out _ (hr3.out.bel (by (repeat (first | (with_reducible first | exact Below.refl _ _ | assumption | refine Later.out _ ?_ | refine bel_alloc ?_ _ | refine bel_drew ?_ | refine bel_drewN ?_ _ | refine bel_set ?_ ?_ _ | refine After.out _ ?_ ?_) | (dsimp only; omega) | omega | (simp only [World.size_alloc, World.size_setCell, World.size_drew]; omega))))) (hr4.out.bel (by (repeat (first | (with_reducible first | exact Below.refl _ _ | assumption | refine Later.out _ ?_ | refine bel_alloc ?_ _ | refine bel_drew ?_ | refine bel_drewN ?_ _ | refine bel_set ?_ ?_ _ | refine After.out _ ?_ ?_) | (dsimp only; omega) | omega | (simp only [World.size_alloc, World.size_setCell, World.size_drew]; omega)))))).mono ?_
  rintro e w' ⟨rfl, y7, rfl⟩
  have hsy7 := y7.bel.size
  (try simp only [World.size_alloc, World.size_setCell, World.size_drew] at hsy7)
  go_wp2_with fail
  with_reducible refine (C4.out _ (hr3.out.bel (by (repeat (first | (with_reducible first | exact Below.refl _ _ | assumption | refine Later.out _ ?_ | refine bel_alloc ?_ _ | refine bel_drew ?_ | refine bel_drewN ?_ _ | refine bel_set ?_ ?_ _ | refine After.out _ ?_ ?_) | (dsimp only; omega) | omega | (simp only [World.size_alloc, World.size_setCell, World.size_drew]; omega))))) (hr4.out.bel (by (repeat (first | (with_reducible first | exact Below.refl _ _ | assumption | refine Later.out _ ?_ | refine bel_alloc ?_ _ | refine bel_drew ?_ | refine bel_drewN ?_ _ | refine bel_set ?_ ?_ _ | refine After.out _ ?_ ?_) | (dsimp only; omega) | omega | (simp only [World.size_alloc, World.size_setCell, World.size_drew]; omega)))))).mono ?_
  rintro e w' ⟨rfl, y8, rfl⟩
  have hsy8 := y8.bel.size
  (try simp only [World.size_alloc, World.size_setCell, World.size_drew] at hsy8)
  go_wp2_with fail
  with_reducible refine (C5.out _ (hr3.out.bel (by (repeat (first | (with_reducible first | exact Below.refl _ _ | assumption | refine Later.out _ ?_ | refine bel_alloc ?_ _ | refine bel_drew ?_ | refine bel_drewN ?_ _ | refine bel_set ?_ ?_ _ | refine After.out _ ?_ ?_) | (dsimp only; omega) | omega | (simp only [World.size_alloc, World.size_setCell, World.size_drew]; omega))))) (hr4.out.bel (by (repeat (first | (with_reducible first | exact Below.refl _ _ | assumption | refine Later.out _ ?_ | refine bel_alloc ?_ _ | refine bel_drew ?_ | refine bel_drewN ?_ _ | refine bel_set ?_ ?_ _ | refine After.out _ ?_ ?_) | (dsimp only; omega) | omega | (simp only [World.size_alloc, World.size_setCell, World.size_drew]; omega)))))).mono ?_
  rintro e w' ⟨a9, c9, rfl, hown, y9, rfl⟩
  have hsy9 := y9.bel.size
  (try simp only [World.size_alloc, World.size_setCell, World.size_drew] at hsy9)
  have O9 := Lib.hid (Owns.of hown)
  clear hown
  go_wp2_with fail
  with_reducible refine (C6.out _ (hr3.out.bel (by (repeat (first | (with_reducible first | exact Below.refl _ _ | assumption | refine Later.out _ ?_ | refine bel_alloc ?_ _ | refine bel_drew ?_ | refine bel_drewN ?_ _ | refine bel_set ?_ ?_ _ | refine After.out _ ?_ ?_) | (dsimp only; omega) | omega | (simp only [World.size_alloc, World.size_setCell, World.size_drew]; omega))))) (hr4.out.bel (by (repeat (first | (with_reducible first | exact Below.refl _ _ | assumption | refine Later.out _ ?_ | refine bel_alloc ?_ _ | refine bel_drew ?_ | refine bel_drewN ?_ _ | refine bel_set ?_ ?_ _ | refine After.out _ ?_ ?_) | (dsimp only; omega) | omega | (simp only [World.size_alloc, World.size_setCell, World.size_drew]; omega)))))).mono ?_
  rintro e w' ⟨a10, c10, rfl, hown, y10, rfl⟩
  have hsy10 := y10.bel.size
  (try simp only [World.size_alloc, World.size_setCell, World.size_drew] at hsy10)
  have O10 := Lib.hid (Owns.of hown)
  clear hown
  clear C1 C2 C3 C4 C5 C6
  go_wp2_with fail
  with_reducible refine (likeInts_same (l := DL) (n := DL.length) (n' := DL.length) rfl rfl hL1 hL1 (O5.out.row.bel (by (repeat (first | (with_reducible first | exact Below.refl _ _ | assumption | refine Later.out _ ?_ | refine bel_alloc ?_ _ | refine bel_drew ?_ | refine bel_drewN ?_ _ | refine bel_set ?_ ?_ _ | refine After.out _ ?_ ?_) | (dsimp only; omega) | omega | (simp only [World.size_alloc, World.size_setCell, World.size_drew]; omega))))) (O6.out.row.bel (by (repeat (first | (with_reducible first | exact Below.refl _ _ | assumption | refine Later.out _ ?_ | refine bel_alloc ?_ _ | refine bel_drew ?_ | refine bel_drewN ?_ _ | refine bel_set ?_ ?_ _ | refine After.out _ ?_ ?_) | (dsimp only; omega) | omega | (simp only [World.size_alloc, World.size_setCell, World.size_drew]; omega)))))).mono ?_
  rintro e w' ⟨rfl, y11, rfl⟩
  have hsy11 := y11.bel.size
  (try simp only [World.size_alloc, World.size_setCell, World.size_drew] at hsy11)
  go_wp2_with fail
  with_reducible refine (likeTexts_same _ _ _ _ _ _ _ _ rfl rfl hL2 (O9.out.row.bel (by (repeat (first | (with_reducible first | exact Below.refl _ _ | assumption | refine Later.out _ ?_ | refine bel_alloc ?_ _ | refine bel_drew ?_ | refine bel_drewN ?_ _ | refine bel_set ?_ ?_ _ | refine After.out _ ?_ ?_) | (dsimp only; omega) | omega | (simp only [World.size_alloc, World.size_setCell, World.size_drew]; omega))))) (O10.out.row.bel (by (repeat (first | (with_reducible first | exact Below.refl _ _ | assumption | refine Later.out _ ?_ | refine bel_alloc ?_ _ | refine bel_drew ?_ | refine bel_drewN ?_ _ | refine bel_set ?_ ?_ _ | refine After.out _ ?_ ?_) | (dsimp only; omega) | omega | (simp only [World.size_alloc, World.size_setCell, World.size_drew]; omega)))))).mono ?_
  rintro e w' ⟨rfl, y12, rfl⟩
  have hsy12 := y12.bel.size
  (try simp only [World.size_alloc, World.size_setCell, World.size_drew] at hsy12)
  go_wp2_with fail
  with_reducible refine (C7.out _ (hr3.out.bel (by (repeat (first | (with_reducible first | exact Below.refl _ _ | assumption | refine Later.out _ ?_ | refine bel_alloc ?_ _ | refine bel_drew ?_ | refine bel_drewN ?_ _ | refine bel_set ?_ ?_ _ | refine After.out _ ?_ ?_) | (dsimp only; omega) | omega | (simp only [World.size_alloc, World.size_setCell, World.size_drew]; omega))))) (hr4.out.bel (by (repeat (first | (with_reducible first | exact Below.refl _ _ | assumption | refine Later.out _ ?_ | refine bel_alloc ?_ _ | refine bel_drew ?_ | refine bel_drewN ?_ _ | refine bel_set ?_ ?_ _ | refine After.out _ ?_ ?_) | (dsimp only; omega) | omega | (simp only [World.size_alloc, World.size_setCell, World.size_drew]; omega)))))).mono ?_
  rintro e w' ⟨rfl, y13, rfl⟩
  have hsy13 := y13.bel.size
  (try simp only [World.size_alloc, World.size_setCell, World.size_drew] at hsy13)
  go_upto_if 160 with fail
  go_cut [25, 26, 27] from 161 to 213 (fun _ _ _ wr => ∃ y : Later y13.w, wr = y.w)
  case first =>
    cases B
    · go_wp2_with fail
      go_meet
      exact ⟨⟨y13.w, Below.refl _ _⟩, rfl⟩
    · obtain ⟨v1, v4, vo⟩ := hV1.out rfl
      obtain rfl := hV2.out rfl
      obtain rfl := hV3.out rfl
      have hd := Lib.hid (fun i (h : i < R2.length) => has_disp (V := T2) h)
      have hj := Lib.hid (fun i (h : agreeT T2 i T2.length = true) => maj_agree (V := T2) v1 h)
      have hMl := majL_len T2 R2.length
      have hvo := Lib.hid vo
      clear vo hV1 hV2 hV3 C7
      go_wp2_with fail
      go_loopw [25] (fun t25 wr => ∃ i : Nat, i ≤ R2.length ∧ t25 = .int .i64 i ∧ ∃ y : Later y13.w, wr = y.w) (fun t25 _ => R2.length - (intOf t25).toNat)
      case atStart => exact ⟨0, Nat.zero_le _, rfl, ⟨_, Below.refl _ _⟩, rfl⟩
      case round =>
        obtain ⟨i, hi, rfl, q, rfl⟩ := hrel
        have hqs := q.bel.size
        by_cases hlt : i < R2.length
        · have hi1 : (i : Int) < (R2.length : Int) := by omega
          have hdi := hd.out i hlt
          have hji := hj.out i
          obtain ⟨bb, oo, av, cv, rfl, hbb, -, p1, p2, -, -⟩ := hr4.out.at_ (i := 0) (by omega)
          rw [hvo.out _ (List.getElem_mem (show 0 < T2.length by omega))] at p1
          obtain ⟨bv, ov, rfl, hbv, p3⟩ := p2.str (k := i) (by rw [hvo.out _ (List.getElem_mem (show 0 < T2.length by omega))]; exact hlt)
          obtain ⟨bm, om, rfl, hbm, p4⟩ := O9.out.row.str (k := i) (by omega)
          have eo : T2[0].own[i]'(by rw [hvo.out _ (List.getElem_mem (show 0 < T2.length by omega))]; exact hlt) = ownAt (atV T2 0) i := by
            rw [atV_get (by omega), ownAt_get]
          have em : (majL T2 R2.length)[i]'(by omega) = majO T2 i := by simp [majL]
          rw [eo] at p3
          rw [em] at p4
          have eA := fun k => (show agreeT T2 i (k + 1) = (agreeT T2 i k && !othB (atV T2 k) (atV T2 0) i) from rfl)
          have hbb' : bb < y13.w.heap.size := by omega
          have hbv' : bv < y13.w.heap.size := by omega
          have hbm' : bm < y13.w.heap.size := by omega
          have hL1' : (dispTo T2 R2.length).length ≤ 1048576 := hL1
          have CH := Lib.hid (fun (w : World) (hr : Row w a5 (intCells (dispTo T2 R2.length))) => hasInt_any (i : Int) (dispTo T2 R2.length) a5 (dispTo T2 R2.length).length c5 w rfl hL1' hr)
          rw [hdi] at CH
          replace eA := Lib.hid eA
          clear eo em hdi
          go_wp2_with fail
          go_loopw [26, 27] (fun t26 t27 wr => ∃ k : Nat, k ≤ T2.length ∧ t27 = .int .i64 k ∧ t26 = .bool (agreeT T2 i k) ∧ ∃ y : Later q.w, wr = y.w) (fun _ t27 _ => T2.length - (intOf t27).toNat)
          case atStart => exact ⟨0, Nat.zero_le _, rfl, rfl, ⟨_, Below.refl _ _⟩, rfl⟩
          case round =>
            obtain ⟨k, hk, rfl, rfl, u, rfl⟩ := hrel
            have hus := u.bel.size
            by_cases hltk : k < T2.length
            · have hk1 : (k : Int) < (T2.length : Int) := by omega
              obtain ⟨b', o', ak, ck, he, -, -, q1, q2, -, -⟩ := hr4.out.at_ (i := k) hltk
              cases he
              have hlk := hvo.out _ (List.getElem_mem hltk)
              rw [hlk] at q1
              obtain ⟨bk, ok, rfl, hbk, q3⟩ := q2.str (k := i) (by omega)
              have eo : T2[k].own[i]'(by omega) = ownAt (atV T2 k) i := by rw [atV_get hltk, ownAt_get]
              rw [eo] at q3
              have hbk' : bk < y13.w.heap.size := by omega
              have hst := eA.out k
              have hoB : othB (atV T2 k) (atV T2 0) i = !((ownAt (atV T2 k) i).toList == (ownAt (atV T2 0) i).toList) := rfl
              rw [hoB, Bool.not_not] at hst
              generalize ownAt (atV T2 k) i = sk at *
              generalize ownAt (atV T2 0) i = s0 at *
              generalize agreeT T2 i k = A at *
              clear eo hoB q2 hlk
              replace hst := Lib.hid hst
              cases A
              · go_wp2_with fail
                go_quiet (fail)
                go_wp2_with fail
                go_roundw
                case rel => exact ⟨k + 1, by omega, by go_num, by rw [hst.out]; rfl, LaterC.mk (by (repeat (first | (with_reducible first | exact Below.refl _ _ | assumption | refine Later.out _ ?_ | refine bel_alloc ?_ _ | refine bel_drew ?_ | refine bel_drewN ?_ _ | refine bel_set ?_ ?_ _ | refine After.out _ ?_ ?_) | (dsimp only; omega) | omega | (simp only [World.size_alloc, World.size_setCell, World.size_drew]; omega))))⟩
                case measure => first | (simp [intOf]; done) | (simp [intOf]; omega) | omega
              · go_wp2_with fail
                go_quiet (fail)
                go_wp2_with fail
                go_roundw
                case rel => exact ⟨k + 1, by omega, by go_num, by rw [hst.out]; rfl, LaterC.mk (by (repeat (first | (with_reducible first | exact Below.refl _ _ | assumption | refine Later.out _ ?_ | refine bel_alloc ?_ _ | refine bel_drew ?_ | refine bel_drewN ?_ _ | refine bel_set ?_ ?_ _ | refine After.out _ ?_ ?_) | (dsimp only; omega) | omega | (simp only [World.size_alloc, World.size_setCell, World.size_drew]; omega))))⟩
                case measure => first | (simp [intOf]; done) | (simp [intOf]; omega) | omega
            · obtain rfl : k = T2.length := by omega
              rcases hA : agreeT T2 i T2.length with _ | _
              · rw [hA] at CH
                clear hA hji
                go_wp2_with fail
                refine wp_region_later (by kernel_rfl) (by kernel_rfl) ?_
                repeat (go_big_quiet_step ((first | (go_at_call 43; exact Calls.later (CH.out _ (O5.out.row.bel (by (repeat (first | (with_reducible first | exact Below.refl _ _ | assumption | refine Later.out _ ?_ | refine bel_alloc ?_ _ | refine bel_drew ?_ | refine bel_drewN ?_ _ | refine bel_set ?_ ?_ _ | refine After.out _ ?_ ?_) | (dsimp only; omega) | omega | (simp only [World.size_alloc, World.size_setCell, World.size_drew]; omega))))))))))
                refine wpQuiet_nil ?_
                rintro _ ⟨xq, rfl⟩
                go_wp2_with fail
                go_roundw
                case rel => exact ⟨i + 1, by omega, by go_num, LaterC.mk (by (repeat (first | (with_reducible first | exact Below.refl _ _ | assumption | refine Later.out _ ?_ | refine bel_alloc ?_ _ | refine bel_drew ?_ | refine bel_drewN ?_ _ | refine bel_set ?_ ?_ _ | refine After.out _ ?_ ?_) | (dsimp only; omega) | omega | (simp only [World.size_alloc, World.size_setCell, World.size_drew]; omega))))⟩
                case measure => first | (simp [intOf]; done) | (simp [intOf]; omega) | omega
              · have e9 := hji hA
                rw [hA] at CH
                rw [e9] at p4
                generalize ownAt (atV T2 0) i = s0 at *
                have hsame : (s0.toList != s0.toList) = false := by simp
                clear hA hji e9
                go_wp2_with fail
                refine wp_region_later (by kernel_rfl) (by kernel_rfl) ?_
                repeat (go_big_quiet_step ((first | (go_at_call 43; exact Calls.later (CH.out _ (O5.out.row.bel (by (repeat (first | (with_reducible first | exact Below.refl _ _ | assumption | refine Later.out _ ?_ | refine bel_alloc ?_ _ | refine bel_drew ?_ | refine bel_drewN ?_ _ | refine bel_set ?_ ?_ _ | refine After.out _ ?_ ?_) | (dsimp only; omega) | omega | (simp only [World.size_alloc, World.size_setCell, World.size_drew]; omega))))))))))
                refine wpQuiet_nil ?_
                rintro _ ⟨xq, rfl⟩
                go_wp2_with fail
                go_roundw
                case rel => exact ⟨i + 1, by omega, by go_num, LaterC.mk (by (repeat (first | (with_reducible first | exact Below.refl _ _ | assumption | refine Later.out _ ?_ | refine bel_alloc ?_ _ | refine bel_drew ?_ | refine bel_drewN ?_ _ | refine bel_set ?_ ?_ _ | refine After.out _ ?_ ?_) | (dsimp only; omega) | omega | (simp only [World.size_alloc, World.size_setCell, World.size_drew]; omega))))⟩
                case measure => first | (simp [intOf]; done) | (simp [intOf]; omega) | omega
        · obtain rfl : i = R2.length := by omega
          go_wp2_with fail
          go_meet
          exact ⟨⟨q.w, q.bel⟩, rfl⟩
  case rest =>
    obtain ⟨y14, rfl⟩ := hcut
    have hs14 := y14.bel.size
    by_cases hK : K1 = 0
    · have X4 := Lib.hid (X3.out hK)
      have CK3 := Lib.hid (CK1.out hK)
      have CK4 := Lib.hid (CK2.out hK)
      have CB3 := Lib.hid (CB.out hK)
      subst hK
      clear X3 CK1 CK2 CB
      go_wp2_with fail
      with_reducible refine (CB3.out _ (hr1.out.bel (by (repeat (first | (with_reducible first | exact Below.refl _ _ | assumption | refine Later.out _ ?_ | refine bel_alloc ?_ _ | refine bel_drew ?_ | refine bel_drewN ?_ _ | refine bel_set ?_ ?_ _ | refine After.out _ ?_ ?_) | (dsimp only; omega) | omega | (simp only [World.size_alloc, World.size_setCell, World.size_drew]; omega))))) (hr2.out.bel (by (repeat (first | (with_reducible first | exact Below.refl _ _ | assumption | refine Later.out _ ?_ | refine bel_alloc ?_ _ | refine bel_drew ?_ | refine bel_drewN ?_ _ | refine bel_set ?_ ?_ _ | refine After.out _ ?_ ?_) | (dsimp only; omega) | omega | (simp only [World.size_alloc, World.size_setCell, World.size_drew]; omega)))))).mono ?_
      rintro e w' ⟨rfl, y15, rfl⟩
      have hsy15 := y15.bel.size
      (try simp only [World.size_alloc, World.size_setCell, World.size_drew] at hsy15)
      go_wp2_with fail
      go_loopw [30] (fun t30 wr => ∃ k : Nat, k ≤ T.length ∧ t30 = .int .i64 k ∧ ∃ y : Later y15.w, wr = y.w) (fun t30 _ => T.length - (intOf t30).toNat)
      case atStart => exact ⟨0, Nat.zero_le _, rfl, ⟨_, Below.refl _ _⟩, rfl⟩
      case round =>
        obtain ⟨k, hk, rfl, q, rfl⟩ := hrel
        have hqs := q.bel.size
        by_cases hlt : k < T.length
        · have hk1 : (k : Int) < (T.length : Int) := by omega
          obtain ⟨t1, t2, t3, t4, t5⟩ := X4.out k hlt
          have D1 := Lib.hid (CK3.out k hlt)
          have D2 := Lib.hid (CK4.out k hlt)
          generalize P k = PK at *
          generalize Q k = QK at *
          have hgt : ¬ D > PK + QK := by omega
          go_wp2_with fail
          with_reducible refine (D1.out _ (hr1.out.bel (by (repeat (first | (with_reducible first | exact Below.refl _ _ | assumption | refine Later.out _ ?_ | refine bel_alloc ?_ _ | refine bel_drew ?_ | refine bel_drewN ?_ _ | refine bel_set ?_ ?_ _ | refine After.out _ ?_ ?_) | (dsimp only; omega) | omega | (simp only [World.size_alloc, World.size_setCell, World.size_drew]; omega))))) (hr2.out.bel (by (repeat (first | (with_reducible first | exact Below.refl _ _ | assumption | refine Later.out _ ?_ | refine bel_alloc ?_ _ | refine bel_drew ?_ | refine bel_drewN ?_ _ | refine bel_set ?_ ?_ _ | refine After.out _ ?_ ?_) | (dsimp only; omega) | omega | (simp only [World.size_alloc, World.size_setCell, World.size_drew]; omega)))))).mono ?_
          rintro e w' ⟨rfl, u1, rfl⟩
          have hsu1 := u1.bel.size
          (try simp only [World.size_alloc, World.size_setCell, World.size_drew] at hsu1)
          go_wp2_with fail
          with_reducible refine (D2.out _ (hr1.out.bel (by (repeat (first | (with_reducible first | exact Below.refl _ _ | assumption | refine Later.out _ ?_ | refine bel_alloc ?_ _ | refine bel_drew ?_ | refine bel_drewN ?_ _ | refine bel_set ?_ ?_ _ | refine After.out _ ?_ ?_) | (dsimp only; omega) | omega | (simp only [World.size_alloc, World.size_setCell, World.size_drew]; omega))))) (hr2.out.bel (by (repeat (first | (with_reducible first | exact Below.refl _ _ | assumption | refine Later.out _ ?_ | refine bel_alloc ?_ _ | refine bel_drew ?_ | refine bel_drewN ?_ _ | refine bel_set ?_ ?_ _ | refine After.out _ ?_ ?_) | (dsimp only; omega) | omega | (simp only [World.size_alloc, World.size_setCell, World.size_drew]; omega)))))).mono ?_
          rintro e w' ⟨rfl, u2, rfl⟩
          have hsu2 := u2.bel.size
          (try simp only [World.size_alloc, World.size_setCell, World.size_drew] at hsu2)
          go_wp2_with fail
          go_roundw
          case rel => exact ⟨k + 1, by omega, by go_num, LaterC.mk (by (repeat (first | (with_reducible first | exact Below.refl _ _ | assumption | refine Later.out _ ?_ | refine bel_alloc ?_ _ | refine bel_drew ?_ | refine bel_drewN ?_ _ | refine bel_set ?_ ?_ _ | refine After.out _ ?_ ?_) | (dsimp only; omega) | omega | (simp only [World.size_alloc, World.size_setCell, World.size_drew]; omega))))⟩
          case measure => first | (simp [intOf]; done) | (simp [intOf]; omega) | omega
        · obtain rfl : k = T.length := by omega
          go_wp2_with fail
          go_ret
          exact .mk rfl (by (repeat (first | (with_reducible first | exact Below.refl _ _ | assumption | refine Later.out _ ?_ | refine bel_alloc ?_ _ | refine bel_drew ?_ | refine bel_drewN ?_ _ | refine bel_set ?_ ?_ _ | refine After.out _ ?_ ?_) | (dsimp only; omega) | omega | (simp only [World.size_alloc, World.size_setCell, World.size_drew]; omega))))
    · have hK' : (K1 != 0) = true := by simpa using hK
      go_wp2_with fail
      go_ret
      exact .mk rfl (by (repeat (first | (with_reducible first | exact Below.refl _ _ | assumption | refine Later.out _ ?_ | refine bel_alloc ?_ _ | refine bel_drew ?_ | refine bel_drewN ?_ _ | refine bel_set ?_ ?_ _ | refine After.out _ ?_ ?_) | (dsimp only; omega) | omega | (simp only [World.size_alloc, World.size_setCell, World.size_drew]; omega))))
end Go.Proofs.YtklcaphkfdlipaaGreatDoor

import Derived.Test.YtklcaphkfdlipaaGreatDoorMaj2
/- MajorityView: the reference's side. -/
set_option linter.unusedSimpArgs false
set_option linter.unusedVariables false
namespace Go.Proofs.YtklcaphkfdlipaaGreatDoor
open Go.RowKit
set_option maxRecDepth 8000 in
set_option maxHeartbeats 4000000 in
theorem mv_spec (R : List (List Pt)) (V : List Vw) (a b : Option Addr) (n c m d : Nat) (w : World) (hn : R.length = n) (hm : n ≤ 1048576) (ok : ∀ r ∈ R, r.length ≤ 1048576) (hr : RingsR w a R)
    (hn' : V.length = m) (hm' : m ≤ 1048576) (ok' : ∀ v ∈ V, VwOk v) (hr' : ViewsR w b V) :
    Calls Tryz.prog 39 #[.slice a n c, .slice b m d] w (RetOwn w 9 1 (mvL R V).length (strCells (mvL R V)) fun v => .tuple #[v, .int .i64 (drC R V)]) := by
  have CC := Lib.hid (fun (w : World) (hr : RingsR w a R) (hr' : ViewsR w b V) => sAreViews_any R V a b n c m d w hn hm ok hr hn' hm' ok' hr')
  replace hr := Lib.hid hr
  cases hB : viewsB R V
  · have e1 : mvL R V = [] := by unfold mvL; rw [hB]; rfl
    have e2 : drC R V = 1 := by unfold drC; rw [hB]; rfl
    rw [e1, e2]
    rw [hB] at CC
    replace hr' := Lib.hid hr'
    clear e1 e2 hB ok ok'
    go_enter Tryz.func39, Tryz.ntmps39
    go_wp2_with fail
    with_reducible refine (CC.out _ (hr.out.bel (by (repeat (first | (with_reducible first | exact Below.refl _ _ | assumption | refine Later.out _ ?_ | refine bel_alloc ?_ _ | refine bel_drew ?_ | refine bel_drewN ?_ _ | refine bel_set ?_ ?_ _ | refine After.out _ ?_ ?_) | (dsimp only; omega) | omega | (simp only [World.size_alloc, World.size_setCell, World.size_drew]; omega))))) (hr'.out.bel (by (repeat (first | (with_reducible first | exact Below.refl _ _ | assumption | refine Later.out _ ?_ | refine bel_alloc ?_ _ | refine bel_drew ?_ | refine bel_drewN ?_ _ | refine bel_set ?_ ?_ _ | refine After.out _ ?_ ?_) | (dsimp only; omega) | omega | (simp only [World.size_alloc, World.size_setCell, World.size_drew]; omega)))))).mono ?_
    rintro e w' ⟨rfl, y1, rfl⟩
    have hsy1 := y1.bel.size
    (try simp only [World.size_alloc, World.size_setCell, World.size_drew] at hsy1)
    go_wp2_with fail
    refine bodyPost_ret (by simp [results, Tryz.results39, go_sem, ↓IntWalk.iteOmega, *]; try rfl) rfl ?_
    exact RetOwn.mk (.slice none 0 0) rfl (World.ownsRow_nil _ _ _ _) (by (repeat (first | (with_reducible first | exact Below.refl _ _ | assumption | refine Later.out _ ?_ | refine bel_alloc ?_ _ | refine bel_drew ?_ | refine bel_drewN ?_ _ | refine bel_set ?_ ?_ _ | refine After.out _ ?_ ?_) | (dsimp only; omega) | omega | (simp only [World.size_alloc, World.size_setCell, World.size_drew]; omega))))
  subst hn hn'
  have h6 := mapB_len (viewsB_map hB)
  have hvo := viewsB_ok hB
  have h1 := hvo.one
  have h4 := hvo.four
  have e1 : mvL R V = majL V R.length := by unfold mvL; rw [hB]; rfl
  have e2 : drC R V = 0 := by unfold drC; rw [hB]; rfl
  rw [e1, e2, majL_len]
  rw [hB] at CC
  obtain ⟨b1, o1, -, -, rfl, hb1, -⟩ := hr'.at_ (i := 0) h1
  have MA := Lib.hid (fun (i : Nat) (hi : i < R.length) (k : Nat) (hk : k < V.length) => maj_at hvo hi hr' hk)
  have hS := Lib.hid (majL_succ V)
  have hLen := Lib.hid (majL_len V)
  have h0 := Lib.hid (show majL V 0 = [] from rfl)
  have hM0 := Lib.hid (fun i => (show majT V i 0 = .empty from rfl))
  have hMO := Lib.hid (fun i => (show majO V i = majT V i V.length from rfl))
  have hlit := Lib.hid (fun (W : World) (h : w.heap.size ≤ W.heap.size) => World.ownsRow_lit (base := w.heap.size) (e := 9) (size := 1) W #[] 0 h (by unfold maxLen; omega) rfl)
  obtain ⟨ii, j1, j2, j3, j4⟩ := info_str'
  have Jii := Lib.hid (And.intro j1 (And.intro j2 (And.intro j3 j4)))
  replace hr' := Lib.hid hr'
  generalize majL V = ML at *
  clear e1 e2 hB ok ok' hvo j1 j2 j3 j4
  go_enter Tryz.func39, Tryz.ntmps39
  go_wp2_with fail
  with_reducible refine (CC.out _ (hr.out.bel (by (repeat (first | (with_reducible first | exact Below.refl _ _ | assumption | refine Later.out _ ?_ | refine bel_alloc ?_ _ | refine bel_drew ?_ | refine bel_drewN ?_ _ | refine bel_set ?_ ?_ _ | refine After.out _ ?_ ?_) | (dsimp only; omega) | omega | (simp only [World.size_alloc, World.size_setCell, World.size_drew]; omega))))) (hr'.out.bel (by (repeat (first | (with_reducible first | exact Below.refl _ _ | assumption | refine Later.out _ ?_ | refine bel_alloc ?_ _ | refine bel_drew ?_ | refine bel_drewN ?_ _ | refine bel_set ?_ ?_ _ | refine After.out _ ?_ ?_) | (dsimp only; omega) | omega | (simp only [World.size_alloc, World.size_setCell, World.size_drew]; omega)))))).mono ?_
  rintro e w' ⟨rfl, y1, rfl⟩
  have hsy1 := y1.bel.size
  (try simp only [World.size_alloc, World.size_setCell, World.size_drew] at hsy1)
  go_wp2_with fail
  go_loopw [6, 7] (fun t6 t7 wr => ∃ (k : Nat) (a6 : Option Addr) (c6 : Nat), k ≤ R.length ∧ t7 = .int .i64 k ∧ t6 = .slice a6 k c6 ∧ wr.ownsRow w.heap.size 9 1 (.slice a6 k c6) k (strCells (ML k)) ∧ ∃ z : Later w, wr = z.w) (fun _ t7 _ => R.length - (intOf t7).toNat)
  case atStart => exact ⟨0, _, 0, Nat.zero_le _, rfl, rfl, by rw [h0.out]; exact hlit.out _ (by omega), LaterC.mk (by (repeat (first | (with_reducible first | exact Below.refl _ _ | assumption | refine Later.out _ ?_ | refine bel_alloc ?_ _ | refine bel_drew ?_ | refine bel_drewN ?_ _ | refine bel_set ?_ ?_ _ | refine After.out _ ?_ ?_) | (dsimp only; omega) | omega | (simp only [World.size_alloc, World.size_setCell, World.size_drew]; omega))))⟩
  case round =>
    obtain ⟨k, a6, c6, hk, rfl, rfl, hown, z, rfl⟩ := hrel
    have hzz := z.bel.size
    replace hown := Lib.hid hown
    by_cases hlt : k < R.length
    · have hk1 : (k : Int) < (R.length : Int) := by omega
      have MK := Lib.hid (MA.out k hlt)
      have m0 := Lib.hid (hM0.out k)
      have mo := Lib.hid (hMO.out k)
      have X := Lib.hid (hS.out k)
      have hlk := Lib.hid (hLen.out k)
      have hcl : (strCells (ML k)).length = k := by simpa [strCells] using hlk.out
      have z1 : b1 < z.w.heap.size := by omega
      go_wp2_with fail
      go_loopw [8, 9] (fun t8 t9 wr => ∃ i : Nat, i ≤ V.length ∧ t9 = .int .i64 i ∧ t8 = .string (majT V k i) ∧ ∃ z2 : Later z.w, wr = z2.w) (fun _ t9 _ => V.length - (intOf t9).toNat)
      case atStart => exact ⟨0, Nat.zero_le _, rfl, by rw [m0.out]; rfl, ⟨_, Below.refl _ _⟩, rfl⟩
      case round =>
        obtain ⟨i, hi, rfl, rfl, z4, rfl⟩ := hrel
        have hz4 := z4.bel.size
        by_cases hil : i < V.length
        · have hi1 : (i : Int) < (V.length : Int) := by omega
          obtain ⟨hh, s, bs, os, ck, CN, OB, F⟩ := MK.out i hil
          obtain ⟨q0, q1, hbs, ps, f0, fy, fn, fl, -, -, ft, fk, fc, -⟩ := F
          replace fy := Lib.hid fy
          replace fn := Lib.hid fn
          replace fl := Lib.hid fl
          replace ft := Lib.hid ft
          replace fk := Lib.hid fk
          replace fc := Lib.hid fc
          replace f0 := Lib.hid f0
          have z2 : bs < z4.w.heap.size := by omega
          have z7 : b1 < z4.w.heap.size := by omega
          go_wp2_with fail
          go_loopw [10, 11] (fun t10 t11 wr => ∃ j : Nat, j ≤ V.length ∧ t11 = .int .i64 j ∧ t10 = .int .i64 (CN j) ∧ ∃ z2 : Later z.w, wr = z2.w) (fun _ t11 _ => V.length - (intOf t11).toNat)
          case atStart => exact ⟨0, Nat.zero_le _, rfl, by rw [f0.out]; rfl, z4, rfl⟩
          case round =>
            obtain ⟨j, hj, rfl, rfl, z5, rfl⟩ := hrel
            have hz5 := z5.bel.size
            have hlj := fl.out j
            by_cases hjl : j < V.length
            · have hj1 : (j : Int) < (V.length : Int) := by omega
              obtain ⟨h2, b2, o2, c2, s2, r0, r1, hb2, r2, eo⟩ := fc.out j hjl
              have z3 : b2 < z5.w.heap.size := by omega
              have z8 : b1 < z5.w.heap.size := by omega
              have z9 : bs < z5.w.heap.size := by omega
              have Y := Lib.hid (fy.out j)
              have N := Lib.hid (fn.out j)
              cases ho : OB j
              · have X2 := Lib.hid (N.out ho)
                rw [ho] at eo
                replace eo : (s2.toList == s.toList) = true := eo
                clear Y N
                go_wp2_with fail
                refine wp_region_later (by kernel_rfl) (by kernel_rfl) ?_
                repeat (go_big_quiet_step (fail))
                refine wpQuiet_nil ?_
                rintro _ ⟨xq, rfl⟩
                go_wp2_with fail
                go_roundw
                case rel => exact ⟨j + 1, by omega, by go_num, by rw [X2.out]; go_num, LaterC.mk (by (repeat (first | (with_reducible first | exact Below.refl _ _ | assumption | refine Later.out _ ?_ | refine bel_alloc ?_ _ | refine bel_drew ?_ | refine bel_drewN ?_ _ | refine bel_set ?_ ?_ _ | refine After.out _ ?_ ?_) | (dsimp only; omega) | omega | (simp only [World.size_alloc, World.size_setCell, World.size_drew]; omega))))⟩
                case measure => first | (simp [intOf]; done) | (simp [intOf]; omega) | omega
              · have X2 := Lib.hid (Y.out ho)
                rw [ho] at eo
                replace eo : (s2.toList == s.toList) = false := eo
                clear Y N
                go_wp2_with fail
                refine wp_region_later (by kernel_rfl) (by kernel_rfl) ?_
                repeat (go_big_quiet_step (fail))
                refine wpQuiet_nil ?_
                rintro _ ⟨xq, rfl⟩
                go_wp2_with fail
                go_roundw
                case rel => exact ⟨j + 1, by omega, by go_num, by rw [X2.out], LaterC.mk (by (repeat (first | (with_reducible first | exact Below.refl _ _ | assumption | refine Later.out _ ?_ | refine bel_alloc ?_ _ | refine bel_drew ?_ | refine bel_drewN ?_ _ | refine bel_set ?_ ?_ _ | refine After.out _ ?_ ?_) | (dsimp only; omega) | omega | (simp only [World.size_alloc, World.size_setCell, World.size_drew]; omega))))⟩
                case measure => first | (simp [intOf]; done) | (simp [intOf]; omega) | omega
            · obtain rfl : j = V.length := by omega
              by_cases hbg : V.length < 2 * CN V.length
              · have X2 := Lib.hid (ft.out hbg)
                have hb1 : ((V.length : Nat) : Int) < 2 * ((CN V.length : Nat) : Int) := by omega
                go_wp2_with fail
                go_roundw
                case rel => exact ⟨i + 1, by omega, by go_num, by rw [X2.out], LaterC.mk (by (repeat (first | (with_reducible first | exact Below.refl _ _ | assumption | refine Later.out _ ?_ | refine bel_alloc ?_ _ | refine bel_drew ?_ | refine bel_drewN ?_ _ | refine bel_set ?_ ?_ _ | refine After.out _ ?_ ?_) | (dsimp only; omega) | omega | (simp only [World.size_alloc, World.size_setCell, World.size_drew]; omega))))⟩
                case measure => first | (simp [intOf]; done) | (simp [intOf]; omega) | omega
              · have X2 := Lib.hid (fk.out hbg)
                have hb1 : ¬ ((V.length : Nat) : Int) < 2 * ((CN V.length : Nat) : Int) := by omega
                go_wp2_with fail
                go_roundw
                case rel => exact ⟨i + 1, by omega, by go_num, by rw [X2.out], LaterC.mk (by (repeat (first | (with_reducible first | exact Below.refl _ _ | assumption | refine Later.out _ ?_ | refine bel_alloc ?_ _ | refine bel_drew ?_ | refine bel_drewN ?_ _ | refine bel_set ?_ ?_ _ | refine After.out _ ?_ ?_) | (dsimp only; omega) | omega | (simp only [World.size_alloc, World.size_setCell, World.size_drew]; omega))))⟩
                case measure => first | (simp [intOf]; done) | (simp [intOf]; omega) | omega
        · obtain rfl : i = V.length := by omega
          go_wp2_with (at_builtin; (refine wpList_append_later _ rfl _ _ _ rfl 9 ii _ 1 16 Tryz.underlying46 Jii.out.1 Jii.out.2.1 Jii.out.2.2.1 Jii.out.2.2.2 rfl (by decide) (w) ?qa1 _ _ _ (strCells (ML k)) rfl ?qa2 _ _ _ ([.string (majT V k V.length)]) rfl ?qa3 ?qa4 ?qa5 ?qa6 ?qa7 ?_); (case qa1 => (repeat (first | (with_reducible first | exact Below.refl _ _ | assumption | refine Later.out _ ?_ | refine bel_alloc ?_ _ | refine bel_drew ?_ | refine bel_drewN ?_ _ | refine bel_set ?_ ?_ _ | refine After.out _ ?_ ?_) | (dsimp only; omega) | omega | (simp only [World.size_alloc, World.size_setCell, World.size_drew]; omega)))); (case qa2 => exact own_bel hown.out (by (repeat (first | (with_reducible first | exact Below.refl _ _ | assumption | refine Later.out _ ?_ | refine bel_alloc ?_ _ | refine bel_drew ?_ | refine bel_drewN ?_ _ | refine bel_set ?_ ?_ _ | refine After.out _ ?_ ?_) | (dsimp only; omega) | omega | (simp only [World.size_alloc, World.size_setCell, World.size_drew]; omega))))); (case qa3 => (first | rfl | (simp [boolCells]; done) | (simp [intCells]; done) | (simp; done) | (first | omega | (simp only [List.length_append, List.length_cons, List.length_nil]; omega)))); (case qa4 => exact Row.madeAt (by simp only [World.size_alloc]; try rfl) rfl); (case qa5 => exact one_str1 _); (case qa6 => (unfold maxLen; (first | omega | (simp only [List.length_append, List.length_cons, List.length_nil]; omega)))); (case qa7 => (first | omega | (simp only [List.length_append, List.length_cons, List.length_nil]; omega))); intro a9 c9 x9 hown9)
          replace hown9 := Lib.hid hown9
          go_roundw
          case rel => exact ⟨k + 1, a9, c9, by omega, by go_num, rfl, by rw [X.out, mo.out]; simpa [strCells] using hown9.out, x9, rfl⟩
          case measure => first | (simp [intOf]; done) | (simp [intOf]; omega) | omega
    · obtain rfl : k = R.length := by omega
      go_wp2_with fail
      refine bodyPost_ret (by simp [results, Tryz.results39, go_sem, ↓IntWalk.iteOmega, *]; try rfl) rfl ?_
      exact RetOwn.mk _ rfl hown.out z.bel
end Go.Proofs.YtklcaphkfdlipaaGreatDoor

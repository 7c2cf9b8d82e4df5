import Derived.Test.YtklcaphkfdlipaaGreatDoorMaj
import Derived.Test.YtklcaphkfdlipaaGreatDoorInsV
/- MajorityView: impl's side. -/
set_option linter.unusedSimpArgs false
set_option linter.unusedVariables false
namespace Go.Proofs.YtklcaphkfdlipaaGreatDoor
open Go.RowKit
noncomputable def mvL (R : List (List Pt)) (V : List Vw) : List ByteArray := if viewsB R V then majL V R.length else []
set_option maxRecDepth 8000 in
set_option maxHeartbeats 4000000 in
theorem mv_impl (R : List (List Pt)) (V : List Vw) (a b : Option Addr) (n c m d : Nat) (w : World) (hn : R.length = n) (hm : n ≤ 1048576) (hc : n ≤ c) (hcm : c ≤ maxLen) (ok : ∀ r ∈ R, r.length ≤ 1048576) (hr : RingsR w a R)
    (hn' : V.length = m) (hm' : m ≤ 1048576) (ok' : ∀ v ∈ V, VwOk v) (hr' : ViewsR w b V) :
    Calls Tryz.prog 38 #[.slice a n c, .slice b m d] w (RetOwn w 9 1 (mvL R V).length (strCells (mvL R V)) fun v => .tuple #[v, .int .i64 (drC R V)]) := by
  have CC := Lib.hid (fun (w : World) (hr : RingsR w a R) (hr' : ViewsR w b V) => viewCode_any R V [] a b none n c m d 0 0 w hn hm hc hcm ok hr hn' hm' ok' hr' rfl (by omega) (Row.nil _ _))
  rw [viewC_nil] at CC
  replace hr := Lib.hid hr
  replace hr' := Lib.hid hr'
  cases hB : viewsB R V
  · have e1 : mvL R V = [] := by unfold mvL; rw [hB]; rfl
    have e2 : drC R V = 1 := by unfold drC; rw [hB]; rfl
    rw [e1, e2]
    rw [e2] at CC
    clear e1 e2 hB ok ok' hcm
    go_enter Tryz.func38, Tryz.ntmps38
    go_wp2_with fail
    with_reducible refine (CC.out _ (hr.out.bel (by (repeat (first | (with_reducible first | exact Below.refl _ _ | assumption | refine Later.out _ ?_ | refine bel_alloc ?_ _ | refine bel_drew ?_ | refine bel_drewN ?_ _ | refine bel_set ?_ ?_ _ | refine After.out _ ?_ ?_) | (dsimp only; omega) | omega | (simp only [World.size_alloc, World.size_setCell, World.size_drew]; omega))))) (hr'.out.bel (by (repeat (first | (with_reducible first | exact Below.refl _ _ | assumption | refine Later.out _ ?_ | refine bel_alloc ?_ _ | refine bel_drew ?_ | refine bel_drewN ?_ _ | refine bel_set ?_ ?_ _ | refine After.out _ ?_ ?_) | (dsimp only; omega) | omega | (simp only [World.size_alloc, World.size_setCell, World.size_drew]; omega)))))).mono ?_
    rintro e w' ⟨rfl, y1, rfl⟩
    have hsy1 := y1.bel.size
    (try simp only [World.size_alloc, World.size_setCell, World.size_drew] at hsy1)
    go_wp2_with fail
    refine bodyPost_ret (by simp [results, Tryz.results38, go_sem, ↓IntWalk.iteOmega, *]; try rfl) rfl ?_
    exact RetOwn.mk (.slice none 0 0) rfl (World.ownsRow_nil _ _ _ _) (by (repeat (first | (with_reducible first | exact Below.refl _ _ | assumption | refine Later.out _ ?_ | refine bel_alloc ?_ _ | refine bel_drew ?_ | refine bel_drewN ?_ _ | refine bel_set ?_ ?_ _ | refine After.out _ ?_ ?_) | (dsimp only; omega) | omega | (simp only [World.size_alloc, World.size_setCell, World.size_drew]; omega))))
  subst hn hn'
  have h6 := mapB_len (viewsB_map hB)
  have hvo := viewsB_ok hB
  have e1 : mvL R V = majL V R.length := by unfold mvL; rw [hB]; rfl
  have e2 : drC R V = 0 := by unfold drC; rw [hB]; rfl
  rw [e1, e2, majL_len]
  rw [e2] at CC
  have CM := Lib.hid (fun (i : Nat) (hi : i < R.length) (w : World) (hr' : ViewsR w b V) => majority_any V i b V.length d R.length w hvo hi (by omega) rfl hr')
  have hS := Lib.hid (majL_succ V)
  have hLen := Lib.hid (majL_len V)
  have h0 := Lib.hid (show majL V 0 = [] from rfl)
  obtain ⟨ii, j1, j2, j3, j4⟩ := info_str'
  have Jii := Lib.hid (And.intro j1 (And.intro j2 (And.intro j3 j4)))
  generalize majL V = ML at *
  generalize majO V = MO at *
  clear e1 e2 hB ok ok' hcm hvo j1 j2 j3 j4
  go_enter Tryz.func38, Tryz.ntmps38
  go_wp2_with fail
  with_reducible refine (CC.out _ (hr.out.bel (by (repeat (first | (with_reducible first | exact Below.refl _ _ | assumption | refine Later.out _ ?_ | refine bel_alloc ?_ _ | refine bel_drew ?_ | refine bel_drewN ?_ _ | refine bel_set ?_ ?_ _ | refine After.out _ ?_ ?_) | (dsimp only; omega) | omega | (simp only [World.size_alloc, World.size_setCell, World.size_drew]; omega))))) (hr'.out.bel (by (repeat (first | (with_reducible first | exact Below.refl _ _ | assumption | refine Later.out _ ?_ | refine bel_alloc ?_ _ | refine bel_drew ?_ | refine bel_drewN ?_ _ | refine bel_set ?_ ?_ _ | refine After.out _ ?_ ?_) | (dsimp only; omega) | omega | (simp only [World.size_alloc, World.size_setCell, World.size_drew]; omega)))))).mono ?_
  rintro e w' ⟨rfl, y1, rfl⟩
  have hsy1 := y1.bel.size
  (try simp only [World.size_alloc, World.size_setCell, World.size_drew] at hsy1)
  go_wp2_with fail
  go_loopw [7, 17] (fun t7 t17 wr => ∃ (k : Nat) (a6 : Option Addr) (c6 : Nat), k ≤ R.length ∧ t17 = .int .i64 k ∧ t7 = .slice a6 k c6 ∧ wr.ownsRow w.heap.size 9 1 (.slice a6 k c6) k (strCells (ML k)) ∧ ∃ z : Later w, wr = z.w) (fun _ t17 _ => R.length - (intOf t17).toNat)
  case atStart => exact ⟨0, none, 0, Nat.zero_le _, rfl, rfl, by rw [h0.out]; exact World.ownsRow_nil _ _ _ _, LaterC.mk (by (repeat (first | (with_reducible first | exact Below.refl _ _ | assumption | refine Later.out _ ?_ | refine bel_alloc ?_ _ | refine bel_drew ?_ | refine bel_drewN ?_ _ | refine bel_set ?_ ?_ _ | refine After.out _ ?_ ?_) | (dsimp only; omega) | omega | (simp only [World.size_alloc, World.size_setCell, World.size_drew]; omega))))⟩
  case round =>
    obtain ⟨k, a6, c6, hk, rfl, rfl, hown, z, rfl⟩ := hrel
    have hzz := z.bel.size
    replace hown := Lib.hid hown
    by_cases hlt : k < R.length
    · have hk1 : (k : Int) < (R.length : Int) := by omega
      have CK := Lib.hid (CM.out k hlt)
      have X := Lib.hid (hS.out k)
      have hlk := Lib.hid (hLen.out k)
      have hcl : (strCells (ML k)).length = k := by simpa [strCells] using hlk.out
      go_wp2_with fail
      with_reducible refine (CK.out _ (hr'.out.bel (by (repeat (first | (with_reducible first | exact Below.refl _ _ | assumption | refine Later.out _ ?_ | refine bel_alloc ?_ _ | refine bel_drew ?_ | refine bel_drewN ?_ _ | refine bel_set ?_ ?_ _ | refine After.out _ ?_ ?_) | (dsimp only; omega) | omega | (simp only [World.size_alloc, World.size_setCell, World.size_drew]; omega)))))).mono ?_
      rintro e w' ⟨rfl, y2, rfl⟩
      have hsy2 := y2.bel.size
      (try simp only [World.size_alloc, World.size_setCell, World.size_drew] at hsy2)
      go_wp2_with (at_builtin; (refine wpList_append_later _ rfl _ _ _ rfl 9 ii _ 1 16 Tryz.underlying46 Jii.out.1 Jii.out.2.1 Jii.out.2.2.1 Jii.out.2.2.2 rfl (by decide) (w) ?qa1 _ _ _ (strCells (ML k)) rfl ?qa2 _ _ _ ([.string (MO k)]) rfl ?qa3 ?qa4 ?qa5 ?qa6 ?qa7 ?_); (case qa1 => (repeat (first | (with_reducible first | exact Below.refl _ _ | assumption | refine Later.out _ ?_ | refine bel_alloc ?_ _ | refine bel_drew ?_ | refine bel_drewN ?_ _ | refine bel_set ?_ ?_ _ | refine After.out _ ?_ ?_) | (dsimp only; omega) | omega | (simp only [World.size_alloc, World.size_setCell, World.size_drew]; omega)))); (case qa2 => exact own_bel hown.out (by (repeat (first | (with_reducible first | exact Below.refl _ _ | assumption | refine Later.out _ ?_ | refine bel_alloc ?_ _ | refine bel_drew ?_ | refine bel_drewN ?_ _ | refine bel_set ?_ ?_ _ | refine After.out _ ?_ ?_) | (dsimp only; omega) | omega | (simp only [World.size_alloc, World.size_setCell, World.size_drew]; omega))))); (case qa3 => (first | rfl | (simp [boolCells]; done) | (simp [intCells]; done) | (simp; done) | (first | omega | (simp only [List.length_append, List.length_cons, List.length_nil]; omega)))); (case qa4 => exact Row.madeAt (by simp only [World.size_alloc]; try rfl) rfl); (case qa5 => exact one_str1 _); (case qa6 => (unfold maxLen; (first | omega | (simp only [List.length_append, List.length_cons, List.length_nil]; omega)))); (case qa7 => (first | omega | (simp only [List.length_append, List.length_cons, List.length_nil]; omega))); intro a9 c9 x9 hown9)
      replace hown9 := Lib.hid hown9
      go_roundw
      case rel => exact ⟨k + 1, a9, c9, by omega, by go_num, rfl, by rw [X.out]; simpa [strCells] using hown9.out, x9, rfl⟩
      case measure => first | (simp [intOf]; done) | (simp [intOf]; omega) | omega
    · obtain rfl : k = R.length := by omega
      go_wp2_with fail
      refine bodyPost_ret (by simp [results, Tryz.results38, go_sem, ↓IntWalk.iteOmega, *]; try rfl) rfl ?_
      exact RetOwn.mk _ rfl hown.out z.bel
end Go.Proofs.YtklcaphkfdlipaaGreatDoor

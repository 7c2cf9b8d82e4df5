import Derived.Test.YtklcaphkfdlipaaGreatDoorDrUV
import Derived.Test.YtklcaphkfdlipaaGreatDoorPackVa
/- Points out of a list of numbers: some points. -/
set_option linter.unusedSimpArgs false
set_option linter.unusedVariables false
namespace Go.Proofs.YtklcaphkfdlipaaGreatDoor
open Go.RowKit
/-- Some points, in memory of the call's own, with coordinates between lo and hi. -/
def RetPtsN (w : World) (m : Nat) (lo hi : Int) (e : Ending) (w' : World) : Prop :=
  ∃ (L : List Pt) (a : Option Addr) (n c : Nat), (∀ p ∈ L, lo ≤ p.x ∧ p.x ≤ hi ∧ lo ≤ p.y ∧ p.y ≤ hi) ∧ n ≤ m ∧ L.length = n ∧ e = .returned (.slice a n c) ∧ w'.ownsRow w.heap.size 72 2 (.slice a n c) n (ptsCells L) ∧ ∃ z : Later w, w' = z.w
set_option maxRecDepth 8000 in
set_option maxHeartbeats 4000000 in
theorem l17Points_any (l : List Int) (lo hi : Int) (a : Option Addr) (n c : Nat) (w : World) (hn : l.length = n) (hm : n ≤ 100) (hl : ∀ x ∈ l, lo ≤ x ∧ x ≤ hi) (hr : Row w a (intCells l)) :
    Calls Tryz.prog 147 #[.slice a n c] w (RetPtsN w n lo hi) := by
  subst hn
  obtain ⟨ii, j1, j2, j3, j4⟩ := info_pt'
  have Jii := Lib.hid (And.intro j1 (And.intro j2 (And.intro j3 j4)))
  have HL := Lib.hid (fun (k : Nat) (h : k < l.length) => hl _ (List.getElem_mem h))
  have hlit := Lib.hid (fun (W : World) (h : w.heap.size ≤ W.heap.size) => World.ownsRow_lit (base := w.heap.size) (e := 72) (size := 2) W #[] 0 h (by unfold maxLen; omega) rfl)
  replace hr := Lib.hid hr
  clear hl j1 j2 j3 j4
  go_enter Tryz.func147, Tryz.ntmps147
  go_wp2_with fail
  go_loopw [3, 4] (fun t3 t4 wr => ∃ (j k : Nat) (L : List Pt) (a3 : Option Addr) (c3 : Nat), j ≤ l.length + 1 ∧ j = 2 * k ∧ t4 = .int .i64 j ∧ t3 = .slice a3 k c3 ∧ L.length = k ∧ (∀ p ∈ L, lo ≤ p.x ∧ p.x ≤ hi ∧ lo ≤ p.y ∧ p.y ≤ hi) ∧ wr.ownsRow w.heap.size 72 2 (.slice a3 k c3) k (ptsCells L) ∧ ∃ z : Later w, wr = z.w) (fun _ t4 _ => l.length + 2 - (intOf t4).toNat)
  case atStart => exact ⟨0, 0, [], _, 0, by omega, rfl, rfl, rfl, rfl, (fun p h => by cases h), hlit.out _ (by omega), LaterC.mk (by (repeat (first | (with_reducible first | exact Below.refl _ _ | assumption | refine Later.out _ ?_ | refine bel_alloc ?_ _ | refine bel_drew ?_ | refine bel_drewN ?_ _ | refine bel_set ?_ ?_ _ | refine After.out _ ?_ ?_) | (dsimp only; omega) | omega | (simp only [World.size_alloc, World.size_setCell, World.size_drew]; omega))))⟩
  case round =>
    obtain ⟨j, k, L, a3, c3, hk, hjk, rfl, rfl, hlk, hL, hown, z, rfl⟩ := hrel
    replace hjk := Lib.hid hjk
    have hkj : k ≤ j := by have := hjk.out; omega
    have hzz := z.bel.size
    replace hown := Lib.hid hown
    replace hL := Lib.hid hL
    have hlk' := Lib.hid hlk
    by_cases hlt : j + 1 < l.length
    · obtain ⟨b1, o1, rfl, hb1, q1⟩ := hr.out.int (k := j) (by omega)
      obtain ⟨b2, o2, he, hb2, q2⟩ := hr.out.int (k := j + 1) hlt
      cases he
      have B1 := HL.out j (by omega)
      have B2 := HL.out (j + 1) hlt
      generalize l[j]'(by omega) = x at *
      generalize l[j + 1]'hlt = y at *
      have z1 : b1 < z.w.heap.size := by omega
      have hcl := length_ptsCells L
      rw [hlk] at hcl
      have hi1 : (j : Int) + 1 < (l.length : Int) := by omega
      have hi2 : (j : Int) < (l.length : Int) := by omega
      go_wp2_with fail
      refine wp_region_plan2 [(0, true), (1, true), (2, true), (3, true), (4, true), (5, true), (6, true), (7, true), (8, true), (9, true), (10, true), (11, false), (12, false), (13, true)] (C := LaterC (w)) (by kernel_rfl) (by kernel_rfl) (by kernel_rfl) rfl (fun _ _ d _ _ h => by cases d <;> exact h) (LaterC.mk ((by (repeat (first | (with_reducible first | exact Below.refl _ _ | assumption | refine Later.out _ ?_ | refine bel_alloc ?_ _ | refine bel_drew ?_ | refine bel_drewN ?_ _ | refine bel_set ?_ ?_ _ | refine After.out _ ?_ ?_) | (dsimp only; omega) | omega | (simp only [World.size_alloc, World.size_setCell, World.size_drew]; omega)))))) ?_
      first | (refine plan_quiet nth0 rfl ?_; intro KP hKP; go_big_quiet_op; go_big_quiet_on) | (refine plan_skip_q nth0 rfl rfl ?_; simp only [Act.put, List.setIfInBounds_toArray, List.set_cons_zero, List.set_cons_succ])
      first | (refine plan_quiet nth1 rfl ?_; intro KP hKP; go_big_quiet_op; go_big_quiet_on) | (refine plan_skip_q nth1 rfl rfl ?_; simp only [Act.put, List.setIfInBounds_toArray, List.set_cons_zero, List.set_cons_succ])
      first | (refine plan_quiet nth2 rfl ?_; intro KP hKP; go_big_quiet_op; go_big_quiet_on) | (refine plan_skip_q nth2 rfl rfl ?_; simp only [Act.put, List.setIfInBounds_toArray, List.set_cons_zero, List.set_cons_succ])
      first | (refine plan_quiet nth3 rfl ?_; intro KP hKP; go_big_quiet_op; go_big_quiet_on) | (refine plan_skip_q nth3 rfl rfl ?_; simp only [Act.put, List.setIfInBounds_toArray, List.set_cons_zero, List.set_cons_succ])
      first | (refine plan_quiet nth4 rfl ?_; intro KP hKP; go_big_quiet_op; go_big_quiet_on) | (refine plan_skip_q nth4 rfl rfl ?_; simp only [Act.put, List.setIfInBounds_toArray, List.set_cons_zero, List.set_cons_succ])
      first | (refine plan_quiet nth5 rfl ?_; intro KP hKP; go_big_quiet_op; go_big_quiet_on) | (refine plan_skip_q nth5 rfl rfl ?_; simp only [Act.put, List.setIfInBounds_toArray, List.set_cons_zero, List.set_cons_succ])
      first | (refine plan_quiet nth6 rfl ?_; intro KP hKP; go_big_quiet_op; go_big_quiet_on) | (refine plan_skip_q nth6 rfl rfl ?_; simp only [Act.put, List.setIfInBounds_toArray, List.set_cons_zero, List.set_cons_succ])
      first | (refine plan_quiet nth7 rfl ?_; intro KP hKP; go_big_quiet_op; go_big_quiet_on) | (refine plan_skip_q nth7 rfl rfl ?_; simp only [Act.put, List.setIfInBounds_toArray, List.set_cons_zero, List.set_cons_succ])
      first | (refine plan_quiet nth8 rfl ?_; intro KP hKP; go_big_quiet_op; go_big_quiet_on) | (refine plan_skip_q nth8 rfl rfl ?_; simp only [Act.put, List.setIfInBounds_toArray, List.set_cons_zero, List.set_cons_succ])
      first | (refine plan_quiet nth9 rfl ?_; intro KP hKP; go_big_quiet_op; go_big_quiet_on) | (refine plan_skip_q nth9 rfl rfl ?_; simp only [Act.put, List.setIfInBounds_toArray, List.set_cons_zero, List.set_cons_succ])
      first | (refine plan_quiet nth10 rfl ?_; intro KP hKP; go_big_quiet_op; go_big_quiet_on) | (refine plan_skip_q nth10 rfl rfl ?_; simp only [Act.put, List.setIfInBounds_toArray, List.set_cons_zero, List.set_cons_succ])
      first | (refine plan_loud nth11 rfl ?_; intro KP hKP; go_wp2_with fail; refine hKP _ _ (LaterC.mk (by (repeat (first | (with_reducible first | exact Below.refl _ _ | assumption | refine Later.out _ ?_ | refine bel_alloc ?_ _ | refine bel_drew ?_ | refine bel_drewN ?_ _ | refine bel_set ?_ ?_ _ | refine After.out _ ?_ ?_) | (dsimp only; omega) | omega | (simp only [World.size_alloc, World.size_setCell, World.size_drew]; omega))))) ?_; clear hKP KP) | (refine plan_skip nth11 rfl rfl (LaterC.mk (by (repeat (first | (with_reducible first | exact Below.refl _ _ | assumption | refine Later.out _ ?_ | refine bel_alloc ?_ _ | refine bel_drew ?_ | refine bel_drewN ?_ _ | refine bel_set ?_ ?_ _ | refine After.out _ ?_ ?_) | (dsimp only; omega) | omega | (simp only [World.size_alloc, World.size_setCell, World.size_drew]; omega))))) ?_; simp only [Act.put, List.setIfInBounds_toArray, List.set_cons_zero, List.set_cons_succ])
      refine plan_loud nth12 rfl ?_
      intro KP hKP
      ((refine oper_append_later _ _ _ _ rfl 72 ii _ 2 16 Tryz.underlying83 Jii.out.1 Jii.out.2.1 Jii.out.2.2.1 Jii.out.2.2.2 rfl (by decide) (w) ?qa1 _ _ _ (ptsCells L) rfl ?qa2 _ _ _ (ptCells ⟨x, y⟩) rfl ?qa3 ?qa4 ?qa5 ?qa6 ?qa7 ?_); (case qa1 => (repeat (first | (with_reducible first | exact Below.refl _ _ | assumption | refine Later.out _ ?_ | refine bel_alloc ?_ _ | refine bel_drew ?_ | refine bel_drewN ?_ _ | refine bel_set ?_ ?_ _ | refine After.out _ ?_ ?_) | (dsimp only; omega) | omega | (simp only [World.size_alloc, World.size_setCell, World.size_drew]; omega)))); (case qa2 => exact own_bel hown.out (by (repeat (first | (with_reducible first | exact Below.refl _ _ | assumption | refine Later.out _ ?_ | refine bel_alloc ?_ _ | refine bel_drew ?_ | refine bel_drewN ?_ _ | refine bel_set ?_ ?_ _ | refine After.out _ ?_ ?_) | (dsimp only; omega) | omega | (simp only [World.size_alloc, World.size_setCell, World.size_drew]; omega))))); (case qa3 => (first | rfl | (simp [boolCells]; done) | (simp [intCells]; done) | (simp; done) | (first | omega | (simp only [List.length_append, List.length_cons, List.length_nil]; omega)))); (case qa4 => exact Row.madeAt (by simp only [World.size_alloc, World.size_drew]; try rfl) rfl); (case qa5 => exact one_pt _); (case qa6 => (unfold maxLen; (first | omega | (simp only [List.length_append, List.length_cons, List.length_nil]; omega)))); (case qa7 => (first | omega | (simp only [List.length_append, List.length_cons, List.length_nil]; omega))); intro a9 c9 x9 hown9; replace hown9 := Lib.hid hown9)
      refine hKP _ _ (LaterC.mk (by (repeat (first | (with_reducible first | exact Below.refl _ _ | assumption | refine Later.out _ ?_ | refine bel_alloc ?_ _ | refine bel_drew ?_ | refine bel_drewN ?_ _ | refine bel_set ?_ ?_ _ | refine After.out _ ?_ ?_) | (dsimp only; omega) | omega | (simp only [World.size_alloc, World.size_setCell, World.size_drew]; omega))))) ?_
      clear hKP KP
      simp only [Act.put, List.setIfInBounds_toArray, List.set_cons_zero, List.set_cons_succ]
      refine plan_quiet nth13 rfl ?_
      intro KP hKP
      go_big_quiet_op
      go_big_quiet_on
      refine plan_nil ?_
      go_wp2_with fail
      go_roundw
      case rel =>
        refine ⟨j + 2, k + 1, L ++ [⟨x, y⟩], a9, c9, by omega, by rw [hjk.out]; omega, by go_num, rfl, by simp [hlk'.out], fun p hp => ?_, by rw [ptsCells_one]; exact hown9.out, x9, rfl⟩
        rcases List.mem_append.1 hp with hp | hp
        · exact hL.out p hp
        · rw [List.mem_singleton.1 hp]; exact ⟨B1.1, B1.2, B2.1, B2.2⟩
      case measure => first | (simp [intOf]; done) | (simp [intOf]; omega) | omega
    · have hi1 : ¬ (j : Int) + 1 < (l.length : Int) := by omega
      go_wp2_with fail
      go_ret
      exact ⟨L, a3, k, c3, hL.out, by have := hjk.out; omega, hlk'.out, rfl, hown.out, z, rfl⟩
end Go.Proofs.YtklcaphkfdlipaaGreatDoor

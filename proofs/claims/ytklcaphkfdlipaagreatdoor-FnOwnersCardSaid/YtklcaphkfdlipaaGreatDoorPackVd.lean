import Derived.Test.YtklcaphkfdlipaaGreatDoorPackVa
import Derived.Test.YtklcaphkfdlipaaGreatDoorCross
import Derived.Laws.StructEq
/- Several of my texts, one behind the other: Ring, RingC. -/
/- Rings: corners, turns at corners, edges apart: both sides. -/
set_option linter.unusedSimpArgs false
set_option linter.unusedVariables false
namespace Go.Proofs.YtklcaphkfdlipaaGreatDoor
open Go.RowKit
/-- The corner with an index, counted on around the end. -/
def cor (L : List Pt) (i : Nat) : Pt := L.getD (i % L.length) ⟨0, 0⟩
theorem cor_lt {L : List Pt} {i : Nat} (h : i < L.length) : cor L i = L[i] := by
  unfold cor
  rw [Nat.mod_eq_of_lt h, List.getD_eq_getElem?_getD, List.getElem?_eq_getElem h]
  rfl
theorem cor_mod {L : List Pt} {i : Nat} (h : 0 < L.length) : cor L i = L[i % L.length]'(Nat.mod_lt _ h) := by
  unfold cor
  rw [List.getD_eq_getElem?_getD, List.getElem?_eq_getElem (Nat.mod_lt _ h)]
  rfl
theorem cor_mem {L : List Pt} {i : Nat} (h : 0 < L.length) : cor L i ∈ L := by rw [cor_mod h]; exact List.getElem_mem _
set_option maxHeartbeats 400000 in
theorem corner_any (L : List Pt) (i : Nat) (a : Option Addr) (n c : Nat) (w : World) (hn : L.length = n) (h0 : 0 < n) (hm : n ≤ 1048576) (hi : i ≤ 4194304) (hr : Row w a (ptsCells L)) :
    Calls Tryz.prog 114 #[.slice a n c, .int .i64 i] w (Ret w (ptV (cor L i))) := by
  subst hn
  have hlt := Nat.mod_lt i h0
  obtain ⟨b, o, rfl, hb, q0, q1⟩ := hr.pt hlt
  rw [cor_mod h0]
  generalize L[i % L.length] = P at q0 q1 ⊢
  have hE : (i : Int) % (L.length : Int) = ((i % L.length : Nat) : Int) := (Int.natCast_emod i L.length).symm
  obtain ⟨j, hj⟩ : ∃ j, i % L.length = j := ⟨_, rfl⟩
  rw [hj] at hE q0 q1 hlt
  have hT : Int.tmod (i : Int) (L.length : Int) = (j : Int) := by rw [Int.tmod_eq_emod_of_nonneg (by omega), hE]
  have hl0 : (0 : Int) < (L.length : Int) := by omega
  have hl1 : (L.length : Int) ≠ 0 := by omega
  have hj1 : (j : Int) < (L.length : Int) := by omega
  clear hj
  go_enter Tryz.func114, Tryz.ntmps114
  go_wp2_with fail
  go_returns
  exact .mk rfl bb
set_option maxHeartbeats 400000 in
theorem l16At_any (L : List Pt) (i : Nat) (a : Option Addr) (n c : Nat) (w : World) (hn : L.length = n) (h0 : 0 < n) (hm : n ≤ 1048576) (hi : i ≤ 4194304) (hr : Row w a (ptsCells L)) :
    Calls Tryz.prog 112 #[.slice a n c, .int .i64 i] w (Ret w (ptV (cor L i))) := by
  subst hn
  have hlt := Nat.mod_lt i h0
  obtain ⟨b, o, rfl, hb, q0, q1⟩ := hr.pt hlt
  rw [cor_mod h0]
  generalize L[i % L.length] = P at q0 q1 ⊢
  have hE : (i : Int) % (L.length : Int) = ((i % L.length : Nat) : Int) := (Int.natCast_emod i L.length).symm
  obtain ⟨j, hj⟩ : ∃ j, i % L.length = j := ⟨_, rfl⟩
  rw [hj] at hE q0 q1 hlt
  have hT : Int.tmod (i : Int) (L.length : Int) = (j : Int) := by rw [Int.tmod_eq_emod_of_nonneg (by omega), hE]
  have hl0 : (0 : Int) < (L.length : Int) := by omega
  have hl1 : (L.length : Int) ≠ 0 := by omega
  have hj1 : (j : Int) < (L.length : Int) := by omega
  clear hj
  go_enter Tryz.func112, Tryz.ntmps112
  go_wp2_with fail
  go_returns
  exact .mk rfl bb
theorem corner_z {L : List Pt} {i : Nat} {z : Int} {a : Option Addr} {n c : Nat} {w : World} (hz : z = (i : Int)) (hn : L.length = n) (h0 : 0 < n) (hm : n ≤ 1048576) (hi : i ≤ 4194304) (hr : Row w a (ptsCells L)) :
    Calls Tryz.prog 114 #[.slice a n c, .int .i64 z] w (Ret w (ptV (cor L i))) := by subst hz; exact corner_any L i a n c w hn h0 hm hi hr
theorem l16At_z {L : List Pt} {i : Nat} {z : Int} {a : Option Addr} {n c : Nat} {w : World} (hz : z = (i : Int)) (hn : L.length = n) (h0 : 0 < n) (hm : n ≤ 1048576) (hi : i ≤ 4194304) (hr : Row w a (ptsCells L)) :
    Calls Tryz.prog 112 #[.slice a n c, .int .i64 z] w (Ret w (ptV (cor L i))) := by subst hz; exact l16At_any L i a n c w hn h0 hm hi hr
structure PtsB (L : List Pt) : Prop where
  ok : ∀ p ∈ L, PtB p
theorem PtsB.cor {L : List Pt} (h : PtsB L) (h0 : 0 < L.length) (i : Nat) : PtB (Go.Proofs.YtklcaphkfdlipaaGreatDoor.cor L i) := h.ok _ (cor_mem h0)
/-- The turn at the corner behind one with an index. -/
def turnAtZ (L : List Pt) (i : Nat) : Int := turnZ (cor L i) (cor L (i + 1)) (cor L (i + 2))
set_option maxHeartbeats 1000000 in
theorem turnAt_any (L : List Pt) (i : Nat) (a : Option Addr) (n c : Nat) (w : World) (hn : L.length = n) (hm : n ≤ 1048576) (hi : i < n) (hr : Row w a (ptsCells L)) (hb : PtsB L) :
    Calls Tryz.prog 155 #[.slice a n c, .int .i64 i] w (Ret w (.int .i64 (turnAtZ L i))) := by
  subst hn
  have h0 : 0 < L.length := by omega
  have hT := fun w => turn_any (cor L i) (cor L (i + 1)) (cor L (i + 2)) w (hb.cor h0 i) (hb.cor h0 (i + 1)) (hb.cor h0 (i + 2))
  have hC1 := fun a z w hz hr => corner_z (L := L) (i := i + 1) (z := z) (a := a) (n := L.length) (c := c) (w := w) hz rfl h0 hm (by omega) hr
  have hC2 := fun a z w hz hr => corner_z (L := L) (i := i + 2) (z := z) (a := a) (n := L.length) (c := c) (w := w) hz rfl h0 hm (by omega) hr
  obtain ⟨b, o, rfl, hbb, q0, q1⟩ := hr.pt hi
  rw [← cor_lt hi] at q0 q1
  have X := Lib.hid (show turnAtZ L i = turnZ (cor L i) (cor L (i + 1)) (cor L (i + 2)) from rfl)
  generalize cor L i = P0 at *
  generalize cor L (i + 1) = P1 at *
  generalize cor L (i + 2) = P2 at *
  have hi1 : (i : Int) < (L.length : Int) := by omega
  replace hr := Lib.hid hr
  replace hT := Lib.hid hT
  replace hC1 := Lib.hid hC1
  replace hC2 := Lib.hid hC2
  go_enter Tryz.func155, Tryz.ntmps155
  go_wp2_with fail
  refine wp_region_plan [(0, true), (1, true), (2, true), (3, true), (4, true), (5, true), (6, true), (8, true), (9, true), (10, true), (7, false), (11, false), (12, false), (13, true)] (C := LaterC _) (by kernel_rfl) (by kernel_rfl) (by kernel_rfl) rfl (fun _ _ d _ _ h => by cases d <;> exact h) (LaterC.mk ((Below.refl _ _).drew)) ?_
  first | (refine plan_quiet nth0 rfl ?_; intro KP hKP; go_big_quiet_op; go_big_quiet_on) | (refine plan_skip_q nth0 rfl rfl ?_; simp only [Act.put, List.setIfInBounds_toArray, List.set_cons_zero, List.set_cons_succ])
  first | (refine plan_quiet nth1 rfl ?_; intro KP hKP; go_big_quiet_op; go_big_quiet_on) | (refine plan_skip_q nth1 rfl rfl ?_; simp only [Act.put, List.setIfInBounds_toArray, List.set_cons_zero, List.set_cons_succ])
  first | (refine plan_quiet nth2 rfl ?_; intro KP hKP; go_big_quiet_op; go_big_quiet_on) | (refine plan_skip_q nth2 rfl rfl ?_; simp only [Act.put, List.setIfInBounds_toArray, List.set_cons_zero, List.set_cons_succ])
  first | (refine plan_quiet nth3 rfl ?_; intro KP hKP; go_big_quiet_op; go_big_quiet_on) | (refine plan_skip_q nth3 rfl rfl ?_; simp only [Act.put, List.setIfInBounds_toArray, List.set_cons_zero, List.set_cons_succ])
  first | (refine plan_quiet nth4 rfl ?_; intro KP hKP; go_big_quiet_op; go_big_quiet_on) | (refine plan_skip_q nth4 rfl rfl ?_; simp only [Act.put, List.setIfInBounds_toArray, List.set_cons_zero, List.set_cons_succ])
  first | (refine plan_quiet nth5 rfl ?_; intro KP hKP; go_big_quiet_op; go_big_quiet_on) | (refine plan_skip_q nth5 rfl rfl ?_; simp only [Act.put, List.setIfInBounds_toArray, List.set_cons_zero, List.set_cons_succ])
  first | (refine plan_quiet nth6 rfl ?_; intro KP hKP; go_big_quiet_op; go_big_quiet_on) | (refine plan_skip_q nth6 rfl rfl ?_; simp only [Act.put, List.setIfInBounds_toArray, List.set_cons_zero, List.set_cons_succ])
  first | (refine plan_quiet nth8 rfl ?_; intro KP hKP; go_big_quiet_op; go_big_quiet_on) | (refine plan_skip_q nth8 rfl rfl ?_; simp only [Act.put, List.setIfInBounds_toArray, List.set_cons_zero, List.set_cons_succ])
  first | (refine plan_quiet nth9 rfl ?_; intro KP hKP; go_big_quiet_op; go_big_quiet_on) | (refine plan_skip_q nth9 rfl rfl ?_; simp only [Act.put, List.setIfInBounds_toArray, List.set_cons_zero, List.set_cons_succ])
  first | (refine plan_quiet nth10 rfl ?_; intro KP hKP; go_big_quiet_op; go_big_quiet_on) | (refine plan_skip_q nth10 rfl rfl ?_; simp only [Act.put, List.setIfInBounds_toArray, List.set_cons_zero, List.set_cons_succ])
  first | (refine plan_loud nth7 rfl ?_; intro KP hKP; go_wp2_with (first | (go_at_call 114; first | ((with_reducible refine (hC1.out _ _ _ (by omega) (hr.out.bel bb)).mono ?_); rintro e w' ⟨rfl, y1, rfl⟩; have hs1 := y1.bel.size) | ((with_reducible refine (hC2.out _ _ _ (by omega) (hr.out.bel bb)).mono ?_); rintro e w' ⟨rfl, y2, rfl⟩; have hs2 := y2.bel.size)) | (go_at_call 135; first | ((with_reducible refine (Calls.later (hT.out _)).mono ?_); rintro e w' ⟨rfl, xl, rfl⟩; have hsz := xl.bel.size; (try simp only [World.size_alloc, World.size_setCell, World.size_drew] at hsz); (try have hz0 : w.heap.size < xl.w.heap.size := (by omega)); (try have hz1 : w.heap.size + 1 < xl.w.heap.size := (by omega)); (try have hz2 : w.heap.size + 1 + 1 < xl.w.heap.size := (by omega))) | ((with_reducible refine (hT.out _).mono ?_); rintro e w' ⟨rfl, xl, rfl⟩; have hsz := xl.bel.size; (try simp only [World.size_alloc, World.size_setCell, World.size_drew] at hsz); (try have hz0 : w.heap.size < xl.w.heap.size := (by omega)); (try have hz1 : w.heap.size + 1 < xl.w.heap.size := (by omega)); (try have hz2 : w.heap.size + 1 + 1 < xl.w.heap.size := (by omega))))); refine hKP _ _ (LaterC.mk bb) ?_; clear hKP KP) | (refine plan_skip nth7 rfl rfl (LaterC.mk bb) ?_; simp only [Act.put, List.setIfInBounds_toArray, List.set_cons_zero, List.set_cons_succ])
  first | (refine plan_loud nth11 rfl ?_; intro KP hKP; go_wp2_with (first | (go_at_call 114; first | ((with_reducible refine (hC1.out _ _ _ (by omega) (hr.out.bel bb)).mono ?_); rintro e w' ⟨rfl, y1, rfl⟩; have hs1 := y1.bel.size) | ((with_reducible refine (hC2.out _ _ _ (by omega) (hr.out.bel bb)).mono ?_); rintro e w' ⟨rfl, y2, rfl⟩; have hs2 := y2.bel.size)) | (go_at_call 135; first | ((with_reducible refine (Calls.later (hT.out _)).mono ?_); rintro e w' ⟨rfl, xl, rfl⟩; have hsz := xl.bel.size; (try simp only [World.size_alloc, World.size_setCell, World.size_drew] at hsz); (try have hz0 : w.heap.size < xl.w.heap.size := (by omega)); (try have hz1 : w.heap.size + 1 < xl.w.heap.size := (by omega)); (try have hz2 : w.heap.size + 1 + 1 < xl.w.heap.size := (by omega))) | ((with_reducible refine (hT.out _).mono ?_); rintro e w' ⟨rfl, xl, rfl⟩; have hsz := xl.bel.size; (try simp only [World.size_alloc, World.size_setCell, World.size_drew] at hsz); (try have hz0 : w.heap.size < xl.w.heap.size := (by omega)); (try have hz1 : w.heap.size + 1 < xl.w.heap.size := (by omega)); (try have hz2 : w.heap.size + 1 + 1 < xl.w.heap.size := (by omega))))); refine hKP _ _ (LaterC.mk bb) ?_; clear hKP KP) | (refine plan_skip nth11 rfl rfl (LaterC.mk bb) ?_; simp only [Act.put, List.setIfInBounds_toArray, List.set_cons_zero, List.set_cons_succ])
  first | (refine plan_loud nth12 rfl ?_; intro KP hKP; go_wp2_with (first | (go_at_call 114; first | ((with_reducible refine (hC1.out _ _ _ (by omega) (hr.out.bel bb)).mono ?_); rintro e w' ⟨rfl, y1, rfl⟩; have hs1 := y1.bel.size) | ((with_reducible refine (hC2.out _ _ _ (by omega) (hr.out.bel bb)).mono ?_); rintro e w' ⟨rfl, y2, rfl⟩; have hs2 := y2.bel.size)) | (go_at_call 135; first | ((with_reducible refine (Calls.later (hT.out _)).mono ?_); rintro e w' ⟨rfl, xl, rfl⟩; have hsz := xl.bel.size; (try simp only [World.size_alloc, World.size_setCell, World.size_drew] at hsz); (try have hz0 : w.heap.size < xl.w.heap.size := (by omega)); (try have hz1 : w.heap.size + 1 < xl.w.heap.size := (by omega)); (try have hz2 : w.heap.size + 1 + 1 < xl.w.heap.size := (by omega))) | ((with_reducible refine (hT.out _).mono ?_); rintro e w' ⟨rfl, xl, rfl⟩; have hsz := xl.bel.size; (try simp only [World.size_alloc, World.size_setCell, World.size_drew] at hsz); (try have hz0 : w.heap.size < xl.w.heap.size := (by omega)); (try have hz1 : w.heap.size + 1 < xl.w.heap.size := (by omega)); (try have hz2 : w.heap.size + 1 + 1 < xl.w.heap.size := (by omega))))); refine hKP _ _ (LaterC.mk bb) ?_; clear hKP KP) | (refine plan_skip nth12 rfl rfl (LaterC.mk bb) ?_; simp only [Act.put, List.setIfInBounds_toArray, List.set_cons_zero, List.set_cons_succ])
  first | (refine plan_quiet nth13 rfl ?_; intro KP hKP; go_big_quiet_op; go_big_quiet_on) | (refine plan_skip_q nth13 rfl rfl ?_; simp only [Act.put, List.setIfInBounds_toArray, List.set_cons_zero, List.set_cons_succ])
  refine plan_nil ?_
  go_wp2_with fail
  go_ret
  exact .mk (by rw [X.out]; rfl) bb
/-- Edges i and k of a ring have no point in common, or follow one another. -/
def apartB (L : List Pt) (i k : Nat) : Bool := decide (k = i + 1) || (decide (i = 0) && decide (k + 1 = L.length)) || !crossB (cor L i) (cor L (i + 1)) (cor L k) (cor L (k + 1))
set_option maxHeartbeats 2000000 in
theorem areApart_any (L : List Pt) (i k : Nat) (a : Option Addr) (n c : Nat) (w : World) (hn : L.length = n) (hm : n ≤ 1048576) (hi : i < n) (hk : k < n) (hr : Row w a (ptsCells L)) (hb : PtsB L) :
    Calls Tryz.prog 156 #[.slice a n c, .int .i64 i, .int .i64 k] w (Ret w (.bool (apartB L i k))) := by
  subst hn
  have h0 : 0 < L.length := by omega
  by_cases hA : k = i + 1
  · have X := Lib.hid (show apartB L i k = true by simp [apartB, hA])
    have e1 : ((k : Int) == (i : Int) + 1) = true := by simp; omega
    clear hA
    go_enter Tryz.func156, Tryz.ntmps156
    go_wp2_with fail
    go_ret
    exact .mk (by rw [X.out]; rfl) bb
  have e1 : ((k : Int) == (i : Int) + 1) = false := by rw [beq_eq_false_iff_ne]; omega
  by_cases hB : i = 0 ∧ k + 1 = L.length
  · have X := Lib.hid (show apartB L i k = true by simp [apartB, hB.1, hB.2])
    have e2 : ((i : Int) == 0) = true := by simp; omega
    have e3 : ((k : Int) == (L.length : Int) - 1) = true := by simp; omega
    clear hA hB
    go_enter Tryz.func156, Tryz.ntmps156
    go_wp2_with fail
    go_ret
    exact .mk (by rw [X.out]; rfl) bb
  have E : apartB L i k = !crossB (cor L i) (cor L (i + 1)) (cor L k) (cor L (k + 1)) := by
    unfold apartB
    have : (decide (i = 0) && decide (k + 1 = L.length)) = false := by
      rw [Bool.eq_false_iff]; intro h
      simp only [Bool.and_eq_true, decide_eq_true_eq] at h
      exact hB h
    rw [this, decide_eq_false hA]; rfl
  have hX := fun w => cross_any (cor L i) (cor L (i + 1)) (cor L k) (cor L (k + 1)) w (hb.cor h0 i) (hb.cor h0 (i + 1)) (hb.cor h0 k) (hb.cor h0 (k + 1))
  have hC1 := fun a z w hz hr => corner_z (L := L) (i := i + 1) (z := z) (a := a) (n := L.length) (c := c) (w := w) hz rfl h0 hm (by omega) hr
  have hC2 := fun a z w hz hr => corner_z (L := L) (i := k + 1) (z := z) (a := a) (n := L.length) (c := c) (w := w) hz rfl h0 hm (by omega) hr
  obtain ⟨b, o, rfl, hbb, q0, q1⟩ := hr.pt hi
  obtain ⟨b', o', he, hbb', q2, q3⟩ := hr.pt hk
  cases he
  rw [← cor_lt hi] at q0 q1
  rw [← cor_lt hk] at q2 q3
  have hi1 : (i : Int) < (L.length : Int) := by omega
  have hk1 : (k : Int) < (L.length : Int) := by omega
  replace hr := Lib.hid hr
  generalize crossB (cor L i) (cor L (i + 1)) (cor L k) (cor L (k + 1)) = B at E hX
  have X := Lib.hid E
  replace hX := Lib.hid hX
  replace hC1 := Lib.hid hC1
  replace hC2 := Lib.hid hC2
  clear E
  have hcase : (((i : Int) == 0) = false) ∨ (((i : Int) == 0) = true ∧ ((k : Int) == (L.length : Int) - 1) = false) := by
    by_cases h : i = 0
    · right
      refine ⟨by simp; omega, ?_⟩
      rw [beq_eq_false_iff_ne]
      intro h2
      exact hB ⟨h, by omega⟩
    · left
      rw [beq_eq_false_iff_ne]; omega
  clear hA hB
  rcases hcase with e2 | ⟨e2, e3⟩
  all_goals
    go_enter Tryz.func156, Tryz.ntmps156
    go_wp2_with fail
    refine wp_region_plan [(0, true), (1, true), (2, true), (3, true), (4, true), (5, true), (6, true), (8, true), (9, true), (10, true), (11, true), (12, true), (13, true), (14, true), (7, false), (15, false), (16, false), (17, true), (18, true)] (C := LaterC _) (by kernel_rfl) (by kernel_rfl) (by kernel_rfl) rfl (fun _ _ d _ _ h => by cases d <;> exact h) (LaterC.mk ((Below.refl _ _).drew)) ?_
    first | (refine plan_quiet nth0 rfl ?_; intro KP hKP; go_big_quiet_op; go_big_quiet_on) | (refine plan_skip_q nth0 rfl rfl ?_; simp only [Act.put, List.setIfInBounds_toArray, List.set_cons_zero, List.set_cons_succ])
    first | (refine plan_quiet nth1 rfl ?_; intro KP hKP; go_big_quiet_op; go_big_quiet_on) | (refine plan_skip_q nth1 rfl rfl ?_; simp only [Act.put, List.setIfInBounds_toArray, List.set_cons_zero, List.set_cons_succ])
    first | (refine plan_quiet nth2 rfl ?_; intro KP hKP; go_big_quiet_op; go_big_quiet_on) | (refine plan_skip_q nth2 rfl rfl ?_; simp only [Act.put, List.setIfInBounds_toArray, List.set_cons_zero, List.set_cons_succ])
    first | (refine plan_quiet nth3 rfl ?_; intro KP hKP; go_big_quiet_op; go_big_quiet_on) | (refine plan_skip_q nth3 rfl rfl ?_; simp only [Act.put, List.setIfInBounds_toArray, List.set_cons_zero, List.set_cons_succ])
    first | (refine plan_quiet nth4 rfl ?_; intro KP hKP; go_big_quiet_op; go_big_quiet_on) | (refine plan_skip_q nth4 rfl rfl ?_; simp only [Act.put, List.setIfInBounds_toArray, List.set_cons_zero, List.set_cons_succ])
    first | (refine plan_quiet nth5 rfl ?_; intro KP hKP; go_big_quiet_op; go_big_quiet_on) | (refine plan_skip_q nth5 rfl rfl ?_; simp only [Act.put, List.setIfInBounds_toArray, List.set_cons_zero, List.set_cons_succ])
    first | (refine plan_quiet nth6 rfl ?_; intro KP hKP; go_big_quiet_op; go_big_quiet_on) | (refine plan_skip_q nth6 rfl rfl ?_; simp only [Act.put, List.setIfInBounds_toArray, List.set_cons_zero, List.set_cons_succ])
    first | (refine plan_quiet nth8 rfl ?_; intro KP hKP; go_big_quiet_op; go_big_quiet_on) | (refine plan_skip_q nth8 rfl rfl ?_; simp only [Act.put, List.setIfInBounds_toArray, List.set_cons_zero, List.set_cons_succ])
    first | (refine plan_quiet nth9 rfl ?_; intro KP hKP; go_big_quiet_op; go_big_quiet_on) | (refine plan_skip_q nth9 rfl rfl ?_; simp only [Act.put, List.setIfInBounds_toArray, List.set_cons_zero, List.set_cons_succ])
    first | (refine plan_quiet nth10 rfl ?_; intro KP hKP; go_big_quiet_op; go_big_quiet_on) | (refine plan_skip_q nth10 rfl rfl ?_; simp only [Act.put, List.setIfInBounds_toArray, List.set_cons_zero, List.set_cons_succ])
    first | (refine plan_quiet nth11 rfl ?_; intro KP hKP; go_big_quiet_op; go_big_quiet_on) | (refine plan_skip_q nth11 rfl rfl ?_; simp only [Act.put, List.setIfInBounds_toArray, List.set_cons_zero, List.set_cons_succ])
    first | (refine plan_quiet nth12 rfl ?_; intro KP hKP; go_big_quiet_op; go_big_quiet_on) | (refine plan_skip_q nth12 rfl rfl ?_; simp only [Act.put, List.setIfInBounds_toArray, List.set_cons_zero, List.set_cons_succ])
    first | (refine plan_quiet nth13 rfl ?_; intro KP hKP; go_big_quiet_op; go_big_quiet_on) | (refine plan_skip_q nth13 rfl rfl ?_; simp only [Act.put, List.setIfInBounds_toArray, List.set_cons_zero, List.set_cons_succ])
    first | (refine plan_quiet nth14 rfl ?_; intro KP hKP; go_big_quiet_op; go_big_quiet_on) | (refine plan_skip_q nth14 rfl rfl ?_; simp only [Act.put, List.setIfInBounds_toArray, List.set_cons_zero, List.set_cons_succ])
    first | (refine plan_loud nth7 rfl ?_; intro KP hKP; go_wp2_with (first | (go_at_call 114; first | ((with_reducible refine (hC1.out _ _ _ (by omega) (hr.out.bel bb)).mono ?_); rintro e w' ⟨rfl, y1, rfl⟩; have hs1 := y1.bel.size) | ((with_reducible refine (hC2.out _ _ _ (by omega) (hr.out.bel bb)).mono ?_); rintro e w' ⟨rfl, y2, rfl⟩; have hs2 := y2.bel.size)) | (go_at_call 178; first | ((with_reducible refine (Calls.later (hX.out _)).mono ?_); rintro e w' ⟨rfl, xl, rfl⟩; have hsz := xl.bel.size; (try simp only [World.size_alloc, World.size_setCell, World.size_drew] at hsz); (try have hz0 : w.heap.size < xl.w.heap.size := (by omega)); (try have hz1 : w.heap.size + 1 < xl.w.heap.size := (by omega)); (try have hz2 : w.heap.size + 1 + 1 < xl.w.heap.size := (by omega))) | ((with_reducible refine (hX.out _).mono ?_); rintro e w' ⟨rfl, xl, rfl⟩; have hsz := xl.bel.size; (try simp only [World.size_alloc, World.size_setCell, World.size_drew] at hsz); (try have hz0 : w.heap.size < xl.w.heap.size := (by omega)); (try have hz1 : w.heap.size + 1 < xl.w.heap.size := (by omega)); (try have hz2 : w.heap.size + 1 + 1 < xl.w.heap.size := (by omega))))); refine hKP _ _ (LaterC.mk bb) ?_; clear hKP KP) | (refine plan_skip nth7 rfl rfl (LaterC.mk bb) ?_; simp only [Act.put, List.setIfInBounds_toArray, List.set_cons_zero, List.set_cons_succ])
    first | (refine plan_loud nth15 rfl ?_; intro KP hKP; go_wp2_with (first | (go_at_call 114; first | ((with_reducible refine (hC1.out _ _ _ (by omega) (hr.out.bel bb)).mono ?_); rintro e w' ⟨rfl, y1, rfl⟩; have hs1 := y1.bel.size) | ((with_reducible refine (hC2.out _ _ _ (by omega) (hr.out.bel bb)).mono ?_); rintro e w' ⟨rfl, y2, rfl⟩; have hs2 := y2.bel.size)) | (go_at_call 178; first | ((with_reducible refine (Calls.later (hX.out _)).mono ?_); rintro e w' ⟨rfl, xl, rfl⟩; have hsz := xl.bel.size; (try simp only [World.size_alloc, World.size_setCell, World.size_drew] at hsz); (try have hz0 : w.heap.size < xl.w.heap.size := (by omega)); (try have hz1 : w.heap.size + 1 < xl.w.heap.size := (by omega)); (try have hz2 : w.heap.size + 1 + 1 < xl.w.heap.size := (by omega))) | ((with_reducible refine (hX.out _).mono ?_); rintro e w' ⟨rfl, xl, rfl⟩; have hsz := xl.bel.size; (try simp only [World.size_alloc, World.size_setCell, World.size_drew] at hsz); (try have hz0 : w.heap.size < xl.w.heap.size := (by omega)); (try have hz1 : w.heap.size + 1 < xl.w.heap.size := (by omega)); (try have hz2 : w.heap.size + 1 + 1 < xl.w.heap.size := (by omega))))); refine hKP _ _ (LaterC.mk bb) ?_; clear hKP KP) | (refine plan_skip nth15 rfl rfl (LaterC.mk bb) ?_; simp only [Act.put, List.setIfInBounds_toArray, List.set_cons_zero, List.set_cons_succ])
    first | (refine plan_loud nth16 rfl ?_; intro KP hKP; go_wp2_with (first | (go_at_call 114; first | ((with_reducible refine (hC1.out _ _ _ (by omega) (hr.out.bel bb)).mono ?_); rintro e w' ⟨rfl, y1, rfl⟩; have hs1 := y1.bel.size) | ((with_reducible refine (hC2.out _ _ _ (by omega) (hr.out.bel bb)).mono ?_); rintro e w' ⟨rfl, y2, rfl⟩; have hs2 := y2.bel.size)) | (go_at_call 178; first | ((with_reducible refine (Calls.later (hX.out _)).mono ?_); rintro e w' ⟨rfl, xl, rfl⟩; have hsz := xl.bel.size; (try simp only [World.size_alloc, World.size_setCell, World.size_drew] at hsz); (try have hz0 : w.heap.size < xl.w.heap.size := (by omega)); (try have hz1 : w.heap.size + 1 < xl.w.heap.size := (by omega)); (try have hz2 : w.heap.size + 1 + 1 < xl.w.heap.size := (by omega))) | ((with_reducible refine (hX.out _).mono ?_); rintro e w' ⟨rfl, xl, rfl⟩; have hsz := xl.bel.size; (try simp only [World.size_alloc, World.size_setCell, World.size_drew] at hsz); (try have hz0 : w.heap.size < xl.w.heap.size := (by omega)); (try have hz1 : w.heap.size + 1 < xl.w.heap.size := (by omega)); (try have hz2 : w.heap.size + 1 + 1 < xl.w.heap.size := (by omega))))); refine hKP _ _ (LaterC.mk bb) ?_; clear hKP KP) | (refine plan_skip nth16 rfl rfl (LaterC.mk bb) ?_; simp only [Act.put, List.setIfInBounds_toArray, List.set_cons_zero, List.set_cons_succ])
    first | (refine plan_quiet nth17 rfl ?_; intro KP hKP; go_big_quiet_op; go_big_quiet_on) | (refine plan_skip_q nth17 rfl rfl ?_; simp only [Act.put, List.setIfInBounds_toArray, List.set_cons_zero, List.set_cons_succ])
    first | (refine plan_quiet nth18 rfl ?_; intro KP hKP; go_big_quiet_op; go_big_quiet_on) | (refine plan_skip_q nth18 rfl rfl ?_; simp only [Act.put, List.setIfInBounds_toArray, List.set_cons_zero, List.set_cons_succ])
    refine plan_nil ?_
    go_wp2_with fail
    go_ret
    exact .mk (by rw [X.out]; rfl) bb
end Go.Proofs.YtklcaphkfdlipaaGreatDoor

/- A point among points, the library's way. -/
set_option linter.unusedSimpArgs false
set_option linter.unusedVariables false
namespace Go.Proofs.YtklcaphkfdlipaaGreatDoor
open Go.RowKit
def ptEqB (p q : Pt) : Bool := p.x == q.x && p.y == q.y
theorem ptEqB_iff {p q : Pt} : ptEqB p q = true ↔ p = q := by
  constructor
  · intro h
    simp only [ptEqB, Bool.and_eq_true, beq_iff_eq] at h
    exact Pt.ext' h.1 h.2
  · rintro rfl; simp [ptEqB]
def amongB (L : List Pt) (p : Pt) : Bool := L.any (ptEqB p)
def idxPt (p : Pt) (L : List Pt) : Int := match L.findIdx? (ptEqB p) with
  | some i => i
  | none => -1
theorem idxPt_none {p : Pt} {L : List Pt} (h : ∀ j (hj : j < L.length), ptEqB p L[j] = false) : idxPt p L = -1 := by
  have : L.findIdx? (ptEqB p) = none := by
    rw [List.findIdx?_eq_none_iff]
    intro x hx
    obtain ⟨j, hj, rfl⟩ := List.mem_iff_getElem.1 hx
    exact h j hj
  simp [idxPt, this]
theorem idxPt_some {p : Pt} {L : List Pt} {k : Nat} (hk : k < L.length) (h1 : ptEqB p L[k] = true) (h : ∀ j (hj : j < L.length), j < k → ptEqB p L[j] = false) : idxPt p L = k := by
  have : L.findIdx? (ptEqB p) = some k := by
    rw [List.findIdx?_eq_some_iff_getElem]
    exact ⟨hk, h1, fun j hj => by rw [h j (by omega) hj]; simp⟩
  simp [idxPt, this]
theorem idxPt_nonneg (p : Pt) (L : List Pt) : decide (0 ≤ idxPt p L) = amongB L p := by
  unfold idxPt amongB
  cases h : L.findIdx? (ptEqB p) with
  | none =>
    rw [List.findIdx?_eq_none_iff] at h
    have : L.any (ptEqB p) = false := by rw [Bool.eq_false_iff]; intro hh; obtain ⟨x, hx, hp⟩ := List.any_eq_true.1 hh; rw [h x hx] at hp; cases hp
    simp [this]
  | some i =>
    rw [List.findIdx?_eq_some_iff_getElem] at h
    obtain ⟨hi, hp, _⟩ := h
    have : L.any (ptEqB p) = true := List.any_eq_true.2 ⟨L[i], List.getElem_mem hi, hp⟩
    simp [this]
theorem eqPt_run (p q : Pt) (w : World) : (binOp .eql 72 (.agg #[.int .i64 p.x, .int .i64 p.y]) (.agg #[.int .i64 q.x, .int .i64 q.y])).run Tryz.prog w = .ok (.bool (ptEqB p q)) w := by
  by_cases h1 : p.x = q.x <;> by_cases h2 : p.y = q.y <;> simp [go_sem, ptEqB, h1, h2]
set_option maxHeartbeats 1000000 in
theorem indexPt_any (p : Pt) (L : List Pt) (a : Option Addr) (n c : Nat) (w : World) (hn : L.length = n) (hm : n ≤ 1048576) (hr : Row w a (ptsCells L)) :
    Calls Tryz.prog 177 #[.slice a n c, ptV p] w (Ret w (.int .i64 (idxPt p L))) := by
  subst hn
  replace hr := Lib.hid hr
  go_enter Tryz.func177, Tryz.ntmps177
  go_wp2_with fail
  go_loopw [8] (fun i wr => ∃ k : Nat, k ≤ L.length ∧ i = .int .i64 k ∧ (∀ j (hj : j < L.length), j < k → ptEqB p L[j] = false) ∧ ∃ z : Later (w.alloc (.cells #[.int .i64 p.x, .int .i64 p.y] 72)), wr = z.w) (fun i _ => L.length - (intOf i).toNat)
  case atStart => exact ⟨0, Nat.zero_le _, rfl, fun j _ h => absurd h (by omega), ⟨_, Below.refl _ _⟩, rfl⟩
  case round =>
    obtain ⟨k, hk, rfl, hall, z, rfl⟩ := hrel
    replace hall := Lib.hid hall
    have hzz := z.bel.size
    simp only [World.size_alloc] at hzz
    by_cases hlt : k < L.length
    · obtain ⟨b, o, rfl, hb, q0, q1⟩ := hr.out.pt hlt
      have hi1 : (k : Int) < (L.length : Int) := by omega
      cases hv : ptEqB p L[k]
      · have X := Lib.hid (show ∀ j (hj : j < L.length), j < k + 1 → ptEqB p L[j] = false from fun j hj h => by
          rcases Nat.lt_or_ge j k with h1 | h1
          · exact hall.out j hj h1
          · obtain rfl : j = k := by omega
            exact hv)
        have hq := fun w => eqPt_run p L[k] w
        simp only [hv] at hq
        clear hv
        go_wp2_with fail
        refine wp_region_later (by kernel_rfl) (by kernel_rfl) ?_
        repeat (go_big_quiet_step (fail))
        refine wpQuiet_nil ?_
        rintro _ ⟨xq, rfl⟩
        go_wp2_with fail
        go_roundw
        case rel => exact ⟨k + 1, by omega, by go_num, X.out, ⟨_, bb⟩, rfl⟩
        case measure => first | (simp [intOf]; done) | (simp [intOf]; omega) | omega
      · have X := Lib.hid (idxPt_some hlt hv fun j hj h => hall.out j hj h)
        have hq := fun w => eqPt_run p L[k] w
        simp only [hv] at hq
        clear hv
        go_wp2_with fail
        refine wp_region_later (by kernel_rfl) (by kernel_rfl) ?_
        repeat (go_big_quiet_step (fail))
        refine wpQuiet_nil ?_
        rintro _ ⟨xq, rfl⟩
        go_wp2_with fail
        go_ret
        exact .mk (by rw [X.out]; rfl) bb
    · obtain rfl : k = L.length := by omega
      have X := Lib.hid (idxPt_none fun j hj => hall.out j hj hj)
      go_wp2_with fail
      go_ret
      exact .mk (by rw [X.out]; rfl) bb
theorem containsPt_any (p : Pt) (L : List Pt) (a : Option Addr) (n c : Nat) (w : World) (hn : L.length = n) (hm : n ≤ 1048576) (hr : Row w a (ptsCells L)) :
    Calls Tryz.prog 154 #[.slice a n c, ptV p] w (Ret w (.bool (amongB L p))) := by
  have X := Lib.hid (idxPt_nonneg p L)
  replace hr := Lib.hid hr
  replace hn := Lib.hid hn
  go_enter Tryz.func154, Tryz.ntmps154
  go_wp2_with fail
  with_reducible refine (indexPt_any p L _ _ _ _ hn.out hm (hr.out.bel bb)).mono ?_
  rintro e w' ⟨rfl, y1, rfl⟩
  have hsy1 := y1.bel.size
  (try simp only [World.size_alloc, World.size_setCell, World.size_drew] at hsy1)
  go_wp2_with fail
  go_ret
  exact .mk (by rw [← X.out]; rfl) bb
/-! ### Lists of points -/
def pointB (p : Pt) : Bool := isPointB p.x p.y
set_option maxHeartbeats 1000000 in
theorem arePoints_any (L : List Pt) (a : Option Addr) (n c : Nat) (w : World) (hn : L.length = n) (hm : n ≤ 1048576) (hr : Row w a (ptsCells L)) :
    Calls Tryz.prog 153 #[.slice a n c] w (Ret w (.bool (L.all pointB))) := by
  subst hn
  replace hr := Lib.hid hr
  go_enter Tryz.func153, Tryz.ntmps153
  go_wp2_with fail
  go_loopw [7] (fun i wr => ∃ k : Nat, k ≤ L.length ∧ i = .int .i64 k ∧ (L.take k).all pointB = true ∧ ∃ z : Later w, wr = z.w) (fun i _ => L.length - (intOf i).toNat)
  case atStart => exact ⟨0, Nat.zero_le _, rfl, rfl, ⟨_, Below.refl _ _⟩, rfl⟩
  case round =>
    obtain ⟨k, hk, rfl, hall, z, rfl⟩ := hrel
    replace hall := Lib.hid hall
    by_cases hlt : k < L.length
    · obtain ⟨b, o, rfl, hb, q0, q1⟩ := hr.out.pt hlt
      cases hv : pointB L[k]
      · have X := Lib.hid (show L.all pointB = false by
          rw [Bool.eq_false_iff]; intro h
          have := List.all_eq_true.1 h _ (List.getElem_mem hlt)
          rw [hv] at this; cases this)
        unfold pointB at hv
        replace hv := Lib.hid hv
        go_wp2_with fail
        with_reducible refine (isPoint_b _ hv.out).mono ?_
        rintro e w' ⟨rfl, y1, rfl⟩
        have hsy1 := y1.bel.size
        (try simp only [World.size_alloc, World.size_setCell, World.size_drew] at hsy1)
        go_wp2_with fail
        go_ret
        exact .mk (by rw [X.out]; rfl) bb
      · have X := Lib.hid (show (L.take (k + 1)).all pointB = true by
          rw [List.take_succ_eq_append_getElem hlt, List.all_append, hall.out]; simp [hv])
        unfold pointB at hv
        replace hv := Lib.hid hv
        go_wp2_with fail
        with_reducible refine (isPoint_b _ hv.out).mono ?_
        rintro e w' ⟨rfl, y1, rfl⟩
        have hsy1 := y1.bel.size
        (try simp only [World.size_alloc, World.size_setCell, World.size_drew] at hsy1)
        go_wp2_with fail
        go_roundw
        case rel => exact ⟨k + 1, by omega, by go_num, X.out, ⟨_, bb⟩, rfl⟩
        case measure => first | (simp [intOf]; done) | (simp [intOf]; omega) | omega
    · obtain rfl : k = L.length := by omega
      have X := Lib.hid (show L.all pointB = true by have := hall.out; rwa [List.take_length] at this)
      go_wp2_with fail
      go_ret
      exact .mk (by rw [X.out]; rfl) bb
set_option maxHeartbeats 1000000 in
theorem l15Points_any (L : List Pt) (a : Option Addr) (n c : Nat) (w : World) (hn : L.length = n) (hm : n ≤ 1048576) (hr : Row w a (ptsCells L)) :
    Calls Tryz.prog 159 #[.slice a n c] w (Ret w (.bool (L.all pointB))) := by
  subst hn
  replace hr := Lib.hid hr
  go_enter Tryz.func159, Tryz.ntmps159
  go_wp2_with fail
  go_loopw [3] (fun i wr => ∃ k : Nat, k ≤ L.length ∧ i = .int .i64 k ∧ (L.take k).all pointB = true ∧ ∃ z : Later w, wr = z.w) (fun i _ => L.length - (intOf i).toNat)
  case atStart => exact ⟨0, Nat.zero_le _, rfl, rfl, ⟨_, Below.refl _ _⟩, rfl⟩
  case round =>
    obtain ⟨k, hk, rfl, hall, z, rfl⟩ := hrel
    replace hall := Lib.hid hall
    by_cases hlt : k < L.length
    · obtain ⟨b, o, rfl, hb, q0, q1⟩ := hr.out.pt hlt
      cases hv : pointB L[k]
      · have X := Lib.hid (show L.all pointB = false by
          rw [Bool.eq_false_iff]; intro h
          have := List.all_eq_true.1 h _ (List.getElem_mem hlt)
          rw [hv] at this; cases this)
        unfold pointB at hv
        replace hv := Lib.hid hv
        go_wp2_with fail
        with_reducible refine (sIsPoint_b _ hv.out).mono ?_
        rintro e w' ⟨rfl, y1, rfl⟩
        have hsy1 := y1.bel.size
        (try simp only [World.size_alloc, World.size_setCell, World.size_drew] at hsy1)
        go_wp2_with fail
        go_ret
        exact .mk (by rw [X.out]; rfl) bb
      · have X := Lib.hid (show (L.take (k + 1)).all pointB = true by
          rw [List.take_succ_eq_append_getElem hlt, List.all_append, hall.out]; simp [hv])
        unfold pointB at hv
        replace hv := Lib.hid hv
        go_wp2_with fail
        with_reducible refine (sIsPoint_b _ hv.out).mono ?_
        rintro e w' ⟨rfl, y1, rfl⟩
        have hsy1 := y1.bel.size
        (try simp only [World.size_alloc, World.size_setCell, World.size_drew] at hsy1)
        go_wp2_with fail
        go_roundw
        case rel => exact ⟨k + 1, by omega, by go_num, X.out, ⟨_, bb⟩, rfl⟩
        case measure => first | (simp [intOf]; done) | (simp [intOf]; omega) | omega
    · obtain rfl : k = L.length := by omega
      have X := Lib.hid (show L.all pointB = true by have := hall.out; rwa [List.take_length] at this)
      go_wp2_with fail
      go_ret
      exact .mk (by rw [X.out]; rfl) bb
theorem ptsB_of {L : List Pt} (h : L.all pointB = true) : PtsB L := ⟨fun p hp => by
  have := List.all_eq_true.1 h p hp
  obtain ⟨a, b, c, d⟩ := isPointB_iff.1 this
  exact ⟨by omega, by omega, by omega, by omega⟩⟩
end Go.Proofs.YtklcaphkfdlipaaGreatDoor

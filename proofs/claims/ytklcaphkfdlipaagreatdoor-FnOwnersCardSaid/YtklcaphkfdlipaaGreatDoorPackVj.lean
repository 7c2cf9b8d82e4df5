import Derived.Test.YtklcaphkfdlipaaGreatDoorPackVa
import Derived.Test.YtklcaphkfdlipaaGreatDoorPackVd
/- Several of my texts, one behind the other: RingI, RingS. -/
/- Is it a ring: the program's way. -/
set_option linter.unusedSimpArgs false
set_option linter.unusedVariables false
namespace Go.Proofs.YtklcaphkfdlipaaGreatDoor
open Go.RowKit
structure RingP (L : List Pt) : Prop where
  apart : ∀ i j, j < i → i < L.length → cor L i ≠ cor L j
  turn : ∀ i, i < L.length → turnAtZ L i ≠ 0
  cross : ∀ i k, i < k → k < L.length → apartB L i k = true
open Classical in
noncomputable def ringB (L : List Pt) : Bool := inB L.length 3 12 && L.all pointB && decide (RingP L)
theorem ringB_len {L : List Pt} (h : inB L.length 3 12 = false) : ringB L = false := by simp [ringB, h]
theorem ringB_pts {L : List Pt} (h : L.all pointB = false) : ringB L = false := by simp [ringB, h]
theorem ringB_no {L : List Pt} (h : ¬ RingP L) : ringB L = false := by simp [ringB, h]
theorem ringB_yes {L : List Pt} (h1 : inB L.length 3 12 = true) (h2 : L.all pointB = true) (h : RingP L) : ringB L = true := by simp [ringB, h1, h2, h]
theorem among_take {L : List Pt} {i : Nat} (hi : i < L.length) : amongB (L.take i) (cor L i) = true ↔ ∃ j, j < i ∧ cor L i = cor L j := by
  unfold amongB
  rw [List.any_eq_true]
  constructor
  · rintro ⟨q, hq, he⟩
    obtain ⟨j, hj, rfl⟩ := List.mem_iff_getElem.1 hq
    have hj' : j < i := by simp at hj; omega
    refine ⟨j, hj', ?_⟩
    rw [ptEqB_iff.1 he, List.getElem_take, cor_lt (by omega)]
  · rintro ⟨j, hj, he⟩
    refine ⟨(L.take i)[j]'(by simp; omega), List.getElem_mem _, ptEqB_iff.2 ?_⟩
    rw [he, List.getElem_take, cor_lt (by omega)]
theorem Row.take_pts {w : World} {a : Option Addr} {L : List Pt} (h : Row w a (ptsCells L)) (i : Nat) : Row w a (ptsCells (L.take i)) := h.sub fun j v hj => by
  have e : ptsCells L = ptsCells (L.take i) ++ ptsCells (L.drop i) := by
    unfold ptsCells
    rw [← List.flatMap_append, List.take_append_drop]
  rw [e, List.getElem?_append_left (List.getElem?_eq_some_iff.1 hj).1]
  exact hj
theorem lengthPt_any (a : Option Addr) (n c : Nat) (w : World) : Calls Tryz.prog 152 #[.slice a n c] w (Ret w (.int .i64 n)) := by
  go_enter Tryz.func152, Tryz.ntmps152
  go_wp2
  go_ret
  exact .mk rfl (Below.refl _ _)
/-- What holds of the corners before `i`. -/
def RingTo (L : List Pt) (i : Nat) : Prop := ∀ i', i' < i → (∀ j, j < i' → cor L i' ≠ cor L j) ∧ turnAtZ L i' ≠ 0 ∧ ∀ k, i' < k → k < L.length → apartB L i' k = true
theorem ringTo_all {L : List Pt} (h : RingTo L L.length) : RingP L := ⟨fun i j hj hi => (h i hi).1 j hj, fun i hi => (h i hi).2.1, fun i k hk hl => (h i (by omega)).2.2 k hk hl⟩
set_option maxRecDepth 4000 in
set_option maxHeartbeats 4000000 in
theorem isRing_any (L : List Pt) (a : Option Addr) (n c : Nat) (w : World) (hn : L.length = n) (hm : n ≤ 1048576) (hc : n ≤ c) (hcm : c ≤ maxLen) (hr : Row w a (ptsCells L)) :
    Calls Tryz.prog 129 #[.slice a n c] w (Ret w (.bool (ringB L))) := by
  subst hn
  unfold maxLen at hcm
  replace hr := Lib.hid hr
  cases h1 : inB L.length 3 12
  · have X := Lib.hid (ringB_len h1)
    go_enter Tryz.func129, Tryz.ntmps129
    go_wp2_with fail
    with_reducible refine (lengthPt_any _ _ _ _).mono ?_
    rintro e w' ⟨rfl, y1, rfl⟩
    have hsy1 := y1.bel.size
    (try simp only [World.size_alloc, World.size_setCell, World.size_drew] at hsy1)
    go_wp2_with fail
    with_reducible refine (within_b _ h1).mono ?_
    rintro e w' ⟨rfl, y2, rfl⟩
    have hsy2 := y2.bel.size
    (try simp only [World.size_alloc, World.size_setCell, World.size_drew] at hsy2)
    go_wp2_with fail
    go_ret
    exact .mk (by rw [X.out]; rfl) bb
  have hAP := fun a w hr => arePoints_any L a L.length c w rfl hm hr
  cases h2 : L.all pointB
  · rw [h2] at hAP
    have X := Lib.hid (ringB_pts h2)
    replace hAP := Lib.hid hAP
    clear h2
    go_enter Tryz.func129, Tryz.ntmps129
    go_wp2_with fail
    with_reducible refine (lengthPt_any _ _ _ _).mono ?_
    rintro e w' ⟨rfl, y1, rfl⟩
    have hsy1 := y1.bel.size
    (try simp only [World.size_alloc, World.size_setCell, World.size_drew] at hsy1)
    go_wp2_with fail
    with_reducible refine (within_b _ h1).mono ?_
    rintro e w' ⟨rfl, y2, rfl⟩
    have hsy2 := y2.bel.size
    (try simp only [World.size_alloc, World.size_setCell, World.size_drew] at hsy2)
    go_wp2_with fail
    with_reducible refine (hAP.out _ _ (hr.out.bel bb)).mono ?_
    rintro e w' ⟨rfl, y3, rfl⟩
    have hsy3 := y3.bel.size
    (try simp only [World.size_alloc, World.size_setCell, World.size_drew] at hsy3)
    go_wp2_with fail
    go_ret
    exact .mk (by rw [X.out]; rfl) bb
  rw [h2] at hAP
  replace hAP := Lib.hid hAP
  have hPB := Lib.hid (ptsB_of h2)
  have H12 := Lib.hid (And.intro h1 h2)
  have hl := inB_iff.1 h1
  clear h2
  go_enter Tryz.func129, Tryz.ntmps129
  go_wp2_with fail
  with_reducible refine (lengthPt_any _ _ _ _).mono ?_
  rintro e w' ⟨rfl, y1, rfl⟩
  have hsy1 := y1.bel.size
  (try simp only [World.size_alloc, World.size_setCell, World.size_drew] at hsy1)
  go_wp2_with fail
  with_reducible refine (within_b _ h1).mono ?_
  rintro e w' ⟨rfl, y2, rfl⟩
  have hsy2 := y2.bel.size
  (try simp only [World.size_alloc, World.size_setCell, World.size_drew] at hsy2)
  go_wp2_with fail
  with_reducible refine (hAP.out _ _ (hr.out.bel bb)).mono ?_
  rintro e w' ⟨rfl, y3, rfl⟩
  have hsy3 := y3.bel.size
  (try simp only [World.size_alloc, World.size_setCell, World.size_drew] at hsy3)
  go_wp2_with fail
  clear h1
  go_loopw [16] (fun t16 wr => ∃ i : Nat, i ≤ L.length ∧ t16 = .int .i64 i ∧ RingTo L i ∧ ∃ z : Later w, wr = z.w) (fun t16 _ => L.length - (intOf t16).toNat)
  case atStart =>
    refine ⟨0, Nat.zero_le _, rfl, fun i' h => absurd h (by omega), LaterC.mk ?_⟩
    (exact bb)
  case round =>
    obtain ⟨i, hi, rfl, hall, z, rfl⟩ := hrel
    replace hall := Lib.hid hall
    have hzz := z.bel.size
    by_cases hlt : i < L.length
    · obtain ⟨b, o, rfl, hb, q0, q1⟩ := hr.out.pt hlt
      rw [← cor_lt hlt] at q0 q1
      have hi1 : (i : Int) < (L.length : Int) := by omega
      have hic : (i : Int) ≤ (c : Int) := by omega
      have hAM := Lib.hid (among_take hlt)
      have hCP := fun w hr => containsPt_any (cor L i) (L.take i) (some ⟨b, o, none⟩) i c w (by simp; omega) (by omega) hr
      have hTA := fun w hr => turnAt_any L i (some ⟨b, o, none⟩) L.length c w rfl hm hlt hr hPB.out
      have hAA := Lib.hid (fun k w hk hr => areApart_any L i k (some ⟨b, o, none⟩) L.length c w rfl hm hlt hk hr hPB.out)
      generalize hP : cor L i = P at q0 q1 hCP
      cases hA : amongB (L.take i) P
      rotate_left
      · rw [hA] at hCP
        replace hCP := Lib.hid hCP
        have X := Lib.hid (ringB_no (L := L) fun hR => by
          rw [← hP] at hA
          obtain ⟨j, hj, he⟩ := hAM.out.1 hA
          exact hR.apart i j hj hlt he)
        clear hA hP hTA
        go_wp2_with fail
        refine wp_region_plan [(0, true), (1, true), (2, true), (3, true), (4, true), (5, true), (6, true), (7, false), (8, true), (9, true), (10, true), (11, false), (12, true), (13, true)] (C := LaterC _) (by kernel_rfl) (by kernel_rfl) (by kernel_rfl) rfl (fun _ _ d _ _ h => by cases d <;> exact h) (LaterC.mk ((Below.refl _ _).drew)) ?_
        first | (refine plan_quiet nth0 rfl ?_; intro KP hKP; go_big_quiet_op; go_big_quiet_on) | (refine plan_skip_q nth0 rfl rfl ?_; simp only [Act.put, List.setIfInBounds_toArray, List.set_cons_zero, List.set_cons_succ])
        first | (refine plan_quiet nth1 rfl ?_; intro KP hKP; go_big_quiet_op; go_big_quiet_on) | (refine plan_skip_q nth1 rfl rfl ?_; simp only [Act.put, List.setIfInBounds_toArray, List.set_cons_zero, List.set_cons_succ])
        first | (refine plan_quiet nth2 rfl ?_; intro KP hKP; go_big_quiet_op; go_big_quiet_on) | (refine plan_skip_q nth2 rfl rfl ?_; simp only [Act.put, List.setIfInBounds_toArray, List.set_cons_zero, List.set_cons_succ])
        first | (refine plan_quiet nth3 rfl ?_; intro KP hKP; go_big_quiet_op; go_big_quiet_on) | (refine plan_skip_q nth3 rfl rfl ?_; simp only [Act.put, List.setIfInBounds_toArray, List.set_cons_zero, List.set_cons_succ])
        first | (refine plan_quiet nth4 rfl ?_; intro KP hKP; go_big_quiet_op; go_big_quiet_on) | (refine plan_skip_q nth4 rfl rfl ?_; simp only [Act.put, List.setIfInBounds_toArray, List.set_cons_zero, List.set_cons_succ])
        first | (refine plan_quiet nth5 rfl ?_; intro KP hKP; go_big_quiet_op; go_big_quiet_on) | (refine plan_skip_q nth5 rfl rfl ?_; simp only [Act.put, List.setIfInBounds_toArray, List.set_cons_zero, List.set_cons_succ])
        first | (refine plan_quiet nth6 rfl ?_; intro KP hKP; go_big_quiet_op; go_big_quiet_on) | (refine plan_skip_q nth6 rfl rfl ?_; simp only [Act.put, List.setIfInBounds_toArray, List.set_cons_zero, List.set_cons_succ])
        first | (refine plan_loud nth7 rfl ?_; intro KP hKP; go_wp2_with (first | (go_at_call 154; first | ((with_reducible refine (Calls.later (hCP.out _ ((hr.out.take_pts i).bel bb))).mono ?_); rintro e w' ⟨rfl, xl, rfl⟩; have hsz := xl.bel.size; (try simp only [World.size_alloc, World.size_setCell, World.size_drew] at hsz); (try have hz0 : w.heap.size < xl.w.heap.size := (by omega)); (try have hz1 : w.heap.size + 1 < xl.w.heap.size := (by omega)); (try have hz2 : w.heap.size + 1 + 1 < xl.w.heap.size := (by omega))) | ((with_reducible refine (hCP.out _ ((hr.out.take_pts i).bel bb)).mono ?_); rintro e w' ⟨rfl, xl, rfl⟩; have hsz := xl.bel.size; (try simp only [World.size_alloc, World.size_setCell, World.size_drew] at hsz); (try have hz0 : w.heap.size < xl.w.heap.size := (by omega)); (try have hz1 : w.heap.size + 1 < xl.w.heap.size := (by omega)); (try have hz2 : w.heap.size + 1 + 1 < xl.w.heap.size := (by omega))))); refine hKP _ _ (LaterC.mk bb) ?_; clear hKP KP) | (refine plan_skip nth7 rfl rfl (LaterC.mk bb) ?_; simp only [Act.put, List.setIfInBounds_toArray, List.set_cons_zero, List.set_cons_succ])
        first | (refine plan_quiet nth8 rfl ?_; intro KP hKP; go_big_quiet_op; go_big_quiet_on) | (refine plan_skip_q nth8 rfl rfl ?_; simp only [Act.put, List.setIfInBounds_toArray, List.set_cons_zero, List.set_cons_succ])
        first | (refine plan_quiet nth9 rfl ?_; intro KP hKP; go_big_quiet_op; go_big_quiet_on) | (refine plan_skip_q nth9 rfl rfl ?_; simp only [Act.put, List.setIfInBounds_toArray, List.set_cons_zero, List.set_cons_succ])
        first | (refine plan_quiet nth10 rfl ?_; intro KP hKP; go_big_quiet_op; go_big_quiet_on) | (refine plan_skip_q nth10 rfl rfl ?_; simp only [Act.put, List.setIfInBounds_toArray, List.set_cons_zero, List.set_cons_succ])
        first | (refine plan_loud nth11 rfl ?_; intro KP hKP; go_wp2_with (first | (go_at_call 154; first | ((with_reducible refine (Calls.later (hCP.out _ ((hr.out.take_pts i).bel bb))).mono ?_); rintro e w' ⟨rfl, xl, rfl⟩; have hsz := xl.bel.size; (try simp only [World.size_alloc, World.size_setCell, World.size_drew] at hsz); (try have hz0 : w.heap.size < xl.w.heap.size := (by omega)); (try have hz1 : w.heap.size + 1 < xl.w.heap.size := (by omega)); (try have hz2 : w.heap.size + 1 + 1 < xl.w.heap.size := (by omega))) | ((with_reducible refine (hCP.out _ ((hr.out.take_pts i).bel bb)).mono ?_); rintro e w' ⟨rfl, xl, rfl⟩; have hsz := xl.bel.size; (try simp only [World.size_alloc, World.size_setCell, World.size_drew] at hsz); (try have hz0 : w.heap.size < xl.w.heap.size := (by omega)); (try have hz1 : w.heap.size + 1 < xl.w.heap.size := (by omega)); (try have hz2 : w.heap.size + 1 + 1 < xl.w.heap.size := (by omega))))); refine hKP _ _ (LaterC.mk bb) ?_; clear hKP KP) | (refine plan_skip nth11 rfl rfl (LaterC.mk bb) ?_; simp only [Act.put, List.setIfInBounds_toArray, List.set_cons_zero, List.set_cons_succ])
        first | (refine plan_quiet nth12 rfl ?_; intro KP hKP; go_big_quiet_op; go_big_quiet_on) | (refine plan_skip_q nth12 rfl rfl ?_; simp only [Act.put, List.setIfInBounds_toArray, List.set_cons_zero, List.set_cons_succ])
        first | (refine plan_quiet nth13 rfl ?_; intro KP hKP; go_big_quiet_op; go_big_quiet_on) | (refine plan_skip_q nth13 rfl rfl ?_; simp only [Act.put, List.setIfInBounds_toArray, List.set_cons_zero, List.set_cons_succ])
        refine plan_nil ?_
        go_wp2_with fail
        go_ret
        exact .mk (by rw [X.out]; rfl) bb
      rw [hA] at hCP
      replace hCP := Lib.hid hCP
      have hA' := Lib.hid (show ∀ j, j < i → cor L i ≠ cor L j from fun j hj he => by
        rw [← hP] at hA
        rw [hAM.out.2 ⟨j, hj, he⟩] at hA
        cases hA)
      clear hA hP
      generalize hT : turnAtZ L i = t at hTA
      replace hTA := Lib.hid hTA
      cases h0 : (t == 0)
      rotate_left
      · have X := Lib.hid (ringB_no (L := L) fun hR => by
          have h := hR.turn i hlt
          rw [hT] at h
          exact h (by simpa using h0))
        clear hT
        go_wp2_with fail
        refine wp_region_plan [(0, true), (1, true), (2, true), (3, true), (4, true), (5, true), (6, true), (7, false), (8, true), (9, true), (10, true), (11, false), (12, true), (13, true)] (C := LaterC _) (by kernel_rfl) (by kernel_rfl) (by kernel_rfl) rfl (fun _ _ d _ _ h => by cases d <;> exact h) (LaterC.mk ((Below.refl _ _).drew)) ?_
        first | (refine plan_quiet nth0 rfl ?_; intro KP hKP; go_big_quiet_op; go_big_quiet_on) | (refine plan_skip_q nth0 rfl rfl ?_; simp only [Act.put, List.setIfInBounds_toArray, List.set_cons_zero, List.set_cons_succ])
        first | (refine plan_quiet nth1 rfl ?_; intro KP hKP; go_big_quiet_op; go_big_quiet_on) | (refine plan_skip_q nth1 rfl rfl ?_; simp only [Act.put, List.setIfInBounds_toArray, List.set_cons_zero, List.set_cons_succ])
        first | (refine plan_quiet nth2 rfl ?_; intro KP hKP; go_big_quiet_op; go_big_quiet_on) | (refine plan_skip_q nth2 rfl rfl ?_; simp only [Act.put, List.setIfInBounds_toArray, List.set_cons_zero, List.set_cons_succ])
        first | (refine plan_quiet nth3 rfl ?_; intro KP hKP; go_big_quiet_op; go_big_quiet_on) | (refine plan_skip_q nth3 rfl rfl ?_; simp only [Act.put, List.setIfInBounds_toArray, List.set_cons_zero, List.set_cons_succ])
        first | (refine plan_quiet nth4 rfl ?_; intro KP hKP; go_big_quiet_op; go_big_quiet_on) | (refine plan_skip_q nth4 rfl rfl ?_; simp only [Act.put, List.setIfInBounds_toArray, List.set_cons_zero, List.set_cons_succ])
        first | (refine plan_quiet nth5 rfl ?_; intro KP hKP; go_big_quiet_op; go_big_quiet_on) | (refine plan_skip_q nth5 rfl rfl ?_; simp only [Act.put, List.setIfInBounds_toArray, List.set_cons_zero, List.set_cons_succ])
        first | (refine plan_quiet nth6 rfl ?_; intro KP hKP; go_big_quiet_op; go_big_quiet_on) | (refine plan_skip_q nth6 rfl rfl ?_; simp only [Act.put, List.setIfInBounds_toArray, List.set_cons_zero, List.set_cons_succ])
        first | (refine plan_loud nth7 rfl ?_; intro KP hKP; go_wp2_with (first | (go_at_call 154; first | ((with_reducible refine (Calls.later (hCP.out _ ((hr.out.take_pts i).bel bb))).mono ?_); rintro e w' ⟨rfl, xl, rfl⟩; have hsz := xl.bel.size; (try simp only [World.size_alloc, World.size_setCell, World.size_drew] at hsz); (try have hz0 : w.heap.size < xl.w.heap.size := (by omega)); (try have hz1 : w.heap.size + 1 < xl.w.heap.size := (by omega)); (try have hz2 : w.heap.size + 1 + 1 < xl.w.heap.size := (by omega))) | ((with_reducible refine (hCP.out _ ((hr.out.take_pts i).bel bb)).mono ?_); rintro e w' ⟨rfl, xl, rfl⟩; have hsz := xl.bel.size; (try simp only [World.size_alloc, World.size_setCell, World.size_drew] at hsz); (try have hz0 : w.heap.size < xl.w.heap.size := (by omega)); (try have hz1 : w.heap.size + 1 < xl.w.heap.size := (by omega)); (try have hz2 : w.heap.size + 1 + 1 < xl.w.heap.size := (by omega)))) | (go_at_call 155; first | ((with_reducible refine (Calls.later (hTA.out _ (hr.out.bel bb))).mono ?_); rintro e w' ⟨rfl, xl, rfl⟩; have hsz := xl.bel.size; (try simp only [World.size_alloc, World.size_setCell, World.size_drew] at hsz); (try have hz0 : w.heap.size < xl.w.heap.size := (by omega)); (try have hz1 : w.heap.size + 1 < xl.w.heap.size := (by omega)); (try have hz2 : w.heap.size + 1 + 1 < xl.w.heap.size := (by omega))) | ((with_reducible refine (hTA.out _ (hr.out.bel bb)).mono ?_); rintro e w' ⟨rfl, xl, rfl⟩; have hsz := xl.bel.size; (try simp only [World.size_alloc, World.size_setCell, World.size_drew] at hsz); (try have hz0 : w.heap.size < xl.w.heap.size := (by omega)); (try have hz1 : w.heap.size + 1 < xl.w.heap.size := (by omega)); (try have hz2 : w.heap.size + 1 + 1 < xl.w.heap.size := (by omega))))); refine hKP _ _ (LaterC.mk bb) ?_; clear hKP KP) | (refine plan_skip nth7 rfl rfl (LaterC.mk bb) ?_; simp only [Act.put, List.setIfInBounds_toArray, List.set_cons_zero, List.set_cons_succ])
        first | (refine plan_quiet nth8 rfl ?_; intro KP hKP; go_big_quiet_op; go_big_quiet_on) | (refine plan_skip_q nth8 rfl rfl ?_; simp only [Act.put, List.setIfInBounds_toArray, List.set_cons_zero, List.set_cons_succ])
        first | (refine plan_quiet nth9 rfl ?_; intro KP hKP; go_big_quiet_op; go_big_quiet_on) | (refine plan_skip_q nth9 rfl rfl ?_; simp only [Act.put, List.setIfInBounds_toArray, List.set_cons_zero, List.set_cons_succ])
        first | (refine plan_quiet nth10 rfl ?_; intro KP hKP; go_big_quiet_op; go_big_quiet_on) | (refine plan_skip_q nth10 rfl rfl ?_; simp only [Act.put, List.setIfInBounds_toArray, List.set_cons_zero, List.set_cons_succ])
        first | (refine plan_loud nth11 rfl ?_; intro KP hKP; go_wp2_with (first | (go_at_call 154; first | ((with_reducible refine (Calls.later (hCP.out _ ((hr.out.take_pts i).bel bb))).mono ?_); rintro e w' ⟨rfl, xl, rfl⟩; have hsz := xl.bel.size; (try simp only [World.size_alloc, World.size_setCell, World.size_drew] at hsz); (try have hz0 : w.heap.size < xl.w.heap.size := (by omega)); (try have hz1 : w.heap.size + 1 < xl.w.heap.size := (by omega)); (try have hz2 : w.heap.size + 1 + 1 < xl.w.heap.size := (by omega))) | ((with_reducible refine (hCP.out _ ((hr.out.take_pts i).bel bb)).mono ?_); rintro e w' ⟨rfl, xl, rfl⟩; have hsz := xl.bel.size; (try simp only [World.size_alloc, World.size_setCell, World.size_drew] at hsz); (try have hz0 : w.heap.size < xl.w.heap.size := (by omega)); (try have hz1 : w.heap.size + 1 < xl.w.heap.size := (by omega)); (try have hz2 : w.heap.size + 1 + 1 < xl.w.heap.size := (by omega)))) | (go_at_call 155; first | ((with_reducible refine (Calls.later (hTA.out _ (hr.out.bel bb))).mono ?_); rintro e w' ⟨rfl, xl, rfl⟩; have hsz := xl.bel.size; (try simp only [World.size_alloc, World.size_setCell, World.size_drew] at hsz); (try have hz0 : w.heap.size < xl.w.heap.size := (by omega)); (try have hz1 : w.heap.size + 1 < xl.w.heap.size := (by omega)); (try have hz2 : w.heap.size + 1 + 1 < xl.w.heap.size := (by omega))) | ((with_reducible refine (hTA.out _ (hr.out.bel bb)).mono ?_); rintro e w' ⟨rfl, xl, rfl⟩; have hsz := xl.bel.size; (try simp only [World.size_alloc, World.size_setCell, World.size_drew] at hsz); (try have hz0 : w.heap.size < xl.w.heap.size := (by omega)); (try have hz1 : w.heap.size + 1 < xl.w.heap.size := (by omega)); (try have hz2 : w.heap.size + 1 + 1 < xl.w.heap.size := (by omega))))); refine hKP _ _ (LaterC.mk bb) ?_; clear hKP KP) | (refine plan_skip nth11 rfl rfl (LaterC.mk bb) ?_; simp only [Act.put, List.setIfInBounds_toArray, List.set_cons_zero, List.set_cons_succ])
        first | (refine plan_quiet nth12 rfl ?_; intro KP hKP; go_big_quiet_op; go_big_quiet_on) | (refine plan_skip_q nth12 rfl rfl ?_; simp only [Act.put, List.setIfInBounds_toArray, List.set_cons_zero, List.set_cons_succ])
        first | (refine plan_quiet nth13 rfl ?_; intro KP hKP; go_big_quiet_op; go_big_quiet_on) | (refine plan_skip_q nth13 rfl rfl ?_; simp only [Act.put, List.setIfInBounds_toArray, List.set_cons_zero, List.set_cons_succ])
        refine plan_nil ?_
        go_wp2_with fail
        go_ret
        exact .mk (by rw [X.out]; rfl) bb
      have hT' := Lib.hid (show turnAtZ L i ≠ 0 by rw [hT]; simpa using h0)
      clear hT
      go_wp2_with fail
      refine wp_region_plan [(0, true), (1, true), (2, true), (3, true), (4, true), (5, true), (6, true), (7, false), (8, true), (9, true), (10, true), (11, false), (12, true), (13, true)] (C := LaterC _) (by kernel_rfl) (by kernel_rfl) (by kernel_rfl) rfl (fun _ _ d _ _ h => by cases d <;> exact h) (LaterC.mk ((Below.refl _ _).drew)) ?_
      first | (refine plan_quiet nth0 rfl ?_; intro KP hKP; go_big_quiet_op; go_big_quiet_on) | (refine plan_skip_q nth0 rfl rfl ?_; simp only [Act.put, List.setIfInBounds_toArray, List.set_cons_zero, List.set_cons_succ])
      first | (refine plan_quiet nth1 rfl ?_; intro KP hKP; go_big_quiet_op; go_big_quiet_on) | (refine plan_skip_q nth1 rfl rfl ?_; simp only [Act.put, List.setIfInBounds_toArray, List.set_cons_zero, List.set_cons_succ])
      first | (refine plan_quiet nth2 rfl ?_; intro KP hKP; go_big_quiet_op; go_big_quiet_on) | (refine plan_skip_q nth2 rfl rfl ?_; simp only [Act.put, List.setIfInBounds_toArray, List.set_cons_zero, List.set_cons_succ])
      first | (refine plan_quiet nth3 rfl ?_; intro KP hKP; go_big_quiet_op; go_big_quiet_on) | (refine plan_skip_q nth3 rfl rfl ?_; simp only [Act.put, List.setIfInBounds_toArray, List.set_cons_zero, List.set_cons_succ])
      first | (refine plan_quiet nth4 rfl ?_; intro KP hKP; go_big_quiet_op; go_big_quiet_on) | (refine plan_skip_q nth4 rfl rfl ?_; simp only [Act.put, List.setIfInBounds_toArray, List.set_cons_zero, List.set_cons_succ])
      first | (refine plan_quiet nth5 rfl ?_; intro KP hKP; go_big_quiet_op; go_big_quiet_on) | (refine plan_skip_q nth5 rfl rfl ?_; simp only [Act.put, List.setIfInBounds_toArray, List.set_cons_zero, List.set_cons_succ])
      first | (refine plan_quiet nth6 rfl ?_; intro KP hKP; go_big_quiet_op; go_big_quiet_on) | (refine plan_skip_q nth6 rfl rfl ?_; simp only [Act.put, List.setIfInBounds_toArray, List.set_cons_zero, List.set_cons_succ])
      first | (refine plan_loud nth7 rfl ?_; intro KP hKP; go_wp2_with (first | (go_at_call 154; first | ((with_reducible refine (Calls.later (hCP.out _ ((hr.out.take_pts i).bel bb))).mono ?_); rintro e w' ⟨rfl, xl, rfl⟩; have hsz := xl.bel.size; (try simp only [World.size_alloc, World.size_setCell, World.size_drew] at hsz); (try have hz0 : w.heap.size < xl.w.heap.size := (by omega)); (try have hz1 : w.heap.size + 1 < xl.w.heap.size := (by omega)); (try have hz2 : w.heap.size + 1 + 1 < xl.w.heap.size := (by omega))) | ((with_reducible refine (hCP.out _ ((hr.out.take_pts i).bel bb)).mono ?_); rintro e w' ⟨rfl, xl, rfl⟩; have hsz := xl.bel.size; (try simp only [World.size_alloc, World.size_setCell, World.size_drew] at hsz); (try have hz0 : w.heap.size < xl.w.heap.size := (by omega)); (try have hz1 : w.heap.size + 1 < xl.w.heap.size := (by omega)); (try have hz2 : w.heap.size + 1 + 1 < xl.w.heap.size := (by omega)))) | (go_at_call 155; first | ((with_reducible refine (Calls.later (hTA.out _ (hr.out.bel bb))).mono ?_); rintro e w' ⟨rfl, xl, rfl⟩; have hsz := xl.bel.size; (try simp only [World.size_alloc, World.size_setCell, World.size_drew] at hsz); (try have hz0 : w.heap.size < xl.w.heap.size := (by omega)); (try have hz1 : w.heap.size + 1 < xl.w.heap.size := (by omega)); (try have hz2 : w.heap.size + 1 + 1 < xl.w.heap.size := (by omega))) | ((with_reducible refine (hTA.out _ (hr.out.bel bb)).mono ?_); rintro e w' ⟨rfl, xl, rfl⟩; have hsz := xl.bel.size; (try simp only [World.size_alloc, World.size_setCell, World.size_drew] at hsz); (try have hz0 : w.heap.size < xl.w.heap.size := (by omega)); (try have hz1 : w.heap.size + 1 < xl.w.heap.size := (by omega)); (try have hz2 : w.heap.size + 1 + 1 < xl.w.heap.size := (by omega))))); refine hKP _ _ (LaterC.mk bb) ?_; clear hKP KP) | (refine plan_skip nth7 rfl rfl (LaterC.mk bb) ?_; simp only [Act.put, List.setIfInBounds_toArray, List.set_cons_zero, List.set_cons_succ])
      first | (refine plan_quiet nth8 rfl ?_; intro KP hKP; go_big_quiet_op; go_big_quiet_on) | (refine plan_skip_q nth8 rfl rfl ?_; simp only [Act.put, List.setIfInBounds_toArray, List.set_cons_zero, List.set_cons_succ])
      first | (refine plan_quiet nth9 rfl ?_; intro KP hKP; go_big_quiet_op; go_big_quiet_on) | (refine plan_skip_q nth9 rfl rfl ?_; simp only [Act.put, List.setIfInBounds_toArray, List.set_cons_zero, List.set_cons_succ])
      first | (refine plan_quiet nth10 rfl ?_; intro KP hKP; go_big_quiet_op; go_big_quiet_on) | (refine plan_skip_q nth10 rfl rfl ?_; simp only [Act.put, List.setIfInBounds_toArray, List.set_cons_zero, List.set_cons_succ])
      first | (refine plan_loud nth11 rfl ?_; intro KP hKP; go_wp2_with (first | (go_at_call 154; first | ((with_reducible refine (Calls.later (hCP.out _ ((hr.out.take_pts i).bel bb))).mono ?_); rintro e w' ⟨rfl, xl, rfl⟩; have hsz := xl.bel.size; (try simp only [World.size_alloc, World.size_setCell, World.size_drew] at hsz); (try have hz0 : w.heap.size < xl.w.heap.size := (by omega)); (try have hz1 : w.heap.size + 1 < xl.w.heap.size := (by omega)); (try have hz2 : w.heap.size + 1 + 1 < xl.w.heap.size := (by omega))) | ((with_reducible refine (hCP.out _ ((hr.out.take_pts i).bel bb)).mono ?_); rintro e w' ⟨rfl, xl, rfl⟩; have hsz := xl.bel.size; (try simp only [World.size_alloc, World.size_setCell, World.size_drew] at hsz); (try have hz0 : w.heap.size < xl.w.heap.size := (by omega)); (try have hz1 : w.heap.size + 1 < xl.w.heap.size := (by omega)); (try have hz2 : w.heap.size + 1 + 1 < xl.w.heap.size := (by omega)))) | (go_at_call 155; first | ((with_reducible refine (Calls.later (hTA.out _ (hr.out.bel bb))).mono ?_); rintro e w' ⟨rfl, xl, rfl⟩; have hsz := xl.bel.size; (try simp only [World.size_alloc, World.size_setCell, World.size_drew] at hsz); (try have hz0 : w.heap.size < xl.w.heap.size := (by omega)); (try have hz1 : w.heap.size + 1 < xl.w.heap.size := (by omega)); (try have hz2 : w.heap.size + 1 + 1 < xl.w.heap.size := (by omega))) | ((with_reducible refine (hTA.out _ (hr.out.bel bb)).mono ?_); rintro e w' ⟨rfl, xl, rfl⟩; have hsz := xl.bel.size; (try simp only [World.size_alloc, World.size_setCell, World.size_drew] at hsz); (try have hz0 : w.heap.size < xl.w.heap.size := (by omega)); (try have hz1 : w.heap.size + 1 < xl.w.heap.size := (by omega)); (try have hz2 : w.heap.size + 1 + 1 < xl.w.heap.size := (by omega))))); refine hKP _ _ (LaterC.mk bb) ?_; clear hKP KP) | (refine plan_skip nth11 rfl rfl (LaterC.mk bb) ?_; simp only [Act.put, List.setIfInBounds_toArray, List.set_cons_zero, List.set_cons_succ])
      first | (refine plan_quiet nth12 rfl ?_; intro KP hKP; go_big_quiet_op; go_big_quiet_on) | (refine plan_skip_q nth12 rfl rfl ?_; simp only [Act.put, List.setIfInBounds_toArray, List.set_cons_zero, List.set_cons_succ])
      first | (refine plan_quiet nth13 rfl ?_; intro KP hKP; go_big_quiet_op; go_big_quiet_on) | (refine plan_skip_q nth13 rfl rfl ?_; simp only [Act.put, List.setIfInBounds_toArray, List.set_cons_zero, List.set_cons_succ])
      refine plan_nil ?_
      go_wp2_with fail
      go_loopw [4] (fun t4 wr => ∃ k : Nat, i < k ∧ k ≤ L.length ∧ t4 = .int .i64 k ∧ (∀ k', i < k' → k' < k → apartB L i k' = true) ∧ ∃ z : Later w, wr = z.w) (fun t4 _ => L.length - (intOf t4).toNat)
      case atStart =>
        refine ⟨i + 1, by omega, by omega, by go_num, fun k' h1 h2 => absurd h2 (by omega), LaterC.mk ?_⟩
        (exact bb)
      case round =>
        obtain ⟨k, hik, hk, rfl, hin, z2, rfl⟩ := hrel
        replace hin := Lib.hid hin
        have hz2 := z2.bel.size
        by_cases hlk : k < L.length
        · have hC := hAA.out k z2.w hlk (hr.out.bel z2.bel)
          cases hB : apartB L i k
          · rw [hB] at hC
            replace hC := Lib.hid hC
            have X := Lib.hid (ringB_no (L := L) fun hR => by
              have h := hR.cross i k hik hlk
              rw [hB] at h; cases h)
            clear hB
            go_wp2_with fail
            with_reducible refine (hC.out).mono ?_
            rintro e w' ⟨rfl, y7, rfl⟩
            have hsy7 := y7.bel.size
            (try simp only [World.size_alloc, World.size_setCell, World.size_drew] at hsy7)
            go_wp2_with fail
            go_ret
            exact .mk (by rw [X.out]; rfl) bb
          · rw [hB] at hC
            replace hC := Lib.hid hC
            have X := Lib.hid (show ∀ k', i < k' → k' < k + 1 → apartB L i k' = true from fun k' h1 h2 => by
              by_cases h : k' = k
              · rw [h]; exact hB
              · exact hin.out k' h1 (by omega))
            clear hB
            go_wp2_with fail
            with_reducible refine (hC.out).mono ?_
            rintro e w' ⟨rfl, y7, rfl⟩
            have hsy7 := y7.bel.size
            (try simp only [World.size_alloc, World.size_setCell, World.size_drew] at hsy7)
            go_wp2_with fail
            go_roundw
            case rel =>
              refine ⟨k + 1, by omega, by omega, by go_num, X.out, LaterC.mk ?_⟩
              (exact bb)
            case measure => first | (simp [intOf]; done) | (simp [intOf]; omega) | omega
        · obtain rfl : k = L.length := by omega
          have X := Lib.hid (show RingTo L (i + 1) from fun i' h => by
            by_cases h2 : i' = i
            · subst h2; exact ⟨hA'.out, hT'.out, fun k h1 h2 => hin.out k h1 h2⟩
            · exact hall.out i' (by omega))
          go_wp2_with fail
          go_roundw
          case rel => exact ⟨i + 1, by omega, by go_num, X.out, z2, rfl⟩
          case measure => first | (simp [intOf]; done) | (simp [intOf]; omega) | omega
    · obtain rfl : i = L.length := by omega
      have X := Lib.hid (ringB_yes H12.out.1 H12.out.2 (ringTo_all hall.out))
      go_wp2_with fail
      go_ret
      exact .mk (by rw [X.out]; rfl) bb
end Go.Proofs.YtklcaphkfdlipaaGreatDoor

/- Is it a ring: the reference's way. -/
set_option linter.unusedSimpArgs false
set_option linter.unusedVariables false
namespace Go.Proofs.YtklcaphkfdlipaaGreatDoor
open Go.RowKit
def RingA (L : List Pt) (i : Nat) : Prop := ∀ i', i' < i → turnAtZ L i' ≠ 0 ∧ ∀ j, j < i' → cor L i' ≠ cor L j
def farB (L : List Pt) (i k : Nat) : Prop := (i = 0 ∧ k + 1 = L.length) ∨ crossB (cor L i) (cor L (i + 1)) (cor L k) (cor L (k + 1)) = false
def RingB (L : List Pt) (i : Nat) : Prop := ∀ i', i' < i → ∀ k, i' + 2 ≤ k → k < L.length → farB L i' k
theorem apart_of_far {L : List Pt} {i k : Nat} (h : farB L i k) : apartB L i k = true := by
  unfold apartB
  rcases h with ⟨h1, h2⟩ | h
  · simp [h1, h2]
  · simp [h]
theorem far_of_apart {L : List Pt} {i k : Nat} (h : apartB L i k = true) (hk : i + 2 ≤ k) : farB L i k := by
  unfold apartB at h
  simp only [Bool.or_eq_true, Bool.and_eq_true, decide_eq_true_eq, Bool.not_eq_true'] at h
  rcases h with (h | h) | h
  · omega
  · exact .inl h
  · exact .inr h
theorem ringP_of {L : List Pt} (hA : RingA L L.length) (hB : RingB L L.length) : RingP L :=
  ⟨fun i j hj hi => (hA i hi).2 j hj, fun i hi => (hA i hi).1, fun i k hk hl => by
    by_cases h : k = i + 1
    · simp [apartB, h]
    · exact apart_of_far (hB i (by omega) k (by omega) hl)⟩
set_option maxRecDepth 4000 in
set_option maxHeartbeats 4000000 in
theorem sIsRing_any (L : List Pt) (a : Option Addr) (n c : Nat) (w : World) (hn : L.length = n) (hm : n ≤ 1048576) (hr : Row w a (ptsCells L)) :
    Calls Tryz.prog 138 #[.slice a n c] w (Ret w (.bool (ringB L))) := by
  subst hn
  replace hr := Lib.hid hr
  cases h1 : inB L.length 3 12
  · have X := Lib.hid (ringB_len h1)
    go_enter Tryz.func138, Tryz.ntmps138
    go_wp2_with fail
    with_reducible refine (l01In_b _ h1).mono ?_
    rintro e w' ⟨rfl, y2, rfl⟩
    have hsy2 := y2.bel.size
    (try simp only [World.size_alloc, World.size_setCell, World.size_drew] at hsy2)
    go_wp2_with fail
    go_ret
    exact .mk (by rw [X.out]; rfl) bb
  have hAP := fun a w hr => l15Points_any L a L.length c w rfl hm hr
  cases h2 : L.all pointB
  · rw [h2] at hAP
    have X := Lib.hid (ringB_pts h2)
    replace hAP := Lib.hid hAP
    clear h2
    go_enter Tryz.func138, Tryz.ntmps138
    go_wp2_with fail
    with_reducible refine (l01In_b _ h1).mono ?_
    rintro e w' ⟨rfl, y2, rfl⟩
    have hsy2 := y2.bel.size
    (try simp only [World.size_alloc, World.size_setCell, World.size_drew] at hsy2)
    go_wp2_with fail
    with_reducible refine (hAP.out _ _ (hr.out.bel bb)).mono ?_
    rintro e w' ⟨rfl, y3, rfl⟩
    have hsy3 := y3.bel.size
    (try simp only [World.size_alloc, World.size_setCell, World.size_drew] at hsy3)
    go_wp2_with fail
    go_ret
    exact .mk (by rw [X.out]; rfl) bb
  rw [h2] at hAP
  replace hAP := Lib.hid hAP
  have hPB := Lib.hid (ptsB_of h2)
  have H12 := Lib.hid (And.intro h1 h2)
  have hl := inB_iff.1 h1
  have h0 : 0 < L.length := by omega
  clear h2
  go_enter Tryz.func138, Tryz.ntmps138
  go_wp2_with fail
  with_reducible refine (l01In_b _ h1).mono ?_
  rintro e w' ⟨rfl, y2, rfl⟩
  have hsy2 := y2.bel.size
  (try simp only [World.size_alloc, World.size_setCell, World.size_drew] at hsy2)
  go_wp2_with fail
  with_reducible refine (hAP.out _ _ (hr.out.bel bb)).mono ?_
  rintro e w' ⟨rfl, y3, rfl⟩
  have hsy3 := y3.bel.size
  (try simp only [World.size_alloc, World.size_setCell, World.size_drew] at hsy3)
  go_wp2_with fail
  clear h1
  go_loopw [4] (fun t4 wr => ∃ i : Nat, i ≤ L.length ∧ t4 = .int .i64 i ∧ RingA L i ∧ ∃ z : Later w, wr = z.w) (fun t4 _ => L.length - (intOf t4).toNat)
  case atStart =>
    refine ⟨0, Nat.zero_le _, rfl, fun i' h => absurd h (by omega), LaterC.mk ?_⟩
    (exact bb)
  case round =>
    obtain ⟨i, hi, rfl, hall, z, rfl⟩ := hrel
    replace hall := Lib.hid hall
    have hzz := z.bel.size
    by_cases hlt : i < L.length
    · obtain ⟨b, o, rfl, hb, q0, q1⟩ := hr.out.pt hlt
      rw [← cor_lt hlt] at q0 q1
      have hi1 : (i : Int) < (L.length : Int) := by omega
      have hT := fun w => sTurn_any (cor L i) (cor L (i + 1)) (cor L (i + 2)) w (hPB.out.cor h0 i) (hPB.out.cor h0 (i + 1)) (hPB.out.cor h0 (i + 2))
      have hC1 := Lib.hid (fun z w hz hr => l16At_z (L := L) (i := i + 1) (z := z) (a := some ⟨b, o, none⟩) (n := L.length) (c := c) (w := w) hz rfl h0 hm (by omega) hr)
      have hC2 := Lib.hid (fun z w hz hr => l16At_z (L := L) (i := i + 2) (z := z) (a := some ⟨b, o, none⟩) (n := L.length) (c := c) (w := w) hz rfl h0 hm (by omega) hr)
      have hTT : turnAtZ L i = turnZ (cor L i) (cor L (i + 1)) (cor L (i + 2)) := rfl
      rw [← hTT] at hT
      clear hTT
      generalize hTe : turnAtZ L i = t at hT
      replace hT := Lib.hid hT
      cases h00 : (t == 0)
      rotate_left
      · have X := Lib.hid (ringB_no (L := L) fun hR => by
          have h := hR.turn i hlt
          rw [hTe] at h
          exact h (by simpa using h00))
        clear hTe
        go_wp2_with fail
        refine wp_region_plan [(0, true), (1, true), (2, true), (3, true), (4, true), (5, true), (6, true), (8, true), (9, true), (10, true), (7, false), (11, false), (12, false), (13, true)] (C := LaterC _) (by kernel_rfl) (by kernel_rfl) (by kernel_rfl) rfl (fun _ _ d _ _ h => by cases d <;> exact h) (LaterC.mk ((Below.refl _ _).drew)) ?_
        first | (refine plan_quiet nth0 rfl ?_; intro KP hKP; go_big_quiet_op; go_big_quiet_on) | (refine plan_skip_q nth0 rfl rfl ?_; simp only [Act.put, List.setIfInBounds_toArray, List.set_cons_zero, List.set_cons_succ])
        first | (refine plan_quiet nth1 rfl ?_; intro KP hKP; go_big_quiet_op; go_big_quiet_on) | (refine plan_skip_q nth1 rfl rfl ?_; simp only [Act.put, List.setIfInBounds_toArray, List.set_cons_zero, List.set_cons_succ])
        first | (refine plan_quiet nth2 rfl ?_; intro KP hKP; go_big_quiet_op; go_big_quiet_on) | (refine plan_skip_q nth2 rfl rfl ?_; simp only [Act.put, List.setIfInBounds_toArray, List.set_cons_zero, List.set_cons_succ])
        first | (refine plan_quiet nth3 rfl ?_; intro KP hKP; go_big_quiet_op; go_big_quiet_on) | (refine plan_skip_q nth3 rfl rfl ?_; simp only [Act.put, List.setIfInBounds_toArray, List.set_cons_zero, List.set_cons_succ])
        first | (refine plan_quiet nth4 rfl ?_; intro KP hKP; go_big_quiet_op; go_big_quiet_on) | (refine plan_skip_q nth4 rfl rfl ?_; simp only [Act.put, List.setIfInBounds_toArray, List.set_cons_zero, List.set_cons_succ])
        first | (refine plan_quiet nth5 rfl ?_; intro KP hKP; go_big_quiet_op; go_big_quiet_on) | (refine plan_skip_q nth5 rfl rfl ?_; simp only [Act.put, List.setIfInBounds_toArray, List.set_cons_zero, List.set_cons_succ])
        first | (refine plan_quiet nth6 rfl ?_; intro KP hKP; go_big_quiet_op; go_big_quiet_on) | (refine plan_skip_q nth6 rfl rfl ?_; simp only [Act.put, List.setIfInBounds_toArray, List.set_cons_zero, List.set_cons_succ])
        first | (refine plan_quiet nth8 rfl ?_; intro KP hKP; go_big_quiet_op; go_big_quiet_on) | (refine plan_skip_q nth8 rfl rfl ?_; simp only [Act.put, List.setIfInBounds_toArray, List.set_cons_zero, List.set_cons_succ])
        first | (refine plan_quiet nth9 rfl ?_; intro KP hKP; go_big_quiet_op; go_big_quiet_on) | (refine plan_skip_q nth9 rfl rfl ?_; simp only [Act.put, List.setIfInBounds_toArray, List.set_cons_zero, List.set_cons_succ])
        first | (refine plan_quiet nth10 rfl ?_; intro KP hKP; go_big_quiet_op; go_big_quiet_on) | (refine plan_skip_q nth10 rfl rfl ?_; simp only [Act.put, List.setIfInBounds_toArray, List.set_cons_zero, List.set_cons_succ])
        first | (refine plan_loud nth7 rfl ?_; intro KP hKP; go_wp2_with (first | (go_at_call 112; first | ((with_reducible refine (hC1.out _ _ (by omega) (hr.out.bel bb)).mono ?_); rintro e w' ⟨rfl, y4, rfl⟩; have hs4 := y4.bel.size) | ((with_reducible refine (hC2.out _ _ (by omega) (hr.out.bel bb)).mono ?_); rintro e w' ⟨rfl, y5, rfl⟩; have hs5 := y5.bel.size)) | (go_at_call 137; first | ((with_reducible refine (Calls.later (hT.out _)).mono ?_); rintro e w' ⟨rfl, xl, rfl⟩; have hsz := xl.bel.size; (try simp only [World.size_alloc, World.size_setCell, World.size_drew] at hsz); (try have hz0 : w.heap.size < xl.w.heap.size := (by omega)); (try have hz1 : w.heap.size + 1 < xl.w.heap.size := (by omega)); (try have hz2 : w.heap.size + 1 + 1 < xl.w.heap.size := (by omega))) | ((with_reducible refine (hT.out _).mono ?_); rintro e w' ⟨rfl, xl, rfl⟩; have hsz := xl.bel.size; (try simp only [World.size_alloc, World.size_setCell, World.size_drew] at hsz); (try have hz0 : w.heap.size < xl.w.heap.size := (by omega)); (try have hz1 : w.heap.size + 1 < xl.w.heap.size := (by omega)); (try have hz2 : w.heap.size + 1 + 1 < xl.w.heap.size := (by omega))))); refine hKP _ _ (LaterC.mk bb) ?_; clear hKP KP) | (refine plan_skip nth7 rfl rfl (LaterC.mk bb) ?_; simp only [Act.put, List.setIfInBounds_toArray, List.set_cons_zero, List.set_cons_succ])
        first | (refine plan_loud nth11 rfl ?_; intro KP hKP; go_wp2_with (first | (go_at_call 112; first | ((with_reducible refine (hC1.out _ _ (by omega) (hr.out.bel bb)).mono ?_); rintro e w' ⟨rfl, y4, rfl⟩; have hs4 := y4.bel.size) | ((with_reducible refine (hC2.out _ _ (by omega) (hr.out.bel bb)).mono ?_); rintro e w' ⟨rfl, y5, rfl⟩; have hs5 := y5.bel.size)) | (go_at_call 137; first | ((with_reducible refine (Calls.later (hT.out _)).mono ?_); rintro e w' ⟨rfl, xl, rfl⟩; have hsz := xl.bel.size; (try simp only [World.size_alloc, World.size_setCell, World.size_drew] at hsz); (try have hz0 : w.heap.size < xl.w.heap.size := (by omega)); (try have hz1 : w.heap.size + 1 < xl.w.heap.size := (by omega)); (try have hz2 : w.heap.size + 1 + 1 < xl.w.heap.size := (by omega))) | ((with_reducible refine (hT.out _).mono ?_); rintro e w' ⟨rfl, xl, rfl⟩; have hsz := xl.bel.size; (try simp only [World.size_alloc, World.size_setCell, World.size_drew] at hsz); (try have hz0 : w.heap.size < xl.w.heap.size := (by omega)); (try have hz1 : w.heap.size + 1 < xl.w.heap.size := (by omega)); (try have hz2 : w.heap.size + 1 + 1 < xl.w.heap.size := (by omega))))); refine hKP _ _ (LaterC.mk bb) ?_; clear hKP KP) | (refine plan_skip nth11 rfl rfl (LaterC.mk bb) ?_; simp only [Act.put, List.setIfInBounds_toArray, List.set_cons_zero, List.set_cons_succ])
        first | (refine plan_loud nth12 rfl ?_; intro KP hKP; go_wp2_with (first | (go_at_call 112; first | ((with_reducible refine (hC1.out _ _ (by omega) (hr.out.bel bb)).mono ?_); rintro e w' ⟨rfl, y4, rfl⟩; have hs4 := y4.bel.size) | ((with_reducible refine (hC2.out _ _ (by omega) (hr.out.bel bb)).mono ?_); rintro e w' ⟨rfl, y5, rfl⟩; have hs5 := y5.bel.size)) | (go_at_call 137; first | ((with_reducible refine (Calls.later (hT.out _)).mono ?_); rintro e w' ⟨rfl, xl, rfl⟩; have hsz := xl.bel.size; (try simp only [World.size_alloc, World.size_setCell, World.size_drew] at hsz); (try have hz0 : w.heap.size < xl.w.heap.size := (by omega)); (try have hz1 : w.heap.size + 1 < xl.w.heap.size := (by omega)); (try have hz2 : w.heap.size + 1 + 1 < xl.w.heap.size := (by omega))) | ((with_reducible refine (hT.out _).mono ?_); rintro e w' ⟨rfl, xl, rfl⟩; have hsz := xl.bel.size; (try simp only [World.size_alloc, World.size_setCell, World.size_drew] at hsz); (try have hz0 : w.heap.size < xl.w.heap.size := (by omega)); (try have hz1 : w.heap.size + 1 < xl.w.heap.size := (by omega)); (try have hz2 : w.heap.size + 1 + 1 < xl.w.heap.size := (by omega))))); refine hKP _ _ (LaterC.mk bb) ?_; clear hKP KP) | (refine plan_skip nth12 rfl rfl (LaterC.mk bb) ?_; simp only [Act.put, List.setIfInBounds_toArray, List.set_cons_zero, List.set_cons_succ])
        first | (refine plan_quiet nth13 rfl ?_; intro KP hKP; go_big_quiet_op; go_big_quiet_on) | (refine plan_skip_q nth13 rfl rfl ?_; simp only [Act.put, List.setIfInBounds_toArray, List.set_cons_zero, List.set_cons_succ])
        refine plan_nil ?_
        go_wp2_with fail
        go_ret
        exact .mk (by rw [X.out]; rfl) bb
      have hT' := Lib.hid (show turnAtZ L i ≠ 0 by rw [hTe]; simpa using h00)
      clear hTe
      go_wp2_with fail
      refine wp_region_plan [(0, true), (1, true), (2, true), (3, true), (4, true), (5, true), (6, true), (8, true), (9, true), (10, true), (7, false), (11, false), (12, false), (13, true)] (C := LaterC _) (by kernel_rfl) (by kernel_rfl) (by kernel_rfl) rfl (fun _ _ d _ _ h => by cases d <;> exact h) (LaterC.mk ((Below.refl _ _).drew)) ?_
      first | (refine plan_quiet nth0 rfl ?_; intro KP hKP; go_big_quiet_op; go_big_quiet_on) | (refine plan_skip_q nth0 rfl rfl ?_; simp only [Act.put, List.setIfInBounds_toArray, List.set_cons_zero, List.set_cons_succ])
      first | (refine plan_quiet nth1 rfl ?_; intro KP hKP; go_big_quiet_op; go_big_quiet_on) | (refine plan_skip_q nth1 rfl rfl ?_; simp only [Act.put, List.setIfInBounds_toArray, List.set_cons_zero, List.set_cons_succ])
      first | (refine plan_quiet nth2 rfl ?_; intro KP hKP; go_big_quiet_op; go_big_quiet_on) | (refine plan_skip_q nth2 rfl rfl ?_; simp only [Act.put, List.setIfInBounds_toArray, List.set_cons_zero, List.set_cons_succ])
      first | (refine plan_quiet nth3 rfl ?_; intro KP hKP; go_big_quiet_op; go_big_quiet_on) | (refine plan_skip_q nth3 rfl rfl ?_; simp only [Act.put, List.setIfInBounds_toArray, List.set_cons_zero, List.set_cons_succ])
      first | (refine plan_quiet nth4 rfl ?_; intro KP hKP; go_big_quiet_op; go_big_quiet_on) | (refine plan_skip_q nth4 rfl rfl ?_; simp only [Act.put, List.setIfInBounds_toArray, List.set_cons_zero, List.set_cons_succ])
      first | (refine plan_quiet nth5 rfl ?_; intro KP hKP; go_big_quiet_op; go_big_quiet_on) | (refine plan_skip_q nth5 rfl rfl ?_; simp only [Act.put, List.setIfInBounds_toArray, List.set_cons_zero, List.set_cons_succ])
      first | (refine plan_quiet nth6 rfl ?_; intro KP hKP; go_big_quiet_op; go_big_quiet_on) | (refine plan_skip_q nth6 rfl rfl ?_; simp only [Act.put, List.setIfInBounds_toArray, List.set_cons_zero, List.set_cons_succ])
      first | (refine plan_quiet nth8 rfl ?_; intro KP hKP; go_big_quiet_op; go_big_quiet_on) | (refine plan_skip_q nth8 rfl rfl ?_; simp only [Act.put, List.setIfInBounds_toArray, List.set_cons_zero, List.set_cons_succ])
      first | (refine plan_quiet nth9 rfl ?_; intro KP hKP; go_big_quiet_op; go_big_quiet_on) | (refine plan_skip_q nth9 rfl rfl ?_; simp only [Act.put, List.setIfInBounds_toArray, List.set_cons_zero, List.set_cons_succ])
      first | (refine plan_quiet nth10 rfl ?_; intro KP hKP; go_big_quiet_op; go_big_quiet_on) | (refine plan_skip_q nth10 rfl rfl ?_; simp only [Act.put, List.setIfInBounds_toArray, List.set_cons_zero, List.set_cons_succ])
      first | (refine plan_loud nth7 rfl ?_; intro KP hKP; go_wp2_with (first | (go_at_call 112; first | ((with_reducible refine (hC1.out _ _ (by omega) (hr.out.bel bb)).mono ?_); rintro e w' ⟨rfl, y4, rfl⟩; have hs4 := y4.bel.size) | ((with_reducible refine (hC2.out _ _ (by omega) (hr.out.bel bb)).mono ?_); rintro e w' ⟨rfl, y5, rfl⟩; have hs5 := y5.bel.size)) | (go_at_call 137; first | ((with_reducible refine (Calls.later (hT.out _)).mono ?_); rintro e w' ⟨rfl, xl, rfl⟩; have hsz := xl.bel.size; (try simp only [World.size_alloc, World.size_setCell, World.size_drew] at hsz); (try have hz0 : w.heap.size < xl.w.heap.size := (by omega)); (try have hz1 : w.heap.size + 1 < xl.w.heap.size := (by omega)); (try have hz2 : w.heap.size + 1 + 1 < xl.w.heap.size := (by omega))) | ((with_reducible refine (hT.out _).mono ?_); rintro e w' ⟨rfl, xl, rfl⟩; have hsz := xl.bel.size; (try simp only [World.size_alloc, World.size_setCell, World.size_drew] at hsz); (try have hz0 : w.heap.size < xl.w.heap.size := (by omega)); (try have hz1 : w.heap.size + 1 < xl.w.heap.size := (by omega)); (try have hz2 : w.heap.size + 1 + 1 < xl.w.heap.size := (by omega))))); refine hKP _ _ (LaterC.mk bb) ?_; clear hKP KP) | (refine plan_skip nth7 rfl rfl (LaterC.mk bb) ?_; simp only [Act.put, List.setIfInBounds_toArray, List.set_cons_zero, List.set_cons_succ])
      first | (refine plan_loud nth11 rfl ?_; intro KP hKP; go_wp2_with (first | (go_at_call 112; first | ((with_reducible refine (hC1.out _ _ (by omega) (hr.out.bel bb)).mono ?_); rintro e w' ⟨rfl, y4, rfl⟩; have hs4 := y4.bel.size) | ((with_reducible refine (hC2.out _ _ (by omega) (hr.out.bel bb)).mono ?_); rintro e w' ⟨rfl, y5, rfl⟩; have hs5 := y5.bel.size)) | (go_at_call 137; first | ((with_reducible refine (Calls.later (hT.out _)).mono ?_); rintro e w' ⟨rfl, xl, rfl⟩; have hsz := xl.bel.size; (try simp only [World.size_alloc, World.size_setCell, World.size_drew] at hsz); (try have hz0 : w.heap.size < xl.w.heap.size := (by omega)); (try have hz1 : w.heap.size + 1 < xl.w.heap.size := (by omega)); (try have hz2 : w.heap.size + 1 + 1 < xl.w.heap.size := (by omega))) | ((with_reducible refine (hT.out _).mono ?_); rintro e w' ⟨rfl, xl, rfl⟩; have hsz := xl.bel.size; (try simp only [World.size_alloc, World.size_setCell, World.size_drew] at hsz); (try have hz0 : w.heap.size < xl.w.heap.size := (by omega)); (try have hz1 : w.heap.size + 1 < xl.w.heap.size := (by omega)); (try have hz2 : w.heap.size + 1 + 1 < xl.w.heap.size := (by omega))))); refine hKP _ _ (LaterC.mk bb) ?_; clear hKP KP) | (refine plan_skip nth11 rfl rfl (LaterC.mk bb) ?_; simp only [Act.put, List.setIfInBounds_toArray, List.set_cons_zero, List.set_cons_succ])
      first | (refine plan_loud nth12 rfl ?_; intro KP hKP; go_wp2_with (first | (go_at_call 112; first | ((with_reducible refine (hC1.out _ _ (by omega) (hr.out.bel bb)).mono ?_); rintro e w' ⟨rfl, y4, rfl⟩; have hs4 := y4.bel.size) | ((with_reducible refine (hC2.out _ _ (by omega) (hr.out.bel bb)).mono ?_); rintro e w' ⟨rfl, y5, rfl⟩; have hs5 := y5.bel.size)) | (go_at_call 137; first | ((with_reducible refine (Calls.later (hT.out _)).mono ?_); rintro e w' ⟨rfl, xl, rfl⟩; have hsz := xl.bel.size; (try simp only [World.size_alloc, World.size_setCell, World.size_drew] at hsz); (try have hz0 : w.heap.size < xl.w.heap.size := (by omega)); (try have hz1 : w.heap.size + 1 < xl.w.heap.size := (by omega)); (try have hz2 : w.heap.size + 1 + 1 < xl.w.heap.size := (by omega))) | ((with_reducible refine (hT.out _).mono ?_); rintro e w' ⟨rfl, xl, rfl⟩; have hsz := xl.bel.size; (try simp only [World.size_alloc, World.size_setCell, World.size_drew] at hsz); (try have hz0 : w.heap.size < xl.w.heap.size := (by omega)); (try have hz1 : w.heap.size + 1 < xl.w.heap.size := (by omega)); (try have hz2 : w.heap.size + 1 + 1 < xl.w.heap.size := (by omega))))); refine hKP _ _ (LaterC.mk bb) ?_; clear hKP KP) | (refine plan_skip nth12 rfl rfl (LaterC.mk bb) ?_; simp only [Act.put, List.setIfInBounds_toArray, List.set_cons_zero, List.set_cons_succ])
      first | (refine plan_quiet nth13 rfl ?_; intro KP hKP; go_big_quiet_op; go_big_quiet_on) | (refine plan_skip_q nth13 rfl rfl ?_; simp only [Act.put, List.setIfInBounds_toArray, List.set_cons_zero, List.set_cons_succ])
      refine plan_nil ?_
      go_wp2_with fail
      go_loopw [5] (fun t5 wr => ∃ k : Nat, k ≤ i ∧ t5 = .int .i64 k ∧ (∀ j, j < k → cor L i ≠ cor L j) ∧ ∃ z : Later w, wr = z.w) (fun t5 _ => i - (intOf t5).toNat)
      case atStart =>
        refine ⟨0, by omega, by go_num, fun k' h1 => absurd h1 (by omega), LaterC.mk ?_⟩
        (exact bb)
      case round =>
        obtain ⟨k, hk, rfl, hin, z2, rfl⟩ := hrel
        replace hin := Lib.hid hin
        have hz2 := z2.bel.size
        by_cases hlk : k < i
        · have hkl : k < L.length := by omega
          obtain ⟨b', o', he, hb', q2, q3⟩ := hr.out.pt hkl
          cases he
          rw [← cor_lt hkl] at q2 q3
          have hk1 : (k : Int) < (L.length : Int) := by omega
          have hq := fun w => eqPt_run (cor L i) (cor L k) w
          cases hv : ptEqB (cor L i) (cor L k)
          · have X := Lib.hid (show ∀ j, j < k + 1 → cor L i ≠ cor L j from fun j hj => by
              by_cases h : j = k
              · subst h; intro he; rw [ptEqB_iff.2 he] at hv; cases hv
              · exact hin.out j (by omega))
            simp only [hv] at hq
            clear hv
            go_wp2_with fail
            refine wp_region_later (by kernel_rfl) (by kernel_rfl) ?_
            repeat (go_big_quiet_step (fail))
            refine wpQuiet_nil ?_
            rintro _ ⟨xq, rfl⟩
            go_wp2_with fail
            go_roundw
            case rel =>
              refine ⟨k + 1, by omega, by go_num, X.out, LaterC.mk ?_⟩
              (exact bb)
            case measure => first | (simp [intOf]; done) | (simp [intOf]; omega) | omega
          · have X := Lib.hid (ringB_no (L := L) fun hR => hR.apart i k hlk hlt (ptEqB_iff.1 hv))
            simp only [hv] at hq
            clear hv
            go_wp2_with fail
            refine wp_region_later (by kernel_rfl) (by kernel_rfl) ?_
            repeat (go_big_quiet_step (fail))
            refine wpQuiet_nil ?_
            rintro _ ⟨xq, rfl⟩
            go_wp2_with fail
            go_ret
            exact .mk (by rw [X.out]; rfl) bb
        · obtain rfl : k = i := by omega
          have X := Lib.hid (show RingA L (k + 1) from fun i' h => by
            by_cases h2 : i' = k
            · subst h2; exact ⟨hT'.out, hin.out⟩
            · exact hall.out i' (by omega))
          go_wp2_with fail
          go_roundw
          case rel => exact ⟨k + 1, by omega, by go_num, X.out, z2, rfl⟩
          case measure => first | (simp [intOf]; done) | (simp [intOf]; omega) | omega
    · obtain rfl : i = L.length := by omega
      go_wp2_with fail
      go_loopw [6] (fun t6 wr => ∃ i : Nat, i ≤ L.length ∧ t6 = .int .i64 i ∧ RingB L i ∧ ∃ z : Later w, wr = z.w) (fun t6 _ => L.length - (intOf t6).toNat)
      case atStart =>
        refine ⟨0, Nat.zero_le _, rfl, fun i' h => absurd h (by omega), LaterC.mk ?_⟩
        (exact bb)
      case round =>
        obtain ⟨i, hi, rfl, hbll, z, rfl⟩ := hrel
        replace hbll := Lib.hid hbll
        have hzz := z.bel.size
        by_cases hlt : i < L.length
        · go_wp2_with fail
          go_loopw [7] (fun t7 wr => ∃ k : Nat, i + 2 ≤ k ∧ t7 = .int .i64 k ∧ k ≤ L.length + 2 ∧ (∀ k', i + 2 ≤ k' → k' < k → k' < L.length → farB L i k') ∧ ∃ z : Later w, wr = z.w) (fun t7 _ => L.length + 2 - (intOf t7).toNat)
          case atStart =>
            refine ⟨i + 2, by omega, by go_num, by omega, fun k' h1 h2 => absurd h2 (by omega), LaterC.mk ?_⟩
            (exact bb)
          case round =>
            obtain ⟨k, hik, rfl, hkb, hin, z2, rfl⟩ := hrel
            replace hin := Lib.hid hin
            have hz2 := z2.bel.size
            by_cases hlk : k < L.length
            · have hi2 : i + 1 < L.length := by omega
              obtain ⟨b, o, rfl, hb, q0, q1⟩ := hr.out.pt hlt
              obtain ⟨b', o', he, hb', q2, q3⟩ := hr.out.pt hlk
              cases he
              obtain ⟨b'', o'', he, hb'', q4, q5⟩ := hr.out.pt hi2
              cases he
              rw [← cor_lt hlt] at q0 q1
              rw [← cor_lt hlk] at q2 q3
              rw [← cor_lt hi2] at q4 q5
              have hi1 : (i : Int) < (L.length : Int) := by omega
              have hi3 : (i : Int) + 1 < (L.length : Int) := by omega
              have hk1 : (k : Int) < (L.length : Int) := by omega
              have hT1 : ((i : Int) + 1).toNat = i + 1 := by omega
              by_cases hA : i = 0 ∧ k + 1 = L.length
              · have X := Lib.hid (show ∀ k', i + 2 ≤ k' → k' < k + 1 → k' < L.length → farB L i k' from fun k' h1 h2 h3 => by
                  by_cases h : k' = k
                  · subst h; exact .inl hA
                  · exact hin.out k' h1 (by omega) h3)
                have e2 : ((i : Int) == 0) = true := by simp; omega
                have e3 : ((k : Int) == (L.length : Int) - 1) = true := by simp; omega
                clear hA
                go_wp2_with fail
                go_roundw
                case rel =>
                  refine ⟨k + 1, by omega, by go_num, by omega, X.out, LaterC.mk ?_⟩
                  (exact bb)
                case measure => first | (simp [intOf]; done) | (simp [intOf]; omega) | omega
              · have hcase : (((i : Int) == 0) = false) ∨ (((i : Int) == 0) = true ∧ ((k : Int) == (L.length : Int) - 1) = false) := by
                  by_cases h : i = 0
                  · right
                    refine ⟨by simp; omega, ?_⟩
                    rw [beq_eq_false_iff_ne]
                    intro h2
                    exact hA ⟨h, by omega⟩
                  · left
                    rw [beq_eq_false_iff_ne]; omega
                have hX := fun w => sCross_any (cor L i) (cor L (i + 1)) (cor L k) (cor L (k + 1)) w (hPB.out.cor h0 i) (hPB.out.cor h0 (i + 1)) (hPB.out.cor h0 k) (hPB.out.cor h0 (k + 1))
                have hC1 := Lib.hid (fun z w hz hr => l16At_z (L := L) (i := k + 1) (z := z) (a := some ⟨b, o, none⟩) (n := L.length) (c := c) (w := w) hz rfl h0 hm (by omega) hr)
                cases hB : crossB (cor L i) (cor L (i + 1)) (cor L k) (cor L (k + 1))
                · have X := Lib.hid (show ∀ k', i + 2 ≤ k' → k' < k + 1 → k' < L.length → farB L i k' from fun k' h1 h2 h3 => by
                    by_cases h : k' = k
                    · subst h; exact .inr hB
                    · exact hin.out k' h1 (by omega) h3)
                  simp only [hB] at hX
                  replace hX := Lib.hid hX
                  clear hB hA
                  rcases hcase with e2 | ⟨e2, e3⟩
                  all_goals
                    go_wp2_with fail
                    refine wp_region_plan [(0, true), (1, true), (2, true), (3, true), (4, true), (5, true), (6, true), (7, true), (8, true), (9, true), (10, true), (11, true), (12, true), (13, true), (14, true), (15, true), (16, false), (17, false)] (C := LaterC _) (by kernel_rfl) (by kernel_rfl) (by kernel_rfl) rfl (fun _ _ d _ _ h => by cases d <;> exact h) (LaterC.mk ((Below.refl _ _).drew)) ?_
                    first | (refine plan_quiet nth0 rfl ?_; intro KP hKP; go_big_quiet_op; go_big_quiet_on) | (refine plan_skip_q nth0 rfl rfl ?_; simp only [Act.put, List.setIfInBounds_toArray, List.set_cons_zero, List.set_cons_succ])
                    first | (refine plan_quiet nth1 rfl ?_; intro KP hKP; go_big_quiet_op; go_big_quiet_on) | (refine plan_skip_q nth1 rfl rfl ?_; simp only [Act.put, List.setIfInBounds_toArray, List.set_cons_zero, List.set_cons_succ])
                    first | (refine plan_quiet nth2 rfl ?_; intro KP hKP; go_big_quiet_op; go_big_quiet_on) | (refine plan_skip_q nth2 rfl rfl ?_; simp only [Act.put, List.setIfInBounds_toArray, List.set_cons_zero, List.set_cons_succ])
                    first | (refine plan_quiet nth3 rfl ?_; intro KP hKP; go_big_quiet_op; go_big_quiet_on) | (refine plan_skip_q nth3 rfl rfl ?_; simp only [Act.put, List.setIfInBounds_toArray, List.set_cons_zero, List.set_cons_succ])
                    first | (refine plan_quiet nth4 rfl ?_; intro KP hKP; go_big_quiet_op; go_big_quiet_on) | (refine plan_skip_q nth4 rfl rfl ?_; simp only [Act.put, List.setIfInBounds_toArray, List.set_cons_zero, List.set_cons_succ])
                    first | (refine plan_quiet nth5 rfl ?_; intro KP hKP; go_big_quiet_op; go_big_quiet_on) | (refine plan_skip_q nth5 rfl rfl ?_; simp only [Act.put, List.setIfInBounds_toArray, List.set_cons_zero, List.set_cons_succ])
                    first | (refine plan_quiet nth6 rfl ?_; intro KP hKP; go_big_quiet_op; go_big_quiet_on) | (refine plan_skip_q nth6 rfl rfl ?_; simp only [Act.put, List.setIfInBounds_toArray, List.set_cons_zero, List.set_cons_succ])
                    first | (refine plan_quiet nth7 rfl ?_; intro KP hKP; go_big_quiet_op; go_big_quiet_on) | (refine plan_skip_q nth7 rfl rfl ?_; simp only [Act.put, List.setIfInBounds_toArray, List.set_cons_zero, List.set_cons_succ])
                    first | (refine plan_quiet nth8 rfl ?_; intro KP hKP; go_big_quiet_op; go_big_quiet_on) | (refine plan_skip_q nth8 rfl rfl ?_; simp only [Act.put, List.setIfInBounds_toArray, List.set_cons_zero, List.set_cons_succ])
                    first | (refine plan_quiet nth9 rfl ?_; intro KP hKP; go_big_quiet_op; go_big_quiet_on) | (refine plan_skip_q nth9 rfl rfl ?_; simp only [Act.put, List.setIfInBounds_toArray, List.set_cons_zero, List.set_cons_succ])
                    first | (refine plan_quiet nth10 rfl ?_; intro KP hKP; go_big_quiet_op; go_big_quiet_on) | (refine plan_skip_q nth10 rfl rfl ?_; simp only [Act.put, List.setIfInBounds_toArray, List.set_cons_zero, List.set_cons_succ])
                    first | (refine plan_quiet nth11 rfl ?_; intro KP hKP; go_big_quiet_op; go_big_quiet_on) | (refine plan_skip_q nth11 rfl rfl ?_; simp only [Act.put, List.setIfInBounds_toArray, List.set_cons_zero, List.set_cons_succ])
                    first | (refine plan_quiet nth12 rfl ?_; intro KP hKP; go_big_quiet_op; go_big_quiet_on) | (refine plan_skip_q nth12 rfl rfl ?_; simp only [Act.put, List.setIfInBounds_toArray, List.set_cons_zero, List.set_cons_succ])
                    first | (refine plan_quiet nth13 rfl ?_; intro KP hKP; go_big_quiet_op; go_big_quiet_on) | (refine plan_skip_q nth13 rfl rfl ?_; simp only [Act.put, List.setIfInBounds_toArray, List.set_cons_zero, List.set_cons_succ])
                    first | (refine plan_quiet nth14 rfl ?_; intro KP hKP; go_big_quiet_op; go_big_quiet_on) | (refine plan_skip_q nth14 rfl rfl ?_; simp only [Act.put, List.setIfInBounds_toArray, List.set_cons_zero, List.set_cons_succ])
                    first | (refine plan_quiet nth15 rfl ?_; intro KP hKP; go_big_quiet_op; go_big_quiet_on) | (refine plan_skip_q nth15 rfl rfl ?_; simp only [Act.put, List.setIfInBounds_toArray, List.set_cons_zero, List.set_cons_succ])
                    first | (refine plan_loud nth16 rfl ?_; intro KP hKP; go_wp2_with (first | (go_at_call 112; first | ((with_reducible refine (Calls.later (hC1.out _ _ (by omega) (hr.out.bel bb))).mono ?_); rintro e w' ⟨rfl, xl, rfl⟩; have hsz := xl.bel.size; (try simp only [World.size_alloc, World.size_setCell, World.size_drew] at hsz); (try have hz0 : w.heap.size < xl.w.heap.size := (by omega)); (try have hz1 : w.heap.size + 1 < xl.w.heap.size := (by omega)); (try have hz2 : w.heap.size + 1 + 1 < xl.w.heap.size := (by omega))) | ((with_reducible refine (hC1.out _ _ (by omega) (hr.out.bel bb)).mono ?_); rintro e w' ⟨rfl, xl, rfl⟩; have hsz := xl.bel.size; (try simp only [World.size_alloc, World.size_setCell, World.size_drew] at hsz); (try have hz0 : w.heap.size < xl.w.heap.size := (by omega)); (try have hz1 : w.heap.size + 1 < xl.w.heap.size := (by omega)); (try have hz2 : w.heap.size + 1 + 1 < xl.w.heap.size := (by omega)))) | (go_at_call 160; first | ((with_reducible refine (Calls.later (hX.out _)).mono ?_); rintro e w' ⟨rfl, xl, rfl⟩; have hsz := xl.bel.size; (try simp only [World.size_alloc, World.size_setCell, World.size_drew] at hsz); (try have hz0 : w.heap.size < xl.w.heap.size := (by omega)); (try have hz1 : w.heap.size + 1 < xl.w.heap.size := (by omega)); (try have hz2 : w.heap.size + 1 + 1 < xl.w.heap.size := (by omega))) | ((with_reducible refine (hX.out _).mono ?_); rintro e w' ⟨rfl, xl, rfl⟩; have hsz := xl.bel.size; (try simp only [World.size_alloc, World.size_setCell, World.size_drew] at hsz); (try have hz0 : w.heap.size < xl.w.heap.size := (by omega)); (try have hz1 : w.heap.size + 1 < xl.w.heap.size := (by omega)); (try have hz2 : w.heap.size + 1 + 1 < xl.w.heap.size := (by omega))))); refine hKP _ _ (LaterC.mk bb) ?_; clear hKP KP) | (refine plan_skip nth16 rfl rfl (LaterC.mk bb) ?_; simp only [Act.put, List.setIfInBounds_toArray, List.set_cons_zero, List.set_cons_succ])
                    first | (refine plan_loud nth17 rfl ?_; intro KP hKP; go_wp2_with (first | (go_at_call 112; first | ((with_reducible refine (Calls.later (hC1.out _ _ (by omega) (hr.out.bel bb))).mono ?_); rintro e w' ⟨rfl, xl, rfl⟩; have hsz := xl.bel.size; (try simp only [World.size_alloc, World.size_setCell, World.size_drew] at hsz); (try have hz0 : w.heap.size < xl.w.heap.size := (by omega)); (try have hz1 : w.heap.size + 1 < xl.w.heap.size := (by omega)); (try have hz2 : w.heap.size + 1 + 1 < xl.w.heap.size := (by omega))) | ((with_reducible refine (hC1.out _ _ (by omega) (hr.out.bel bb)).mono ?_); rintro e w' ⟨rfl, xl, rfl⟩; have hsz := xl.bel.size; (try simp only [World.size_alloc, World.size_setCell, World.size_drew] at hsz); (try have hz0 : w.heap.size < xl.w.heap.size := (by omega)); (try have hz1 : w.heap.size + 1 < xl.w.heap.size := (by omega)); (try have hz2 : w.heap.size + 1 + 1 < xl.w.heap.size := (by omega)))) | (go_at_call 160; first | ((with_reducible refine (Calls.later (hX.out _)).mono ?_); rintro e w' ⟨rfl, xl, rfl⟩; have hsz := xl.bel.size; (try simp only [World.size_alloc, World.size_setCell, World.size_drew] at hsz); (try have hz0 : w.heap.size < xl.w.heap.size := (by omega)); (try have hz1 : w.heap.size + 1 < xl.w.heap.size := (by omega)); (try have hz2 : w.heap.size + 1 + 1 < xl.w.heap.size := (by omega))) | ((with_reducible refine (hX.out _).mono ?_); rintro e w' ⟨rfl, xl, rfl⟩; have hsz := xl.bel.size; (try simp only [World.size_alloc, World.size_setCell, World.size_drew] at hsz); (try have hz0 : w.heap.size < xl.w.heap.size := (by omega)); (try have hz1 : w.heap.size + 1 < xl.w.heap.size := (by omega)); (try have hz2 : w.heap.size + 1 + 1 < xl.w.heap.size := (by omega))))); refine hKP _ _ (LaterC.mk bb) ?_; clear hKP KP) | (refine plan_skip nth17 rfl rfl (LaterC.mk bb) ?_; simp only [Act.put, List.setIfInBounds_toArray, List.set_cons_zero, List.set_cons_succ])
                    refine plan_nil ?_
                    go_wp2_with fail
                    go_roundw
                    case rel =>
                      refine ⟨k + 1, by omega, by go_num, by omega, X.out, LaterC.mk ?_⟩
                      (exact bb)
                    case measure => first | (simp [intOf]; done) | (simp [intOf]; omega) | omega
                · have X := Lib.hid (ringB_no (L := L) fun hR => by
                    rcases far_of_apart (hR.cross i k (by omega) hlk) hik with h | h
                    · exact hA h
                    · rw [hB] at h; cases h)
                  simp only [hB] at hX
                  replace hX := Lib.hid hX
                  clear hB hA
                  rcases hcase with e2 | ⟨e2, e3⟩
                  all_goals
                    go_wp2_with fail
                    refine wp_region_plan [(0, true), (1, true), (2, true), (3, true), (4, true), (5, true), (6, true), (7, true), (8, true), (9, true), (10, true), (11, true), (12, true), (13, true), (14, true), (15, true), (16, false), (17, false)] (C := LaterC _) (by kernel_rfl) (by kernel_rfl) (by kernel_rfl) rfl (fun _ _ d _ _ h => by cases d <;> exact h) (LaterC.mk ((Below.refl _ _).drew)) ?_
                    first | (refine plan_quiet nth0 rfl ?_; intro KP hKP; go_big_quiet_op; go_big_quiet_on) | (refine plan_skip_q nth0 rfl rfl ?_; simp only [Act.put, List.setIfInBounds_toArray, List.set_cons_zero, List.set_cons_succ])
                    first | (refine plan_quiet nth1 rfl ?_; intro KP hKP; go_big_quiet_op; go_big_quiet_on) | (refine plan_skip_q nth1 rfl rfl ?_; simp only [Act.put, List.setIfInBounds_toArray, List.set_cons_zero, List.set_cons_succ])
                    first | (refine plan_quiet nth2 rfl ?_; intro KP hKP; go_big_quiet_op; go_big_quiet_on) | (refine plan_skip_q nth2 rfl rfl ?_; simp only [Act.put, List.setIfInBounds_toArray, List.set_cons_zero, List.set_cons_succ])
                    first | (refine plan_quiet nth3 rfl ?_; intro KP hKP; go_big_quiet_op; go_big_quiet_on) | (refine plan_skip_q nth3 rfl rfl ?_; simp only [Act.put, List.setIfInBounds_toArray, List.set_cons_zero, List.set_cons_succ])
                    first | (refine plan_quiet nth4 rfl ?_; intro KP hKP; go_big_quiet_op; go_big_quiet_on) | (refine plan_skip_q nth4 rfl rfl ?_; simp only [Act.put, List.setIfInBounds_toArray, List.set_cons_zero, List.set_cons_succ])
                    first | (refine plan_quiet nth5 rfl ?_; intro KP hKP; go_big_quiet_op; go_big_quiet_on) | (refine plan_skip_q nth5 rfl rfl ?_; simp only [Act.put, List.setIfInBounds_toArray, List.set_cons_zero, List.set_cons_succ])
                    first | (refine plan_quiet nth6 rfl ?_; intro KP hKP; go_big_quiet_op; go_big_quiet_on) | (refine plan_skip_q nth6 rfl rfl ?_; simp only [Act.put, List.setIfInBounds_toArray, List.set_cons_zero, List.set_cons_succ])
                    first | (refine plan_quiet nth7 rfl ?_; intro KP hKP; go_big_quiet_op; go_big_quiet_on) | (refine plan_skip_q nth7 rfl rfl ?_; simp only [Act.put, List.setIfInBounds_toArray, List.set_cons_zero, List.set_cons_succ])
                    first | (refine plan_quiet nth8 rfl ?_; intro KP hKP; go_big_quiet_op; go_big_quiet_on) | (refine plan_skip_q nth8 rfl rfl ?_; simp only [Act.put, List.setIfInBounds_toArray, List.set_cons_zero, List.set_cons_succ])
                    first | (refine plan_quiet nth9 rfl ?_; intro KP hKP; go_big_quiet_op; go_big_quiet_on) | (refine plan_skip_q nth9 rfl rfl ?_; simp only [Act.put, List.setIfInBounds_toArray, List.set_cons_zero, List.set_cons_succ])
                    first | (refine plan_quiet nth10 rfl ?_; intro KP hKP; go_big_quiet_op; go_big_quiet_on) | (refine plan_skip_q nth10 rfl rfl ?_; simp only [Act.put, List.setIfInBounds_toArray, List.set_cons_zero, List.set_cons_succ])
                    first | (refine plan_quiet nth11 rfl ?_; intro KP hKP; go_big_quiet_op; go_big_quiet_on) | (refine plan_skip_q nth11 rfl rfl ?_; simp only [Act.put, List.setIfInBounds_toArray, List.set_cons_zero, List.set_cons_succ])
                    first | (refine plan_quiet nth12 rfl ?_; intro KP hKP; go_big_quiet_op; go_big_quiet_on) | (refine plan_skip_q nth12 rfl rfl ?_; simp only [Act.put, List.setIfInBounds_toArray, List.set_cons_zero, List.set_cons_succ])
                    first | (refine plan_quiet nth13 rfl ?_; intro KP hKP; go_big_quiet_op; go_big_quiet_on) | (refine plan_skip_q nth13 rfl rfl ?_; simp only [Act.put, List.setIfInBounds_toArray, List.set_cons_zero, List.set_cons_succ])
                    first | (refine plan_quiet nth14 rfl ?_; intro KP hKP; go_big_quiet_op; go_big_quiet_on) | (refine plan_skip_q nth14 rfl rfl ?_; simp only [Act.put, List.setIfInBounds_toArray, List.set_cons_zero, List.set_cons_succ])
                    first | (refine plan_quiet nth15 rfl ?_; intro KP hKP; go_big_quiet_op; go_big_quiet_on) | (refine plan_skip_q nth15 rfl rfl ?_; simp only [Act.put, List.setIfInBounds_toArray, List.set_cons_zero, List.set_cons_succ])
                    first | (refine plan_loud nth16 rfl ?_; intro KP hKP; go_wp2_with (first | (go_at_call 112; first | ((with_reducible refine (Calls.later (hC1.out _ _ (by omega) (hr.out.bel bb))).mono ?_); rintro e w' ⟨rfl, xl, rfl⟩; have hsz := xl.bel.size; (try simp only [World.size_alloc, World.size_setCell, World.size_drew] at hsz); (try have hz0 : w.heap.size < xl.w.heap.size := (by omega)); (try have hz1 : w.heap.size + 1 < xl.w.heap.size := (by omega)); (try have hz2 : w.heap.size + 1 + 1 < xl.w.heap.size := (by omega))) | ((with_reducible refine (hC1.out _ _ (by omega) (hr.out.bel bb)).mono ?_); rintro e w' ⟨rfl, xl, rfl⟩; have hsz := xl.bel.size; (try simp only [World.size_alloc, World.size_setCell, World.size_drew] at hsz); (try have hz0 : w.heap.size < xl.w.heap.size := (by omega)); (try have hz1 : w.heap.size + 1 < xl.w.heap.size := (by omega)); (try have hz2 : w.heap.size + 1 + 1 < xl.w.heap.size := (by omega)))) | (go_at_call 160; first | ((with_reducible refine (Calls.later (hX.out _)).mono ?_); rintro e w' ⟨rfl, xl, rfl⟩; have hsz := xl.bel.size; (try simp only [World.size_alloc, World.size_setCell, World.size_drew] at hsz); (try have hz0 : w.heap.size < xl.w.heap.size := (by omega)); (try have hz1 : w.heap.size + 1 < xl.w.heap.size := (by omega)); (try have hz2 : w.heap.size + 1 + 1 < xl.w.heap.size := (by omega))) | ((with_reducible refine (hX.out _).mono ?_); rintro e w' ⟨rfl, xl, rfl⟩; have hsz := xl.bel.size; (try simp only [World.size_alloc, World.size_setCell, World.size_drew] at hsz); (try have hz0 : w.heap.size < xl.w.heap.size := (by omega)); (try have hz1 : w.heap.size + 1 < xl.w.heap.size := (by omega)); (try have hz2 : w.heap.size + 1 + 1 < xl.w.heap.size := (by omega))))); refine hKP _ _ (LaterC.mk bb) ?_; clear hKP KP) | (refine plan_skip nth16 rfl rfl (LaterC.mk bb) ?_; simp only [Act.put, List.setIfInBounds_toArray, List.set_cons_zero, List.set_cons_succ])
                    first | (refine plan_loud nth17 rfl ?_; intro KP hKP; go_wp2_with (first | (go_at_call 112; first | ((with_reducible refine (Calls.later (hC1.out _ _ (by omega) (hr.out.bel bb))).mono ?_); rintro e w' ⟨rfl, xl, rfl⟩; have hsz := xl.bel.size; (try simp only [World.size_alloc, World.size_setCell, World.size_drew] at hsz); (try have hz0 : w.heap.size < xl.w.heap.size := (by omega)); (try have hz1 : w.heap.size + 1 < xl.w.heap.size := (by omega)); (try have hz2 : w.heap.size + 1 + 1 < xl.w.heap.size := (by omega))) | ((with_reducible refine (hC1.out _ _ (by omega) (hr.out.bel bb)).mono ?_); rintro e w' ⟨rfl, xl, rfl⟩; have hsz := xl.bel.size; (try simp only [World.size_alloc, World.size_setCell, World.size_drew] at hsz); (try have hz0 : w.heap.size < xl.w.heap.size := (by omega)); (try have hz1 : w.heap.size + 1 < xl.w.heap.size := (by omega)); (try have hz2 : w.heap.size + 1 + 1 < xl.w.heap.size := (by omega)))) | (go_at_call 160; first | ((with_reducible refine (Calls.later (hX.out _)).mono ?_); rintro e w' ⟨rfl, xl, rfl⟩; have hsz := xl.bel.size; (try simp only [World.size_alloc, World.size_setCell, World.size_drew] at hsz); (try have hz0 : w.heap.size < xl.w.heap.size := (by omega)); (try have hz1 : w.heap.size + 1 < xl.w.heap.size := (by omega)); (try have hz2 : w.heap.size + 1 + 1 < xl.w.heap.size := (by omega))) | ((with_reducible refine (hX.out _).mono ?_); rintro e w' ⟨rfl, xl, rfl⟩; have hsz := xl.bel.size; (try simp only [World.size_alloc, World.size_setCell, World.size_drew] at hsz); (try have hz0 : w.heap.size < xl.w.heap.size := (by omega)); (try have hz1 : w.heap.size + 1 < xl.w.heap.size := (by omega)); (try have hz2 : w.heap.size + 1 + 1 < xl.w.heap.size := (by omega))))); refine hKP _ _ (LaterC.mk bb) ?_; clear hKP KP) | (refine plan_skip nth17 rfl rfl (LaterC.mk bb) ?_; simp only [Act.put, List.setIfInBounds_toArray, List.set_cons_zero, List.set_cons_succ])
                    refine plan_nil ?_
                    go_wp2_with fail
                    go_ret
                    exact .mk (by rw [X.out]; rfl) bb
            · have X := Lib.hid (show RingB L (i + 1) from fun i' h k h1 h2 => by
                by_cases h3 : i' = i
                · subst h3; exact hin.out k h1 (by omega) h2
                · exact hbll.out i' (by omega) k h1 h2)
              go_wp2_with fail
              go_roundw
              case rel => exact ⟨i + 1, by omega, by go_num, X.out, z2, rfl⟩
              case measure => first | (simp [intOf]; done) | (simp [intOf]; omega) | omega
        · obtain rfl : i = L.length := by omega
          have X := Lib.hid (ringB_yes H12.out.1 H12.out.2 (ringP_of hall.out hbll.out))
          go_wp2_with fail
          go_ret
          exact .mk (by rw [X.out]; rfl) bb
end Go.Proofs.YtklcaphkfdlipaaGreatDoor

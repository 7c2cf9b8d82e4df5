import Derived.Test.YtflcfdiochohgaaGreatDoorPackAb
import Derived.Test.YtflcfdiochohgaaGreatDoorPackC
/- PairsOf, both sides. -/
set_option linter.unusedSimpArgs false
set_option linter.unusedVariables false
namespace Go.Proofs.YtflcfdiochohgaaGreatDoor
open Go.RowKit
theorem ClmAt.btw {w w' : World} {b o lo hi : Nat} {c : Clm} (h : ClmAt w b o c) (hb : Between lo hi w w') (ho : b < lo ∨ hi ≤ b) : ClmAt w' b o c := by
  have key : ∀ {o : Nat} {v : Value}, w.cell? ⟨b, o, none⟩ = some v → w'.cell? ⟨b, o, none⟩ = some v := fun hp => (hb.cell (World.block_lt_of_cell? w _ hp) ho).trans hp
  exact ⟨key h.c0, key h.c1, key h.c2, key h.c3, key h.c4, key h.c5, key h.c6⟩
/-- Whether the claims at two indices contradict each other. -/
def pairB (L : List Clm) (i j : Nat) : Bool := match L[i]?, L[j]? with | some c, some d => contraB c d | _, _ => false
theorem pairB_at {L : List Clm} {i j : Nat} (hi : i < L.length) (hj : j < L.length) : pairB L i j = contraB L[i] L[j] := by simp [pairB, hi, hj]
/-- The pairs of `i` and a later index below `k`. -/
def pairsIn (L : List Clm) (i k : Nat) : List (List Int) := ((List.range k).filter fun j => decide (i < j) && pairB L i j).map fun (j : Nat) => [(i : Int), (j : Int)]
def pairsTo (L : List Clm) (i : Nat) : List (List Int) := (List.range i).flatMap fun j => pairsIn L j L.length
def pairs (L : List Clm) : List (List Int) := pairsTo L L.length
theorem pairsTo_zero (L : List Clm) : pairsTo L 0 = [] := rfl
theorem pairsTo_succ (L : List Clm) (i : Nat) : pairsTo L (i + 1) = pairsTo L i ++ pairsIn L i L.length := by simp [pairsTo, List.range_succ]
theorem pairsIn_start (L : List Clm) (i : Nat) : pairsIn L i (i + 1) = [] := by
  unfold pairsIn
  rw [List.filter_eq_nil_iff.2 fun j hj => by have := List.mem_range.1 hj; have h : ¬ i < j := by omega
                                              simp [h]]
  rfl
theorem pairsIn_yes {L : List Clm} {i k : Nat} (h : i < k) (hp : pairB L i k = true) : pairsIn L i (k + 1) = pairsIn L i k ++ [[(i : Int), (k : Int)]] := by
  simp [pairsIn, List.range_succ, h, hp]
theorem pairsIn_no {L : List Clm} {i k : Nat} (hp : pairB L i k = false) : pairsIn L i (k + 1) = pairsIn L i k := by
  simp [pairsIn, List.range_succ, hp]
theorem pairsIn_le (L : List Clm) (i k : Nat) : (pairsIn L i k).length ≤ k := by
  unfold pairsIn
  rw [List.length_map]
  have := List.length_filter_le (fun j => decide (i < j) && pairB L i j) (List.range k)
  simpa using this
theorem pairsTo_le (L : List Clm) : ∀ i, (pairsTo L i).length ≤ i * L.length
  | 0 => by simp [pairsTo_zero]
  | i + 1 => by
    rw [pairsTo_succ, List.length_append, Nat.succ_mul]
    have := pairsTo_le L i
    have := pairsIn_le L i L.length
    omega
theorem pairs_len2 (L : List Clm) : ∀ l ∈ pairs L, l.length = 2 := by
  intro l hl
  unfold pairs pairsTo at hl
  rw [List.mem_flatMap] at hl
  obtain ⟨i, _, hl⟩ := hl
  unfold pairsIn at hl
  rw [List.mem_map] at hl
  obtain ⟨j, _, rfl⟩ := hl
  rfl
noncomputable def pairsK (L : List Clm) : Int := if claimsB L then 0 else 1
noncomputable def pairsR (L : List Clm) : List (List Int) := if claimsB L then pairs L else []
theorem pairsR_len (L : List Clm) {n : Nat} (hn : L.length = n) (hm : n ≤ 1048576) : (pairsR L).length ≤ 1048576 := by
  unfold pairsR
  split
  · rename_i h
    have h1 : L.length ≤ 12 := by unfold claimsB at h; rw [Bool.and_eq_true] at h; exact of_decide_eq_true h.1
    have h2 := pairsTo_le L L.length
    have h3 : L.length * L.length ≤ 12 * 12 := Nat.mul_le_mul h1 h1
    unfold pairs
    omega
  · simp
theorem pairsR_el (L : List Clm) : ∀ l ∈ pairsR L, l.length ≤ 1000 := by
  intro l hl
  unfold pairsR at hl
  split at hl
  · have := pairs_len2 L l hl; omega
  · simp at hl
section
variable (L : List Clm) (a : Option Addr) (n c : Nat) (w : World) (hn : L.length = n) (hm : n ≤ 1048576) (hr : Row w a (clmsCells L)) (ok : ∀ c ∈ L, ClmOk c)
include hn hm hr ok
set_option maxRecDepth 4000 in
set_option maxHeartbeats 4000000 in
theorem pairs_impl (hx : Max w) : Calls Tryz.prog 23 #[.slice a n c] w (RetNest w (pairsR L) fun v => .tuple #[v, .int .i64 (pairsK L)]) := by
  cases h1 : claimsB L
  · rw [show pairsR L = [] by simp [pairsR, h1], show pairsK L = 1 by simp [pairsK, h1]]
    have C1 := Lib.hid (areClaims_b (c := c) hn hm hr ok hx h1)
    clear ok h1 hn hr hx
    go_enter Tryz.func23, Tryz.ntmps23
    go_wp2_with fail
    with_reducible refine (C1.out).mono ?_
    rintro e w' ⟨rfl, y1, rfl⟩
    have hsy1 := y1.bel.size
    (try simp only [World.size_alloc, World.size_setCell, World.size_drew] at hsy1)
    go_wp2_with fail
    refine bodyPost_ret (by simp [results, Tryz.results23, go_sem, ↓IntWalk.iteOmega, *]; try rfl) rfl ?_
    refine RetNest.mk' rfl (Nest.nil _ _ _) ?_
    (repeat (first | (with_reducible exact Below.refl _ _) | (with_reducible assumption) | (with_reducible refine Later.out _ ?_) | (with_reducible refine bel_alloc ?_ _) | (with_reducible refine bel_drew ?_) | (with_reducible refine bel_drewN ?_ _) | (with_reducible refine bel_set ?_ ?_ _) | (with_reducible refine After.out _ ?_ ?_) | (dsimp only; omega) | omega | (simp only [World.size_alloc, World.size_setCell, World.size_drew]; omega)))
  have h12 : L.length ≤ 12 := by have h := h1; unfold claimsB at h; rw [Bool.and_eq_true] at h; exact of_decide_eq_true h.1
  rw [show pairsR L = pairs L by simp [pairsR, h1], show pairsK L = 0 by simp [pairsK, h1]]
  have C1 := Lib.hid (areClaims_b (c := c) hn hm hr ok hx h1)
  obtain ⟨ii, j1, j2, j3, j4⟩ := info_ints'
  have Jii := Lib.hid (And.intro j1 (And.intro j2 (And.intro j3 j4)))
  clear j1 j2 j3 j4
  subst hn
  have hTl := Lib.hid (fun i => pairsTo_le L i)
  replace hr := Lib.hid hr
  clear ok h1 hx
  go_enter Tryz.func23, Tryz.ntmps23
  go_wp2_with fail
  with_reducible refine (C1.out).mono ?_
  rintro e w' ⟨rfl, y1, rfl⟩
  have hsy1 := y1.bel.size
  (try simp only [World.size_alloc, World.size_setCell, World.size_drew] at hsy1)
  go_wp2_with fail
  go_loopw [4, 13] (fun t4 i wr => ∃ (k : Nat) (a4 : Option Addr) (c4 : Nat) (vs : List Value), k ≤ L.length ∧ i = .int .i64 k ∧ t4 = .slice a4 (pairsTo L k).length c4 ∧ Nest wr w.heap.size wr.heap.size a4 (pairsTo L k).length c4 (pairsTo L k) vs ∧ ∃ z : Later w, wr = z.w) (fun _ i _ => L.length - (intOf i).toNat)
  case atStart => exact ⟨0, none, 0, [], Nat.zero_le _, rfl, rfl, Nest.nil _ _ _, LaterC.mk (by (repeat (first | (with_reducible exact Below.refl _ _) | (with_reducible assumption) | (with_reducible refine Later.out _ ?_) | (with_reducible refine bel_alloc ?_ _) | (with_reducible refine bel_drew ?_) | (with_reducible refine bel_drewN ?_ _) | (with_reducible refine bel_set ?_ ?_ _) | (with_reducible refine After.out _ ?_ ?_) | (dsimp only; omega) | omega | (simp only [World.size_alloc, World.size_setCell, World.size_drew]; omega))))⟩
  case round =>
    obtain ⟨k, a4, c4, vs, hk, rfl, rfl, hnest, z, rfl⟩ := hrel
    replace hnest := Lib.hid hnest
    have hzz := z.bel.size
    by_cases hlt : k < L.length
    · obtain ⟨b, o, rfl, hb, q0, q1, q2, q3, q4, q5, q6⟩ := hr.out.clm hlt
      have hi1 : (k : Int) < (L.length : Int) := by omega
      go_wp2_with fail
      go_loopw [4, 7] (fun t4 i wr => ∃ (m : Nat) (a5 : Option Addr) (c5 : Nat) (vs : List Value), k < m ∧ m ≤ L.length ∧ i = .int .i64 m ∧ t4 = .slice a5 (pairsTo L k ++ pairsIn L k m).length c5 ∧ Nest wr w.heap.size wr.heap.size a5 (pairsTo L k ++ pairsIn L k m).length c5 (pairsTo L k ++ pairsIn L k m) vs ∧ ClmAt wr z.w.heap.size 0 L[k] ∧ Elem wr z.w.heap.size 27 ∧ ∃ z2 : Later w, wr = z2.w) (fun _ i _ => L.length - (intOf i).toNat)
      case atStart => exact ⟨k + 1, a4, c4, vs, by omega, by omega, by go_num, by rw [pairsIn_start, List.append_nil], by rw [pairsIn_start, List.append_nil]; exact (hnest.out.bel (B := z.w.heap.size) (by (repeat (first | (with_reducible exact Below.refl _ _) | (with_reducible assumption) | (with_reducible refine Later.out _ ?_) | (with_reducible refine bel_alloc ?_ _) | (with_reducible refine bel_drew ?_) | (with_reducible refine bel_drewN ?_ _) | (with_reducible refine bel_set ?_ ?_ _) | (with_reducible refine After.out _ ?_ ?_) | (dsimp only; omega) | omega | (simp only [World.size_alloc, World.size_setCell, World.size_drew]; omega)))) (Nat.le_refl _)).mono (Nat.le_refl _) (by ((try simp only [World.size_alloc, World.size_setCell, World.size_drew]); omega)), by refine ⟨?_, ?_, ?_, ?_, ?_, ?_, ?_⟩ <;> simp [go_sem, ↓IntWalk.iteOmega, *], Elem.new _ _ _, LaterC.mk (by (repeat (first | (with_reducible exact Below.refl _ _) | (with_reducible assumption) | (with_reducible refine Later.out _ ?_) | (with_reducible refine bel_alloc ?_ _) | (with_reducible refine bel_drew ?_) | (with_reducible refine bel_drewN ?_ _) | (with_reducible refine bel_set ?_ ?_ _) | (with_reducible refine After.out _ ?_ ?_) | (dsimp only; omega) | omega | (simp only [World.size_alloc, World.size_setCell, World.size_drew]; omega))))⟩
      case round =>
        obtain ⟨m, a5, c5, vs5, hkm, hmm, rfl, rfl, hnest5, hat, hel, z2, rfl⟩ := hrel
        have hzl := hel.lt
        replace hel := Lib.hid hel
        have hz2 := z2.bel.size
        clear hnest
        obtain ⟨N, hN⟩ : ∃ N, pairsTo L k ++ pairsIn L k m = N := ⟨_, rfl⟩
        rw [hN] at hnest5
        have HAT := Lib.hid hat
        obtain ⟨p0, p1, p2, p3, p4, p5, p6⟩ := hat
        simp only [Nat.zero_add] at p1 p2 p3 p4 p5 p6
        by_cases hlt2 : m < L.length
        · obtain ⟨b', o', he, hb', s0, s1, s2, s3, s4, s5, s6⟩ := hr.out.clm hlt2
          cases he
          have hi2 : (m : Int) < (L.length : Int) := by omega
          cases hv : contraB L[k] L[m]
          · have X := Lib.hid (show pairsTo L k ++ pairsIn L k (m + 1) = N by rw [pairsIn_no (i := k) (by rw [pairB_at hlt hlt2]; exact hv)]; exact hN)
            rw [hN]
            replace hnest5 := Lib.hid hnest5
            clear hN
            replace hv := Lib.hid hv
            go_wp2_with fail
            refine wp_region_plan [(0, true), (1, true), (2, true), (3, true), (4, true), (5, false)] (C := LaterC _) (by kernel_rfl) (by kernel_rfl) (by kernel_rfl) rfl (fun _ _ d _ _ h => by cases d <;> exact h) (LaterC.mk ((Below.refl _ _).drew)) ?_
            first | (refine plan_quiet nth0 rfl ?_; intro KP hKP; go_big_quiet_op; go_big_quiet_on) | (refine plan_skip_q nth0 rfl rfl ?_; simp only [Act.put, List.setIfInBounds_toArray, List.set_cons_zero, List.set_cons_succ])
            first | (refine plan_quiet nth1 rfl ?_; intro KP hKP; go_big_quiet_op; go_big_quiet_on) | (refine plan_skip_q nth1 rfl rfl ?_; simp only [Act.put, List.setIfInBounds_toArray, List.set_cons_zero, List.set_cons_succ])
            first | (refine plan_quiet nth2 rfl ?_; intro KP hKP; go_big_quiet_op; go_big_quiet_on) | (refine plan_skip_q nth2 rfl rfl ?_; simp only [Act.put, List.setIfInBounds_toArray, List.set_cons_zero, List.set_cons_succ])
            first | (refine plan_quiet nth3 rfl ?_; intro KP hKP; go_big_quiet_op; go_big_quiet_on) | (refine plan_skip_q nth3 rfl rfl ?_; simp only [Act.put, List.setIfInBounds_toArray, List.set_cons_zero, List.set_cons_succ])
            first | (refine plan_quiet nth4 rfl ?_; intro KP hKP; go_big_quiet_op; go_big_quiet_on) | (refine plan_skip_q nth4 rfl rfl ?_; simp only [Act.put, List.setIfInBounds_toArray, List.set_cons_zero, List.set_cons_succ])
            first | (refine plan_loud nth5 rfl ?_; intro KP hKP; go_wp2_with (first | (go_at_call 83; first | ((with_reducible refine (Calls.later (contradicts_b hv.out)).mono ?_); rintro e w' ⟨rfl, xl, rfl⟩; have hsz := xl.bel.size; (try simp only [World.size_alloc, World.size_setCell, World.size_drew] at hsz); (try have hz0 : w.heap.size < xl.w.heap.size := (by omega)); (try have hz1 : w.heap.size + 1 < xl.w.heap.size := (by omega)); (try have hz2 : w.heap.size + 1 + 1 < xl.w.heap.size := (by omega))) | ((with_reducible refine (contradicts_b hv.out).mono ?_); rintro e w' ⟨rfl, xl, rfl⟩; have hsz := xl.bel.size; (try simp only [World.size_alloc, World.size_setCell, World.size_drew] at hsz); (try have hz0 : w.heap.size < xl.w.heap.size := (by omega)); (try have hz1 : w.heap.size + 1 < xl.w.heap.size := (by omega)); (try have hz2 : w.heap.size + 1 + 1 < xl.w.heap.size := (by omega))))); refine hKP _ _ (LaterC.mk (by (repeat (first | (with_reducible exact Below.refl _ _) | (with_reducible assumption) | (with_reducible refine Later.out _ ?_) | (with_reducible refine bel_alloc ?_ _) | (with_reducible refine bel_drew ?_) | (with_reducible refine bel_drewN ?_ _) | (with_reducible refine bel_set ?_ ?_ _) | (with_reducible refine After.out _ ?_ ?_) | (dsimp only; omega) | omega | (simp only [World.size_alloc, World.size_setCell, World.size_drew]; omega))))) ?_; clear hKP KP) | (refine plan_skip nth5 rfl rfl (LaterC.mk (by (repeat (first | (with_reducible exact Below.refl _ _) | (with_reducible assumption) | (with_reducible refine Later.out _ ?_) | (with_reducible refine bel_alloc ?_ _) | (with_reducible refine bel_drew ?_) | (with_reducible refine bel_drewN ?_ _) | (with_reducible refine bel_set ?_ ?_ _) | (with_reducible refine After.out _ ?_ ?_) | (dsimp only; omega) | omega | (simp only [World.size_alloc, World.size_setCell, World.size_drew]; omega))))) ?_; simp only [Act.put, List.setIfInBounds_toArray, List.set_cons_zero, List.set_cons_succ])
            refine plan_nil ?_
            go_wp2_with fail
            go_roundw
            case rel => exact ⟨m + 1, a5, c5, vs5, by omega, by omega, by go_num, by rw [X.out], by rw [X.out]; exact (hnest5.out.bel (B := z2.w.heap.size) (by (repeat (first | (with_reducible exact Below.refl _ _) | (with_reducible assumption) | (with_reducible refine Later.out _ ?_) | (with_reducible refine bel_alloc ?_ _) | (with_reducible refine bel_drew ?_) | (with_reducible refine bel_drewN ?_ _) | (with_reducible refine bel_set ?_ ?_ _) | (with_reducible refine After.out _ ?_ ?_) | (dsimp only; omega) | omega | (simp only [World.size_alloc, World.size_setCell, World.size_drew]; omega)))) (Nat.le_refl _)).mono (Nat.le_refl _) (by ((try simp only [World.size_alloc, World.size_setCell, World.size_drew]); omega)), HAT.out.bel (by (repeat (first | (with_reducible exact Below.refl _ _) | (with_reducible assumption) | (with_reducible refine Later.out _ ?_) | (with_reducible refine bel_alloc ?_ _) | (with_reducible refine bel_drew ?_) | (with_reducible refine bel_drewN ?_ _) | (with_reducible refine bel_set ?_ ?_ _) | (with_reducible refine After.out _ ?_ ?_) | (dsimp only; omega) | omega | (simp only [World.size_alloc, World.size_setCell, World.size_drew]; omega)))), hel.out.bel (by (repeat (first | (with_reducible exact Below.refl _ _) | (with_reducible assumption) | (with_reducible refine Later.out _ ?_) | (with_reducible refine bel_alloc ?_ _) | (with_reducible refine bel_drew ?_) | (with_reducible refine bel_drewN ?_ _) | (with_reducible refine bel_set ?_ ?_ _) | (with_reducible refine After.out _ ?_ ?_) | (dsimp only; omega) | omega | (simp only [World.size_alloc, World.size_setCell, World.size_drew]; omega)))), LaterC.mk (by (repeat (first | (with_reducible exact Below.refl _ _) | (with_reducible assumption) | (with_reducible refine Later.out _ ?_) | (with_reducible refine bel_alloc ?_ _) | (with_reducible refine bel_drew ?_) | (with_reducible refine bel_drewN ?_ _) | (with_reducible refine bel_set ?_ ?_ _) | (with_reducible refine After.out _ ?_ ?_) | (dsimp only; omega) | omega | (simp only [World.size_alloc, World.size_setCell, World.size_drew]; omega))))⟩
            case measure => first | (simp [intOf]; done) | (simp [intOf]; omega) | omega
          · have X := Lib.hid (pairsIn_yes hkm (by rw [pairB_at hlt hlt2]; exact hv))
            have hT := hTl.out k
            have hT2 := pairsIn_le L k m
            have hT3 : k * L.length ≤ 12 * 12 := Nat.mul_le_mul (by omega) (by omega)
            have hNl : N.length ≤ 1000 := by rw [← hN, List.length_append]; omega
            obtain ⟨p, p', hp1, hp2, hp3, hpo, hpk, hpb⟩ := hnest5.own.tight (by omega)
            have hon := Lib.hid hpo
            have hpb' := Lib.hid (fun k h1 h2 => (hpb k h1 h2).1)
            have hne : z.w.heap.size < p ∨ p' ≤ z.w.heap.size := by
              by_cases h1 : p ≤ z.w.heap.size ∧ z.w.heap.size < p'
              · obtain ⟨_, h2⟩ := hpb _ h1.1 h1.2
                exact absurd (Elem.ne hel.out h2) (by decide)
              · omega
            have hX2 := Lib.hid (show pairsTo L k ++ pairsIn L k (m + 1) = N ++ [[(k : Int), (m : Int)]] by rw [X.out, ← hN, List.append_assoc])
            rw [hN]
            replace hnest5 := Lib.hid hnest5
            replace hv := Lib.hid hv
            clear hpo hpk hpb hT hT2 hT3 hN X
            go_wp2_with fail
            refine wp_region_plan [(0, true), (1, true), (2, true), (3, true), (4, true), (5, false)] (C := LaterC _) (by kernel_rfl) (by kernel_rfl) (by kernel_rfl) rfl (fun _ _ d _ _ h => by cases d <;> exact h) (LaterC.mk ((Below.refl _ _).drew)) ?_
            first | (refine plan_quiet nth0 rfl ?_; intro KP hKP; go_big_quiet_op; go_big_quiet_on) | (refine plan_skip_q nth0 rfl rfl ?_; simp only [Act.put, List.setIfInBounds_toArray, List.set_cons_zero, List.set_cons_succ])
            first | (refine plan_quiet nth1 rfl ?_; intro KP hKP; go_big_quiet_op; go_big_quiet_on) | (refine plan_skip_q nth1 rfl rfl ?_; simp only [Act.put, List.setIfInBounds_toArray, List.set_cons_zero, List.set_cons_succ])
            first | (refine plan_quiet nth2 rfl ?_; intro KP hKP; go_big_quiet_op; go_big_quiet_on) | (refine plan_skip_q nth2 rfl rfl ?_; simp only [Act.put, List.setIfInBounds_toArray, List.set_cons_zero, List.set_cons_succ])
            first | (refine plan_quiet nth3 rfl ?_; intro KP hKP; go_big_quiet_op; go_big_quiet_on) | (refine plan_skip_q nth3 rfl rfl ?_; simp only [Act.put, List.setIfInBounds_toArray, List.set_cons_zero, List.set_cons_succ])
            first | (refine plan_quiet nth4 rfl ?_; intro KP hKP; go_big_quiet_op; go_big_quiet_on) | (refine plan_skip_q nth4 rfl rfl ?_; simp only [Act.put, List.setIfInBounds_toArray, List.set_cons_zero, List.set_cons_succ])
            first | (refine plan_loud nth5 rfl ?_; intro KP hKP; go_wp2_with (first | (go_at_call 83; first | ((with_reducible refine (Calls.later (contradicts_b hv.out)).mono ?_); rintro e w' ⟨rfl, xl, rfl⟩; have hsz := xl.bel.size; (try simp only [World.size_alloc, World.size_setCell, World.size_drew] at hsz); (try have hz0 : w.heap.size < xl.w.heap.size := (by omega)); (try have hz1 : w.heap.size + 1 < xl.w.heap.size := (by omega)); (try have hz2 : w.heap.size + 1 + 1 < xl.w.heap.size := (by omega))) | ((with_reducible refine (contradicts_b hv.out).mono ?_); rintro e w' ⟨rfl, xl, rfl⟩; have hsz := xl.bel.size; (try simp only [World.size_alloc, World.size_setCell, World.size_drew] at hsz); (try have hz0 : w.heap.size < xl.w.heap.size := (by omega)); (try have hz1 : w.heap.size + 1 < xl.w.heap.size := (by omega)); (try have hz2 : w.heap.size + 1 + 1 < xl.w.heap.size := (by omega))))); refine hKP _ _ (LaterC.mk (by (repeat (first | (with_reducible exact Below.refl _ _) | (with_reducible assumption) | (with_reducible refine Later.out _ ?_) | (with_reducible refine bel_alloc ?_ _) | (with_reducible refine bel_drew ?_) | (with_reducible refine bel_drewN ?_ _) | (with_reducible refine bel_set ?_ ?_ _) | (with_reducible refine After.out _ ?_ ?_) | (dsimp only; omega) | omega | (simp only [World.size_alloc, World.size_setCell, World.size_drew]; omega))))) ?_; clear hKP KP) | (refine plan_skip nth5 rfl rfl (LaterC.mk (by (repeat (first | (with_reducible exact Below.refl _ _) | (with_reducible assumption) | (with_reducible refine Later.out _ ?_) | (with_reducible refine bel_alloc ?_ _) | (with_reducible refine bel_drew ?_) | (with_reducible refine bel_drewN ?_ _) | (with_reducible refine bel_set ?_ ?_ _) | (with_reducible refine After.out _ ?_ ?_) | (dsimp only; omega) | omega | (simp only [World.size_alloc, World.size_setCell, World.size_drew]; omega))))) ?_; simp only [Act.put, List.setIfInBounds_toArray, List.set_cons_zero, List.set_cons_succ])
            refine plan_nil ?_
            go_wp2_with (at_builtin; (refine wpList_append_after _ rfl _ _ _ rfl 35 ii _ 1 24 Tryz.underlying46 Jii.out.1 Jii.out.2.1 Jii.out.2.2.1 Jii.out.2.2.2 rfl (by decide) (p) (p') ?qb1 _ _ _ (vs5) rfl ?qb2 ?qb8 _ _ _ ([.slice (some ⟨xl.w.heap.size, 0, none⟩) 2 2]) rfl ?qb3 ?qb4 ?qb5 ?qb6 ?qb7 ?_); (case qb1 => (first | (dsimp only; omega) | omega | (simp only [World.size_alloc, World.size_setCell, World.size_drew]; omega))); (case qb2 => exact (hon.out.bel (B := z2.w.heap.size) (by (repeat (first | (with_reducible exact Below.refl _ _) | (with_reducible assumption) | (with_reducible refine Later.out _ ?_) | (with_reducible refine bel_alloc ?_ _) | (with_reducible refine bel_drew ?_) | (with_reducible refine bel_drewN ?_ _) | (with_reducible refine bel_set ?_ ?_ _) | (with_reducible refine After.out _ ?_ ?_) | (dsimp only; omega) | omega | (simp only [World.size_alloc, World.size_setCell, World.size_drew]; omega)))) hp3).own); (case qb8 => exact hon.out.lt); (case qb3 => (first | rfl | (simp [boolCells]; done) | (simp [intCells]; done) | (simp; done) | (first | omega | (simp only [List.length_append, List.length_cons, List.length_nil]; omega)))); (case qb4 => exact Row.madeAt (by simp only [World.size_alloc]) rfl); (case qb5 => (intro u hu; simp at hu; subst hu; rfl)); (case qb6 => (unfold maxLen; (first | omega | (simp only [List.length_append, List.length_cons, List.length_nil]; omega)))); (case qb7 => (first | omega | (simp only [List.length_append, List.length_cons, List.length_nil]; omega))); intro a9 c9 x9 hown9)
            have N2 := Nest.append hnest5.out (show Below z2.w.heap.size z2.w ((xl.w.alloc (.cells #[.int .i64 k, .int .i64 m] 2)).alloc (.cells #[.slice (some ⟨xl.w.heap.size, 0, none⟩) 2 2] 35)) by (repeat (first | (with_reducible exact Below.refl _ _) | (with_reducible assumption) | (with_reducible refine Later.out _ ?_) | (with_reducible refine bel_alloc ?_ _) | (with_reducible refine bel_drew ?_) | (with_reducible refine bel_drewN ?_ _) | (with_reducible refine bel_set ?_ ?_ _) | (with_reducible refine After.out _ ?_ ?_) | (dsimp only; omega) | omega | (simp only [World.size_alloc, World.size_setCell, World.size_drew]; omega))))
              (Nest.made xl.w z2.w.heap.size hsz [(k : Int), (m : Int)] 2 rfl (by unfold maxLen; omega) _ rfl) hp1 hz2 hp3 hpb'.out x9.btw hown9
            replace N2 := Lib.hid N2
            clear hown9
            go_roundw
            case rel => exact ⟨m + 1, a9, c9, _, by omega, by omega, by go_num, by rw [hX2.out]; simp, by rw [hX2.out, List.length_append]; exact N2.out, (HAT.out.bel (by (repeat (first | (with_reducible exact Below.refl _ _) | (with_reducible assumption) | (with_reducible refine Later.out _ ?_) | (with_reducible refine bel_alloc ?_ _) | (with_reducible refine bel_drew ?_) | (with_reducible refine bel_drewN ?_ _) | (with_reducible refine bel_set ?_ ?_ _) | (with_reducible refine After.out _ ?_ ?_) | (dsimp only; omega) | omega | (simp only [World.size_alloc, World.size_setCell, World.size_drew]; omega))))).btw x9.btw hne, (hel.out.bel (by (repeat (first | (with_reducible exact Below.refl _ _) | (with_reducible assumption) | (with_reducible refine Later.out _ ?_) | (with_reducible refine bel_alloc ?_ _) | (with_reducible refine bel_drew ?_) | (with_reducible refine bel_drewN ?_ _) | (with_reducible refine bel_set ?_ ?_ _) | (with_reducible refine After.out _ ?_ ?_) | (dsimp only; omega) | omega | (simp only [World.size_alloc, World.size_setCell, World.size_drew]; omega))))).btw x9.btw hne, LaterC.mk (x9.out (by (repeat (first | (with_reducible exact Below.refl _ _) | (with_reducible assumption) | (with_reducible refine Later.out _ ?_) | (with_reducible refine bel_alloc ?_ _) | (with_reducible refine bel_drew ?_) | (with_reducible refine bel_drewN ?_ _) | (with_reducible refine bel_set ?_ ?_ _) | (with_reducible refine After.out _ ?_ ?_) | (dsimp only; omega) | omega | (simp only [World.size_alloc, World.size_setCell, World.size_drew]; omega)))) hp1)⟩
            case measure => first | (simp [intOf]; done) | (simp [intOf]; omega) | omega
        · obtain rfl : m = L.length := by omega
          have X := Lib.hid (show pairsTo L (k + 1) = N by rw [pairsTo_succ]; exact hN)
          rw [hN]
          replace hnest5 := Lib.hid hnest5
          clear hN
          go_wp2_with fail
          go_roundw
          case rel => exact ⟨k + 1, a5, c5, vs5, by omega, by go_num, by rw [X.out], by rw [X.out]; exact (hnest5.out.bel (B := z2.w.heap.size) (by (repeat (first | (with_reducible exact Below.refl _ _) | (with_reducible assumption) | (with_reducible refine Later.out _ ?_) | (with_reducible refine bel_alloc ?_ _) | (with_reducible refine bel_drew ?_) | (with_reducible refine bel_drewN ?_ _) | (with_reducible refine bel_set ?_ ?_ _) | (with_reducible refine After.out _ ?_ ?_) | (dsimp only; omega) | omega | (simp only [World.size_alloc, World.size_setCell, World.size_drew]; omega)))) (Nat.le_refl _)).mono (Nat.le_refl _) (by ((try simp only [World.size_alloc, World.size_setCell, World.size_drew]); omega)), LaterC.mk (by (repeat (first | (with_reducible exact Below.refl _ _) | (with_reducible assumption) | (with_reducible refine Later.out _ ?_) | (with_reducible refine bel_alloc ?_ _) | (with_reducible refine bel_drew ?_) | (with_reducible refine bel_drewN ?_ _) | (with_reducible refine bel_set ?_ ?_ _) | (with_reducible refine After.out _ ?_ ?_) | (dsimp only; omega) | omega | (simp only [World.size_alloc, World.size_setCell, World.size_drew]; omega))))⟩
          case measure => first | (simp [intOf]; done) | (simp [intOf]; omega) | omega
    · obtain rfl : k = L.length := by omega
      go_wp2_with fail
      refine bodyPost_ret (by simp [results, Tryz.results23, go_sem, ↓IntWalk.iteOmega, *]; try rfl) rfl ?_
      exact RetNest.mk' rfl hnest.out (by (repeat (first | (with_reducible exact Below.refl _ _) | (with_reducible assumption) | (with_reducible refine Later.out _ ?_) | (with_reducible refine bel_alloc ?_ _) | (with_reducible refine bel_drew ?_) | (with_reducible refine bel_drewN ?_ _) | (with_reducible refine bel_set ?_ ?_ _) | (with_reducible refine After.out _ ?_ ?_) | (dsimp only; omega) | omega | (simp only [World.size_alloc, World.size_setCell, World.size_drew]; omega))))
set_option maxRecDepth 4000 in
set_option maxHeartbeats 4000000 in
theorem pairs_spec : Calls Tryz.prog 24 #[.slice a n c] w (RetNest w (pairsR L) fun v => .tuple #[v, .int .i64 (pairsK L)]) := by
  cases h1 : claimsB L
  · rw [show pairsR L = [] by simp [pairsR, h1], show pairsK L = 1 by simp [pairsK, h1]]
    have C1 := Lib.hid (sAreClaims_b (c := c) hn hm hr ok h1)
    clear ok h1 hn hr
    go_enter Tryz.func24, Tryz.ntmps24
    go_wp2_with fail
    with_reducible refine (C1.out).mono ?_
    rintro e w' ⟨rfl, y1, rfl⟩
    have hsy1 := y1.bel.size
    (try simp only [World.size_alloc, World.size_setCell, World.size_drew] at hsy1)
    go_wp2_with fail
    refine bodyPost_ret (by simp [results, Tryz.results24, go_sem, ↓IntWalk.iteOmega, *]; try rfl) rfl ?_
    refine RetNest.mk' rfl (Nest.nil _ _ _) ?_
    (repeat (first | (with_reducible exact Below.refl _ _) | (with_reducible assumption) | (with_reducible refine Later.out _ ?_) | (with_reducible refine bel_alloc ?_ _) | (with_reducible refine bel_drew ?_) | (with_reducible refine bel_drewN ?_ _) | (with_reducible refine bel_set ?_ ?_ _) | (with_reducible refine After.out _ ?_ ?_) | (dsimp only; omega) | omega | (simp only [World.size_alloc, World.size_setCell, World.size_drew]; omega)))
  have h12 : L.length ≤ 12 := by have h := h1; unfold claimsB at h; rw [Bool.and_eq_true] at h; exact of_decide_eq_true h.1
  rw [show pairsR L = pairs L by simp [pairsR, h1], show pairsK L = 0 by simp [pairsK, h1]]
  have C1 := Lib.hid (sAreClaims_b (c := c) hn hm hr ok h1)
  obtain ⟨ii, j1, j2, j3, j4⟩ := info_ints'
  have Jii := Lib.hid (And.intro j1 (And.intro j2 (And.intro j3 j4)))
  clear j1 j2 j3 j4
  subst hn
  have hTl := Lib.hid (fun i => pairsTo_le L i)
  replace hr := Lib.hid hr
  clear ok h1
  go_enter Tryz.func24, Tryz.ntmps24
  go_wp2_with fail
  with_reducible refine (C1.out).mono ?_
  rintro e w' ⟨rfl, y1, rfl⟩
  have hsy1 := y1.bel.size
  (try simp only [World.size_alloc, World.size_setCell, World.size_drew] at hsy1)
  go_wp2_with fail
  go_loopw [4, 5] (fun t4 i wr => ∃ (k : Nat) (a4 : Option Addr) (c4 : Nat) (vs : List Value), k ≤ L.length ∧ i = .int .i64 k ∧ t4 = .slice a4 (pairsTo L k).length c4 ∧ Nest wr w.heap.size wr.heap.size a4 (pairsTo L k).length c4 (pairsTo L k) vs ∧ ∃ z : Later w, wr = z.w) (fun _ i _ => L.length - (intOf i).toNat)
  case atStart => exact ⟨0, _, _, [], Nat.zero_le _, rfl, rfl, Nest.made0 _ _ (by ((try simp only [World.size_alloc, World.size_setCell, World.size_drew]); omega)), LaterC.mk (by (repeat (first | (with_reducible exact Below.refl _ _) | (with_reducible assumption) | (with_reducible refine Later.out _ ?_) | (with_reducible refine bel_alloc ?_ _) | (with_reducible refine bel_drew ?_) | (with_reducible refine bel_drewN ?_ _) | (with_reducible refine bel_set ?_ ?_ _) | (with_reducible refine After.out _ ?_ ?_) | (dsimp only; omega) | omega | (simp only [World.size_alloc, World.size_setCell, World.size_drew]; omega))))⟩
  case round =>
    obtain ⟨k, a4, c4, vs, hk, rfl, rfl, hnest, z, rfl⟩ := hrel
    replace hnest := Lib.hid hnest
    have hzz := z.bel.size
    by_cases hlt : k < L.length
    · obtain ⟨b, o, rfl, hb, q0, q1, q2, q3, q4, q5, q6⟩ := hr.out.clm hlt
      have hi1 : (k : Int) < (L.length : Int) := by omega
      go_wp2_with fail
      go_loopw [4, 6] (fun t4 i wr => ∃ (m : Nat) (a5 : Option Addr) (c5 : Nat) (vs : List Value), k < m ∧ m ≤ L.length ∧ i = .int .i64 m ∧ t4 = .slice a5 (pairsTo L k ++ pairsIn L k m).length c5 ∧ Nest wr w.heap.size wr.heap.size a5 (pairsTo L k ++ pairsIn L k m).length c5 (pairsTo L k ++ pairsIn L k m) vs ∧ ∃ z2 : Later w, wr = z2.w) (fun _ i _ => L.length - (intOf i).toNat)
      case atStart => exact ⟨k + 1, a4, c4, vs, by omega, by omega, by go_num, by rw [pairsIn_start, List.append_nil], by rw [pairsIn_start, List.append_nil]; exact (hnest.out.bel (B := z.w.heap.size) (by (repeat (first | (with_reducible exact Below.refl _ _) | (with_reducible assumption) | (with_reducible refine Later.out _ ?_) | (with_reducible refine bel_alloc ?_ _) | (with_reducible refine bel_drew ?_) | (with_reducible refine bel_drewN ?_ _) | (with_reducible refine bel_set ?_ ?_ _) | (with_reducible refine After.out _ ?_ ?_) | (dsimp only; omega) | omega | (simp only [World.size_alloc, World.size_setCell, World.size_drew]; omega)))) (Nat.le_refl _)).mono (Nat.le_refl _) (by ((try simp only [World.size_alloc, World.size_setCell, World.size_drew]); omega)), LaterC.mk (by (repeat (first | (with_reducible exact Below.refl _ _) | (with_reducible assumption) | (with_reducible refine Later.out _ ?_) | (with_reducible refine bel_alloc ?_ _) | (with_reducible refine bel_drew ?_) | (with_reducible refine bel_drewN ?_ _) | (with_reducible refine bel_set ?_ ?_ _) | (with_reducible refine After.out _ ?_ ?_) | (dsimp only; omega) | omega | (simp only [World.size_alloc, World.size_setCell, World.size_drew]; omega))))⟩
      case round =>
        obtain ⟨m, a5, c5, vs5, hkm, hmm, rfl, rfl, hnest5, z2, rfl⟩ := hrel
        have hz2 := z2.bel.size
        clear hnest
        obtain ⟨N, hN⟩ : ∃ N, pairsTo L k ++ pairsIn L k m = N := ⟨_, rfl⟩
        rw [hN] at hnest5
        by_cases hlt2 : m < L.length
        · obtain ⟨b', o', he, hb', s0, s1, s2, s3, s4, s5, s6⟩ := hr.out.clm hlt2
          cases he
          have hi2 : (m : Int) < (L.length : Int) := by omega
          cases hv : contraB L[k] L[m]
          · have X := Lib.hid (show pairsTo L k ++ pairsIn L k (m + 1) = N by rw [pairsIn_no (i := k) (by rw [pairB_at hlt hlt2]; exact hv)]; exact hN)
            rw [hN]
            replace hnest5 := Lib.hid hnest5
            clear hN
            replace hv := Lib.hid hv
            go_wp2_with fail
            refine wp_region_plan [(0, true), (1, true), (2, true), (3, true), (4, true), (5, true), (6, true), (7, true), (8, false)] (C := LaterC _) (by kernel_rfl) (by kernel_rfl) (by kernel_rfl) rfl (fun _ _ d _ _ h => by cases d <;> exact h) (LaterC.mk ((Below.refl _ _).drew)) ?_
            first | (refine plan_quiet nth0 rfl ?_; intro KP hKP; go_big_quiet_op; go_big_quiet_on) | (refine plan_skip_q nth0 rfl rfl ?_; simp only [Act.put, List.setIfInBounds_toArray, List.set_cons_zero, List.set_cons_succ])
            first | (refine plan_quiet nth1 rfl ?_; intro KP hKP; go_big_quiet_op; go_big_quiet_on) | (refine plan_skip_q nth1 rfl rfl ?_; simp only [Act.put, List.setIfInBounds_toArray, List.set_cons_zero, List.set_cons_succ])
            first | (refine plan_quiet nth2 rfl ?_; intro KP hKP; go_big_quiet_op; go_big_quiet_on) | (refine plan_skip_q nth2 rfl rfl ?_; simp only [Act.put, List.setIfInBounds_toArray, List.set_cons_zero, List.set_cons_succ])
            first | (refine plan_quiet nth3 rfl ?_; intro KP hKP; go_big_quiet_op; go_big_quiet_on) | (refine plan_skip_q nth3 rfl rfl ?_; simp only [Act.put, List.setIfInBounds_toArray, List.set_cons_zero, List.set_cons_succ])
            first | (refine plan_quiet nth4 rfl ?_; intro KP hKP; go_big_quiet_op; go_big_quiet_on) | (refine plan_skip_q nth4 rfl rfl ?_; simp only [Act.put, List.setIfInBounds_toArray, List.set_cons_zero, List.set_cons_succ])
            first | (refine plan_quiet nth5 rfl ?_; intro KP hKP; go_big_quiet_op; go_big_quiet_on) | (refine plan_skip_q nth5 rfl rfl ?_; simp only [Act.put, List.setIfInBounds_toArray, List.set_cons_zero, List.set_cons_succ])
            first | (refine plan_quiet nth6 rfl ?_; intro KP hKP; go_big_quiet_op; go_big_quiet_on) | (refine plan_skip_q nth6 rfl rfl ?_; simp only [Act.put, List.setIfInBounds_toArray, List.set_cons_zero, List.set_cons_succ])
            first | (refine plan_quiet nth7 rfl ?_; intro KP hKP; go_big_quiet_op; go_big_quiet_on) | (refine plan_skip_q nth7 rfl rfl ?_; simp only [Act.put, List.setIfInBounds_toArray, List.set_cons_zero, List.set_cons_succ])
            first | (refine plan_loud nth8 rfl ?_; intro KP hKP; go_wp2_with (first | (go_at_call 85; first | ((with_reducible refine (Calls.later (sContradict_b hv.out)).mono ?_); rintro e w' ⟨rfl, xl, rfl⟩; have hsz := xl.bel.size; (try simp only [World.size_alloc, World.size_setCell, World.size_drew] at hsz); (try have hz0 : w.heap.size < xl.w.heap.size := (by omega)); (try have hz1 : w.heap.size + 1 < xl.w.heap.size := (by omega)); (try have hz2 : w.heap.size + 1 + 1 < xl.w.heap.size := (by omega))) | ((with_reducible refine (sContradict_b hv.out).mono ?_); rintro e w' ⟨rfl, xl, rfl⟩; have hsz := xl.bel.size; (try simp only [World.size_alloc, World.size_setCell, World.size_drew] at hsz); (try have hz0 : w.heap.size < xl.w.heap.size := (by omega)); (try have hz1 : w.heap.size + 1 < xl.w.heap.size := (by omega)); (try have hz2 : w.heap.size + 1 + 1 < xl.w.heap.size := (by omega))))); refine hKP _ _ (LaterC.mk (by (repeat (first | (with_reducible exact Below.refl _ _) | (with_reducible assumption) | (with_reducible refine Later.out _ ?_) | (with_reducible refine bel_alloc ?_ _) | (with_reducible refine bel_drew ?_) | (with_reducible refine bel_drewN ?_ _) | (with_reducible refine bel_set ?_ ?_ _) | (with_reducible refine After.out _ ?_ ?_) | (dsimp only; omega) | omega | (simp only [World.size_alloc, World.size_setCell, World.size_drew]; omega))))) ?_; clear hKP KP) | (refine plan_skip nth8 rfl rfl (LaterC.mk (by (repeat (first | (with_reducible exact Below.refl _ _) | (with_reducible assumption) | (with_reducible refine Later.out _ ?_) | (with_reducible refine bel_alloc ?_ _) | (with_reducible refine bel_drew ?_) | (with_reducible refine bel_drewN ?_ _) | (with_reducible refine bel_set ?_ ?_ _) | (with_reducible refine After.out _ ?_ ?_) | (dsimp only; omega) | omega | (simp only [World.size_alloc, World.size_setCell, World.size_drew]; omega))))) ?_; simp only [Act.put, List.setIfInBounds_toArray, List.set_cons_zero, List.set_cons_succ])
            refine plan_nil ?_
            go_wp2_with fail
            go_roundw
            case rel => exact ⟨m + 1, a5, c5, vs5, by omega, by omega, by go_num, by rw [X.out], by rw [X.out]; exact (hnest5.out.bel (B := z2.w.heap.size) (by (repeat (first | (with_reducible exact Below.refl _ _) | (with_reducible assumption) | (with_reducible refine Later.out _ ?_) | (with_reducible refine bel_alloc ?_ _) | (with_reducible refine bel_drew ?_) | (with_reducible refine bel_drewN ?_ _) | (with_reducible refine bel_set ?_ ?_ _) | (with_reducible refine After.out _ ?_ ?_) | (dsimp only; omega) | omega | (simp only [World.size_alloc, World.size_setCell, World.size_drew]; omega)))) (Nat.le_refl _)).mono (Nat.le_refl _) (by ((try simp only [World.size_alloc, World.size_setCell, World.size_drew]); omega)), LaterC.mk (by (repeat (first | (with_reducible exact Below.refl _ _) | (with_reducible assumption) | (with_reducible refine Later.out _ ?_) | (with_reducible refine bel_alloc ?_ _) | (with_reducible refine bel_drew ?_) | (with_reducible refine bel_drewN ?_ _) | (with_reducible refine bel_set ?_ ?_ _) | (with_reducible refine After.out _ ?_ ?_) | (dsimp only; omega) | omega | (simp only [World.size_alloc, World.size_setCell, World.size_drew]; omega))))⟩
            case measure => first | (simp [intOf]; done) | (simp [intOf]; omega) | omega
          · have X := Lib.hid (pairsIn_yes hkm (by rw [pairB_at hlt hlt2]; exact hv))
            have hT := hTl.out k
            have hT2 := pairsIn_le L k m
            have hT3 : k * L.length ≤ 12 * 12 := Nat.mul_le_mul (by omega) (by omega)
            have hNl : N.length ≤ 1000 := by rw [← hN, List.length_append]; omega
            obtain ⟨p, p', hp1, hp2, hp3, hpo, hpk, hpb⟩ := hnest5.own.tight (by omega)
            have hon := Lib.hid hpo
            have hpb' := Lib.hid (fun k h1 h2 => (hpb k h1 h2).1)
            have hX2 := Lib.hid (show pairsTo L k ++ pairsIn L k (m + 1) = N ++ [[(k : Int), (m : Int)]] by rw [X.out, ← hN, List.append_assoc])
            rw [hN]
            replace hnest5 := Lib.hid hnest5
            replace hv := Lib.hid hv
            clear hpo hpk hpb hT hT2 hT3 hN X
            go_wp2_with fail
            refine wp_region_plan [(0, true), (1, true), (2, true), (3, true), (4, true), (5, true), (6, true), (7, true), (8, false)] (C := LaterC _) (by kernel_rfl) (by kernel_rfl) (by kernel_rfl) rfl (fun _ _ d _ _ h => by cases d <;> exact h) (LaterC.mk ((Below.refl _ _).drew)) ?_
            first | (refine plan_quiet nth0 rfl ?_; intro KP hKP; go_big_quiet_op; go_big_quiet_on) | (refine plan_skip_q nth0 rfl rfl ?_; simp only [Act.put, List.setIfInBounds_toArray, List.set_cons_zero, List.set_cons_succ])
            first | (refine plan_quiet nth1 rfl ?_; intro KP hKP; go_big_quiet_op; go_big_quiet_on) | (refine plan_skip_q nth1 rfl rfl ?_; simp only [Act.put, List.setIfInBounds_toArray, List.set_cons_zero, List.set_cons_succ])
            first | (refine plan_quiet nth2 rfl ?_; intro KP hKP; go_big_quiet_op; go_big_quiet_on) | (refine plan_skip_q nth2 rfl rfl ?_; simp only [Act.put, List.setIfInBounds_toArray, List.set_cons_zero, List.set_cons_succ])
            first | (refine plan_quiet nth3 rfl ?_; intro KP hKP; go_big_quiet_op; go_big_quiet_on) | (refine plan_skip_q nth3 rfl rfl ?_; simp only [Act.put, List.setIfInBounds_toArray, List.set_cons_zero, List.set_cons_succ])
            first | (refine plan_quiet nth4 rfl ?_; intro KP hKP; go_big_quiet_op; go_big_quiet_on) | (refine plan_skip_q nth4 rfl rfl ?_; simp only [Act.put, List.setIfInBounds_toArray, List.set_cons_zero, List.set_cons_succ])
            first | (refine plan_quiet nth5 rfl ?_; intro KP hKP; go_big_quiet_op; go_big_quiet_on) | (refine plan_skip_q nth5 rfl rfl ?_; simp only [Act.put, List.setIfInBounds_toArray, List.set_cons_zero, List.set_cons_succ])
            first | (refine plan_quiet nth6 rfl ?_; intro KP hKP; go_big_quiet_op; go_big_quiet_on) | (refine plan_skip_q nth6 rfl rfl ?_; simp only [Act.put, List.setIfInBounds_toArray, List.set_cons_zero, List.set_cons_succ])
            first | (refine plan_quiet nth7 rfl ?_; intro KP hKP; go_big_quiet_op; go_big_quiet_on) | (refine plan_skip_q nth7 rfl rfl ?_; simp only [Act.put, List.setIfInBounds_toArray, List.set_cons_zero, List.set_cons_succ])
            first | (refine plan_loud nth8 rfl ?_; intro KP hKP; go_wp2_with (first | (go_at_call 85; first | ((with_reducible refine (Calls.later (sContradict_b hv.out)).mono ?_); rintro e w' ⟨rfl, xl, rfl⟩; have hsz := xl.bel.size; (try simp only [World.size_alloc, World.size_setCell, World.size_drew] at hsz); (try have hz0 : w.heap.size < xl.w.heap.size := (by omega)); (try have hz1 : w.heap.size + 1 < xl.w.heap.size := (by omega)); (try have hz2 : w.heap.size + 1 + 1 < xl.w.heap.size := (by omega))) | ((with_reducible refine (sContradict_b hv.out).mono ?_); rintro e w' ⟨rfl, xl, rfl⟩; have hsz := xl.bel.size; (try simp only [World.size_alloc, World.size_setCell, World.size_drew] at hsz); (try have hz0 : w.heap.size < xl.w.heap.size := (by omega)); (try have hz1 : w.heap.size + 1 < xl.w.heap.size := (by omega)); (try have hz2 : w.heap.size + 1 + 1 < xl.w.heap.size := (by omega))))); refine hKP _ _ (LaterC.mk (by (repeat (first | (with_reducible exact Below.refl _ _) | (with_reducible assumption) | (with_reducible refine Later.out _ ?_) | (with_reducible refine bel_alloc ?_ _) | (with_reducible refine bel_drew ?_) | (with_reducible refine bel_drewN ?_ _) | (with_reducible refine bel_set ?_ ?_ _) | (with_reducible refine After.out _ ?_ ?_) | (dsimp only; omega) | omega | (simp only [World.size_alloc, World.size_setCell, World.size_drew]; omega))))) ?_; clear hKP KP) | (refine plan_skip nth8 rfl rfl (LaterC.mk (by (repeat (first | (with_reducible exact Below.refl _ _) | (with_reducible assumption) | (with_reducible refine Later.out _ ?_) | (with_reducible refine bel_alloc ?_ _) | (with_reducible refine bel_drew ?_) | (with_reducible refine bel_drewN ?_ _) | (with_reducible refine bel_set ?_ ?_ _) | (with_reducible refine After.out _ ?_ ?_) | (dsimp only; omega) | omega | (simp only [World.size_alloc, World.size_setCell, World.size_drew]; omega))))) ?_; simp only [Act.put, List.setIfInBounds_toArray, List.set_cons_zero, List.set_cons_succ])
            refine plan_nil ?_
            go_wp2_with (at_builtin; (refine wpList_append_after _ rfl _ _ _ rfl 35 ii _ 1 24 Tryz.underlying46 Jii.out.1 Jii.out.2.1 Jii.out.2.2.1 Jii.out.2.2.2 rfl (by decide) (p) (p') ?qb9 _ _ _ (vs5) rfl ?qb10 ?qb16 _ _ _ ([.slice (some ⟨xl.w.heap.size, 0, none⟩) 2 2]) rfl ?qb11 ?qb12 ?qb13 ?qb14 ?qb15 ?_); (case qb9 => (first | (dsimp only; omega) | omega | (simp only [World.size_alloc, World.size_setCell, World.size_drew]; omega))); (case qb10 => exact (hon.out.bel (B := z2.w.heap.size) (by (repeat (first | (with_reducible exact Below.refl _ _) | (with_reducible assumption) | (with_reducible refine Later.out _ ?_) | (with_reducible refine bel_alloc ?_ _) | (with_reducible refine bel_drew ?_) | (with_reducible refine bel_drewN ?_ _) | (with_reducible refine bel_set ?_ ?_ _) | (with_reducible refine After.out _ ?_ ?_) | (dsimp only; omega) | omega | (simp only [World.size_alloc, World.size_setCell, World.size_drew]; omega)))) hp3).own); (case qb16 => exact hon.out.lt); (case qb11 => (first | rfl | (simp [boolCells]; done) | (simp [intCells]; done) | (simp; done) | (first | omega | (simp only [List.length_append, List.length_cons, List.length_nil]; omega)))); (case qb12 => exact Row.madeAt (by simp only [World.size_alloc]) rfl); (case qb13 => (intro u hu; simp at hu; subst hu; rfl)); (case qb14 => (unfold maxLen; (first | omega | (simp only [List.length_append, List.length_cons, List.length_nil]; omega)))); (case qb15 => (first | omega | (simp only [List.length_append, List.length_cons, List.length_nil]; omega))); intro a9 c9 x9 hown9)
            have N2 := Nest.append hnest5.out (show Below z2.w.heap.size z2.w ((xl.w.alloc (.cells #[.int .i64 k, .int .i64 m] 2)).alloc (.cells #[.slice (some ⟨xl.w.heap.size, 0, none⟩) 2 2] 35)) by (repeat (first | (with_reducible exact Below.refl _ _) | (with_reducible assumption) | (with_reducible refine Later.out _ ?_) | (with_reducible refine bel_alloc ?_ _) | (with_reducible refine bel_drew ?_) | (with_reducible refine bel_drewN ?_ _) | (with_reducible refine bel_set ?_ ?_ _) | (with_reducible refine After.out _ ?_ ?_) | (dsimp only; omega) | omega | (simp only [World.size_alloc, World.size_setCell, World.size_drew]; omega))))
              (Nest.made xl.w z2.w.heap.size hsz [(k : Int), (m : Int)] 2 rfl (by unfold maxLen; omega) _ rfl) hp1 hz2 hp3 hpb'.out x9.btw hown9
            replace N2 := Lib.hid N2
            clear hown9
            go_roundw
            case rel => exact ⟨m + 1, a9, c9, _, by omega, by omega, by go_num, by rw [hX2.out]; simp, by rw [hX2.out, List.length_append]; exact N2.out, LaterC.mk (x9.out (by (repeat (first | (with_reducible exact Below.refl _ _) | (with_reducible assumption) | (with_reducible refine Later.out _ ?_) | (with_reducible refine bel_alloc ?_ _) | (with_reducible refine bel_drew ?_) | (with_reducible refine bel_drewN ?_ _) | (with_reducible refine bel_set ?_ ?_ _) | (with_reducible refine After.out _ ?_ ?_) | (dsimp only; omega) | omega | (simp only [World.size_alloc, World.size_setCell, World.size_drew]; omega)))) hp1)⟩
            case measure => first | (simp [intOf]; done) | (simp [intOf]; omega) | omega
        · obtain rfl : m = L.length := by omega
          have X := Lib.hid (show pairsTo L (k + 1) = N by rw [pairsTo_succ]; exact hN)
          rw [hN]
          replace hnest5 := Lib.hid hnest5
          clear hN
          go_wp2_with fail
          go_roundw
          case rel => exact ⟨k + 1, a5, c5, vs5, by omega, by go_num, by rw [X.out], by rw [X.out]; exact (hnest5.out.bel (B := z2.w.heap.size) (by (repeat (first | (with_reducible exact Below.refl _ _) | (with_reducible assumption) | (with_reducible refine Later.out _ ?_) | (with_reducible refine bel_alloc ?_ _) | (with_reducible refine bel_drew ?_) | (with_reducible refine bel_drewN ?_ _) | (with_reducible refine bel_set ?_ ?_ _) | (with_reducible refine After.out _ ?_ ?_) | (dsimp only; omega) | omega | (simp only [World.size_alloc, World.size_setCell, World.size_drew]; omega)))) (Nat.le_refl _)).mono (Nat.le_refl _) (by ((try simp only [World.size_alloc, World.size_setCell, World.size_drew]); omega)), LaterC.mk (by (repeat (first | (with_reducible exact Below.refl _ _) | (with_reducible assumption) | (with_reducible refine Later.out _ ?_) | (with_reducible refine bel_alloc ?_ _) | (with_reducible refine bel_drew ?_) | (with_reducible refine bel_drewN ?_ _) | (with_reducible refine bel_set ?_ ?_ _) | (with_reducible refine After.out _ ?_ ?_) | (dsimp only; omega) | omega | (simp only [World.size_alloc, World.size_setCell, World.size_drew]; omega))))⟩
          case measure => first | (simp [intOf]; done) | (simp [intOf]; omega) | omega
    · obtain rfl : k = L.length := by omega
      go_wp2_with fail
      refine bodyPost_ret (by simp [results, Tryz.results24, go_sem, ↓IntWalk.iteOmega, *]; try rfl) rfl ?_
      exact RetNest.mk' rfl hnest.out (by (repeat (first | (with_reducible exact Below.refl _ _) | (with_reducible assumption) | (with_reducible refine Later.out _ ?_) | (with_reducible refine bel_alloc ?_ _) | (with_reducible refine bel_drew ?_) | (with_reducible refine bel_drewN ?_ _) | (with_reducible refine bel_set ?_ ?_ _) | (with_reducible refine After.out _ ?_ ?_) | (dsimp only; omega) | omega | (simp only [World.size_alloc, World.size_setCell, World.size_drew]; omega))))
end
end Go.Proofs.YtflcfdiochohgaaGreatDoor

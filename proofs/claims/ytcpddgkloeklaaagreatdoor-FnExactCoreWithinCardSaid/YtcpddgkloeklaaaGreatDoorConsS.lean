import Derived.Test.YtcpddgkloeklaaaGreatDoorConsA
/- Consistency of claims: the reference's side. -/
set_option linter.unusedSimpArgs false
set_option linter.unusedVariables false
namespace Go.Proofs.YtcpddgkloeklaaaGreatDoor
open Go.RowKit
theorem claim_of_claims {L : List Clm} (h : claimsB L = true) {c : Clm} (hc : c ∈ L) : claimB c = true := by
  unfold claimsB at h
  rw [Bool.and_eq_true] at h
  exact List.all_eq_true.1 h.2 c hc
theorem len_of_claims {L : List Clm} (h : claimsB L = true) : L.length ≤ 12 := by
  unfold claimsB at h
  rw [Bool.and_eq_true] at h
  exact of_decide_eq_true h.1
theorem named_claim {c : Clm} (h : claimB c = true) (hk : c.kind = 1) : c.val.toList.isEmpty = false := by
  have hv : valueB c = true := by unfold claimB at h; simp only [Bool.and_eq_true] at h; exact h.1.1.2
  have hw : wordB c.val = true := by rw [valueB_parent hk, Bool.and_eq_true] at hv; exact hv.1
  unfold wordB wordL at hw
  simp only [Bool.and_eq_true, decide_eq_true_eq] at hw
  rw [ByteArray.toList_eq]
  cases hl : c.val.data.toList with
  | nil => rw [hl] at hw; simp at hw
  | cons x l => rfl
theorem named_of {L : List Clm} (h : ∀ c ∈ L, claimB c = true) : Named L := fun c hc hk => named_claim (h c hc) hk
set_option maxRecDepth 4000 in
set_option maxHeartbeats 4000000 in
theorem sCons_any (L : List Clm) (a : Option Addr) (n c : Nat) (w : World) (hn : L.length = n) (hm : n ≤ 1048576) (hr : Row w a (clmsCells L)) (hv : Named L) :
    Calls Tryz.prog 60 #[.slice a n c] w (Ret w (.bool (consB L))) := by
  have PC := fun y place w hr => sCircle_any L y place a n c w hn hm hr hv
  replace PC := Lib.hid PC
  clear hv
  subst hn
  replace hr := Lib.hid hr
  go_enter Tryz.func60, Tryz.ntmps60
  go_wp2_with fail
  go_loopw [3] (fun i wr => ∃ k : Nat, k ≤ L.length ∧ i = .int .i64 k ∧ PairTo L k ∧ ∃ z : Later w, wr = z.w) (fun i _ => L.length - (intOf i).toNat)
  case atStart => exact ⟨0, Nat.zero_le _, rfl, fun i j _ _ h => absurd h (by omega), LaterC.mk (by (repeat (first | (with_reducible exact Below.refl _ _) | (with_reducible assumption) | (with_reducible refine Later.out _ ?_) | (with_reducible refine bel_alloc ?_ _) | (with_reducible refine bel_drew ?_) | (with_reducible refine bel_drewN ?_ _) | (with_reducible refine bel_set ?_ ?_ _) | (with_reducible refine After.out _ ?_ ?_) | (dsimp only; omega) | omega | (simp only [World.size_alloc, World.size_setCell, World.size_drew]; omega))))⟩
  case round =>
    obtain ⟨k, hk, rfl, hall, z, rfl⟩ := hrel
    replace hall := Lib.hid hall
    have hzz := z.bel.size
    by_cases hlt : k < L.length
    · obtain ⟨b, o, rfl, hb, q0, q1, q2, q3, q4, q5, q6⟩ := hr.out.clm hlt
      go_wp2_with fail
      go_loopw [4] (fun i wr => ∃ m : Nat, m ≤ k ∧ i = .int .i64 m ∧ (∀ j (hj : j < L.length), j < m → contraB L[k] L[j] = false) ∧ ∃ z2 : Later w, wr = z2.w) (fun i _ => k - (intOf i).toNat)
      case atStart => exact ⟨0, Nat.zero_le _, rfl, fun j _ h => absurd h (by omega), LaterC.mk (by (repeat (first | (with_reducible exact Below.refl _ _) | (with_reducible assumption) | (with_reducible refine Later.out _ ?_) | (with_reducible refine bel_alloc ?_ _) | (with_reducible refine bel_drew ?_) | (with_reducible refine bel_drewN ?_ _) | (with_reducible refine bel_set ?_ ?_ _) | (with_reducible refine After.out _ ?_ ?_) | (dsimp only; omega) | omega | (simp only [World.size_alloc, World.size_setCell, World.size_drew]; omega))))⟩
      case round =>
        obtain ⟨m, hmk, rfl, hin, z2, rfl⟩ := hrel
        replace hin := Lib.hid hin
        have hz2 := z2.bel.size
        by_cases hlt2 : m < k
        · have hlt3 : m < L.length := by omega
          obtain ⟨b', o', he, hb', s0, s1, s2, s3, s4, s5, s6⟩ := hr.out.clm hlt3
          cases he
          have hi1 : (k : Int) < (L.length : Int) := by omega
          have hi2 : (m : Int) < (L.length : Int) := by omega
          cases hv : contraB L[k] L[m]
          · have X := Lib.hid (show ∀ j (hj : j < L.length), j < m + 1 → contraB L[k] L[j] = false from fun j hj h1 => by
              rcases Nat.lt_or_ge j m with h2 | h2
              · exact hin.out j hj h2
              · obtain rfl : j = m := by omega
                exact hv)
            replace hv := Lib.hid hv
            go_wp2_with fail
            refine wp_region_plan [(0, true), (1, true), (2, true), (3, true), (4, true), (5, true), (6, true), (7, true), (8, false)] (C := LaterC _) (by kernel_rfl) (by kernel_rfl) (by kernel_rfl) rfl (fun _ _ d _ _ h => by cases d <;> exact h) (LaterC.mk ((Below.refl _ _).drew)) ?_
            first | (refine plan_quiet nth0 rfl ?_; intro KP hKP; go_big_quiet_op; go_big_quiet_on) | (refine plan_skip_q nth0 rfl rfl ?_; simp only [Act.put, List.setIfInBounds_toArray, List.set_cons_zero, List.set_cons_succ])
            first | (refine plan_quiet nth1 rfl ?_; intro KP hKP; go_big_quiet_op; go_big_quiet_on) | (refine plan_skip_q nth1 rfl rfl ?_; simp only [Act.put, List.setIfInBounds_toArray, List.set_cons_zero, List.set_cons_succ])
            first | (refine plan_quiet nth2 rfl ?_; intro KP hKP; go_big_quiet_op; go_big_quiet_on) | (refine plan_skip_q nth2 rfl rfl ?_; simp only [Act.put, List.setIfInBounds_toArray, List.set_cons_zero, List.set_cons_succ])
            first | (refine plan_quiet nth3 rfl ?_; intro KP hKP; go_big_quiet_op; go_big_quiet_on) | (refine plan_skip_q nth3 rfl rfl ?_; simp only [Act.put, List.setIfInBounds_toArray, List.set_cons_zero, List.set_cons_succ])
            first | (refine plan_quiet nth4 rfl ?_; intro KP hKP; go_big_quiet_op; go_big_quiet_on) | (refine plan_skip_q nth4 rfl rfl ?_; simp only [Act.put, List.setIfInBounds_toArray, List.set_cons_zero, List.set_cons_succ])
            first | (refine plan_quiet nth5 rfl ?_; intro KP hKP; go_big_quiet_op; go_big_quiet_on) | (refine plan_skip_q nth5 rfl rfl ?_; simp only [Act.put, List.setIfInBounds_toArray, List.set_cons_zero, List.set_cons_succ])
            first | (refine plan_quiet nth6 rfl ?_; intro KP hKP; go_big_quiet_op; go_big_quiet_on) | (refine plan_skip_q nth6 rfl rfl ?_; simp only [Act.put, List.setIfInBounds_toArray, List.set_cons_zero, List.set_cons_succ])
            first | (refine plan_quiet nth7 rfl ?_; intro KP hKP; go_big_quiet_op; go_big_quiet_on) | (refine plan_skip_q nth7 rfl rfl ?_; simp only [Act.put, List.setIfInBounds_toArray, List.set_cons_zero, List.set_cons_succ])
            first | (refine plan_loud nth8 rfl ?_; intro KP hKP; go_wp2_with (first | (go_at_call 99; first | ((with_reducible refine (Calls.later (sContradict_b hv.out)).mono ?_); rintro e w' ⟨rfl, xl, rfl⟩; have hsz := xl.bel.size; (try simp only [World.size_alloc, World.size_setCell, World.size_drew] at hsz); (try have hz0 : w.heap.size < xl.w.heap.size := (by omega)); (try have hz1 : w.heap.size + 1 < xl.w.heap.size := (by omega)); (try have hz2 : w.heap.size + 1 + 1 < xl.w.heap.size := (by omega))) | ((with_reducible refine (sContradict_b hv.out).mono ?_); rintro e w' ⟨rfl, xl, rfl⟩; have hsz := xl.bel.size; (try simp only [World.size_alloc, World.size_setCell, World.size_drew] at hsz); (try have hz0 : w.heap.size < xl.w.heap.size := (by omega)); (try have hz1 : w.heap.size + 1 < xl.w.heap.size := (by omega)); (try have hz2 : w.heap.size + 1 + 1 < xl.w.heap.size := (by omega))))); refine hKP _ _ (LaterC.mk (by (repeat (first | (with_reducible exact Below.refl _ _) | (with_reducible assumption) | (with_reducible refine Later.out _ ?_) | (with_reducible refine bel_alloc ?_ _) | (with_reducible refine bel_drew ?_) | (with_reducible refine bel_drewN ?_ _) | (with_reducible refine bel_set ?_ ?_ _) | (with_reducible refine After.out _ ?_ ?_) | (dsimp only; omega) | omega | (simp only [World.size_alloc, World.size_setCell, World.size_drew]; omega))))) ?_; clear hKP KP) | (refine plan_skip nth8 rfl rfl (LaterC.mk (by (repeat (first | (with_reducible exact Below.refl _ _) | (with_reducible assumption) | (with_reducible refine Later.out _ ?_) | (with_reducible refine bel_alloc ?_ _) | (with_reducible refine bel_drew ?_) | (with_reducible refine bel_drewN ?_ _) | (with_reducible refine bel_set ?_ ?_ _) | (with_reducible refine After.out _ ?_ ?_) | (dsimp only; omega) | omega | (simp only [World.size_alloc, World.size_setCell, World.size_drew]; omega))))) ?_; simp only [Act.put, List.setIfInBounds_toArray, List.set_cons_zero, List.set_cons_succ])
            refine plan_nil ?_
            go_wp2_with fail
            go_roundw
            case rel => exact ⟨m + 1, by omega, by go_num, X.out, LaterC.mk (by (repeat (first | (with_reducible exact Below.refl _ _) | (with_reducible assumption) | (with_reducible refine Later.out _ ?_) | (with_reducible refine bel_alloc ?_ _) | (with_reducible refine bel_drew ?_) | (with_reducible refine bel_drewN ?_ _) | (with_reducible refine bel_set ?_ ?_ _) | (with_reducible refine After.out _ ?_ ?_) | (dsimp only; omega) | omega | (simp only [World.size_alloc, World.size_setCell, World.size_drew]; omega))))⟩
            case measure => first | (simp [intOf]; done) | (simp [intOf]; omega) | omega
          · have X := Lib.hid (show consB L = false from bof_false fun hc => by
              have := noPair_iff.1 hc.1 k m hlt hlt3 hlt2
              rw [hv] at this; cases this)
            replace hv := Lib.hid hv
            go_wp2_with fail
            refine wp_region_plan [(0, true), (1, true), (2, true), (3, true), (4, true), (5, true), (6, true), (7, true), (8, false)] (C := LaterC _) (by kernel_rfl) (by kernel_rfl) (by kernel_rfl) rfl (fun _ _ d _ _ h => by cases d <;> exact h) (LaterC.mk ((Below.refl _ _).drew)) ?_
            first | (refine plan_quiet nth0 rfl ?_; intro KP hKP; go_big_quiet_op; go_big_quiet_on) | (refine plan_skip_q nth0 rfl rfl ?_; simp only [Act.put, List.setIfInBounds_toArray, List.set_cons_zero, List.set_cons_succ])
            first | (refine plan_quiet nth1 rfl ?_; intro KP hKP; go_big_quiet_op; go_big_quiet_on) | (refine plan_skip_q nth1 rfl rfl ?_; simp only [Act.put, List.setIfInBounds_toArray, List.set_cons_zero, List.set_cons_succ])
            first | (refine plan_quiet nth2 rfl ?_; intro KP hKP; go_big_quiet_op; go_big_quiet_on) | (refine plan_skip_q nth2 rfl rfl ?_; simp only [Act.put, List.setIfInBounds_toArray, List.set_cons_zero, List.set_cons_succ])
            first | (refine plan_quiet nth3 rfl ?_; intro KP hKP; go_big_quiet_op; go_big_quiet_on) | (refine plan_skip_q nth3 rfl rfl ?_; simp only [Act.put, List.setIfInBounds_toArray, List.set_cons_zero, List.set_cons_succ])
            first | (refine plan_quiet nth4 rfl ?_; intro KP hKP; go_big_quiet_op; go_big_quiet_on) | (refine plan_skip_q nth4 rfl rfl ?_; simp only [Act.put, List.setIfInBounds_toArray, List.set_cons_zero, List.set_cons_succ])
            first | (refine plan_quiet nth5 rfl ?_; intro KP hKP; go_big_quiet_op; go_big_quiet_on) | (refine plan_skip_q nth5 rfl rfl ?_; simp only [Act.put, List.setIfInBounds_toArray, List.set_cons_zero, List.set_cons_succ])
            first | (refine plan_quiet nth6 rfl ?_; intro KP hKP; go_big_quiet_op; go_big_quiet_on) | (refine plan_skip_q nth6 rfl rfl ?_; simp only [Act.put, List.setIfInBounds_toArray, List.set_cons_zero, List.set_cons_succ])
            first | (refine plan_quiet nth7 rfl ?_; intro KP hKP; go_big_quiet_op; go_big_quiet_on) | (refine plan_skip_q nth7 rfl rfl ?_; simp only [Act.put, List.setIfInBounds_toArray, List.set_cons_zero, List.set_cons_succ])
            first | (refine plan_loud nth8 rfl ?_; intro KP hKP; go_wp2_with (first | (go_at_call 99; first | ((with_reducible refine (Calls.later (sContradict_b hv.out)).mono ?_); rintro e w' ⟨rfl, xl, rfl⟩; have hsz := xl.bel.size; (try simp only [World.size_alloc, World.size_setCell, World.size_drew] at hsz); (try have hz0 : w.heap.size < xl.w.heap.size := (by omega)); (try have hz1 : w.heap.size + 1 < xl.w.heap.size := (by omega)); (try have hz2 : w.heap.size + 1 + 1 < xl.w.heap.size := (by omega))) | ((with_reducible refine (sContradict_b hv.out).mono ?_); rintro e w' ⟨rfl, xl, rfl⟩; have hsz := xl.bel.size; (try simp only [World.size_alloc, World.size_setCell, World.size_drew] at hsz); (try have hz0 : w.heap.size < xl.w.heap.size := (by omega)); (try have hz1 : w.heap.size + 1 < xl.w.heap.size := (by omega)); (try have hz2 : w.heap.size + 1 + 1 < xl.w.heap.size := (by omega))))); refine hKP _ _ (LaterC.mk (by (repeat (first | (with_reducible exact Below.refl _ _) | (with_reducible assumption) | (with_reducible refine Later.out _ ?_) | (with_reducible refine bel_alloc ?_ _) | (with_reducible refine bel_drew ?_) | (with_reducible refine bel_drewN ?_ _) | (with_reducible refine bel_set ?_ ?_ _) | (with_reducible refine After.out _ ?_ ?_) | (dsimp only; omega) | omega | (simp only [World.size_alloc, World.size_setCell, World.size_drew]; omega))))) ?_; clear hKP KP) | (refine plan_skip nth8 rfl rfl (LaterC.mk (by (repeat (first | (with_reducible exact Below.refl _ _) | (with_reducible assumption) | (with_reducible refine Later.out _ ?_) | (with_reducible refine bel_alloc ?_ _) | (with_reducible refine bel_drew ?_) | (with_reducible refine bel_drewN ?_ _) | (with_reducible refine bel_set ?_ ?_ _) | (with_reducible refine After.out _ ?_ ?_) | (dsimp only; omega) | omega | (simp only [World.size_alloc, World.size_setCell, World.size_drew]; omega))))) ?_; simp only [Act.put, List.setIfInBounds_toArray, List.set_cons_zero, List.set_cons_succ])
            refine plan_nil ?_
            go_wp2_with fail
            go_ret
            exact .mk (by rw [X.out]; rfl) (by (repeat (first | (with_reducible exact Below.refl _ _) | (with_reducible assumption) | (with_reducible refine Later.out _ ?_) | (with_reducible refine bel_alloc ?_ _) | (with_reducible refine bel_drew ?_) | (with_reducible refine bel_drewN ?_ _) | (with_reducible refine bel_set ?_ ?_ _) | (with_reducible refine After.out _ ?_ ?_) | (dsimp only; omega) | omega | (simp only [World.size_alloc, World.size_setCell, World.size_drew]; omega))))
        · obtain rfl : m = k := by omega
          have X := Lib.hid (hall.out.succ fun j hj _ hjk => hin.out j hj hjk)
          go_wp2_with fail
          go_roundw
          case rel => exact ⟨m + 1, by omega, by go_num, X.out, LaterC.mk (by (repeat (first | (with_reducible exact Below.refl _ _) | (with_reducible assumption) | (with_reducible refine Later.out _ ?_) | (with_reducible refine bel_alloc ?_ _) | (with_reducible refine bel_drew ?_) | (with_reducible refine bel_drewN ?_ _) | (with_reducible refine bel_set ?_ ?_ _) | (with_reducible refine After.out _ ?_ ?_) | (dsimp only; omega) | omega | (simp only [World.size_alloc, World.size_setCell, World.size_drew]; omega))))⟩
          case measure => first | (simp [intOf]; done) | (simp [intOf]; omega) | omega
    · obtain rfl : k = L.length := by omega
      have hnp := Lib.hid hall.out.all
      clear hall
      go_wp2_with fail
      go_loopw [5] (fun i wr => ∃ k : Nat, k ≤ L.length ∧ i = .int .i64 k ∧ (∀ j (hj : j < L.length), j < k → L[j].kind = 1 → ∀ d ∈ L, circZ L L[j].fr d.place = none) ∧ ∃ z : Later w, wr = z.w) (fun i _ => L.length - (intOf i).toNat)
      case atStart => exact ⟨0, Nat.zero_le _, rfl, fun j _ h => absurd h (by omega), LaterC.mk (by (repeat (first | (with_reducible exact Below.refl _ _) | (with_reducible assumption) | (with_reducible refine Later.out _ ?_) | (with_reducible refine bel_alloc ?_ _) | (with_reducible refine bel_drew ?_) | (with_reducible refine bel_drewN ?_ _) | (with_reducible refine bel_set ?_ ?_ _) | (with_reducible refine After.out _ ?_ ?_) | (dsimp only; omega) | omega | (simp only [World.size_alloc, World.size_setCell, World.size_drew]; omega))))⟩
      case round =>
        obtain ⟨k, hk, rfl, hall, z1, rfl⟩ := hrel
        replace hall := Lib.hid hall
        have hz1 := z1.bel.size
        by_cases hlt : k < L.length
        · obtain ⟨b, o, rfl, hb, q0, q1, q2, q3, q4, q5, q6⟩ := hr.out.clm hlt
          have hi1 : (k : Int) < (L.length : Int) := by omega
          by_cases e1 : L[k].kind = 1
          · have k1 : (L[k].kind == 1) = true := by simp [e1]
            have E1 := Lib.hid e1
            clear e1
            go_wp2_with fail
            go_loopw [6] (fun i wr => ∃ m : Nat, m ≤ L.length ∧ i = .int .i64 m ∧ (∀ j (hj : j < L.length), j < m → circZ L L[k].fr L[j].place = none) ∧ ∃ z2 : Later w, wr = z2.w) (fun i _ => L.length - (intOf i).toNat)
            case atStart => exact ⟨0, Nat.zero_le _, rfl, fun j _ h => absurd h (by omega), LaterC.mk (by (repeat (first | (with_reducible exact Below.refl _ _) | (with_reducible assumption) | (with_reducible refine Later.out _ ?_) | (with_reducible refine bel_alloc ?_ _) | (with_reducible refine bel_drew ?_) | (with_reducible refine bel_drewN ?_ _) | (with_reducible refine bel_set ?_ ?_ _) | (with_reducible refine After.out _ ?_ ?_) | (dsimp only; omega) | omega | (simp only [World.size_alloc, World.size_setCell, World.size_drew]; omega))))⟩
            case round =>
              obtain ⟨m, hmk, rfl, hin, z2, rfl⟩ := hrel
              replace hin := Lib.hid hin
              have hz2 := z2.bel.size
              by_cases hlt2 : m < L.length
              · obtain ⟨b', o', he, hb', s0, s1, s2, s3, s4, s5, s6⟩ := hr.out.clm hlt2
                cases he
                have hi2 : (m : Int) < (L.length : Int) := by omega
                have PC' := fun w hr => PC.out L[k].fr L[m].place w hr
                cases hZ : circZ L L[k].fr L[m].place with
                | none =>
                  rw [hZ] at PC'
                  replace PC' := Lib.hid PC'
                  have X := Lib.hid (show ∀ j (hj : j < L.length), j < m + 1 → circZ L L[k].fr L[j].place = none from fun j hj h1 => by
                    rcases Nat.lt_or_ge j m with h2 | h2
                    · exact hin.out j hj h2
                    · obtain rfl : j = m := by omega
                      exact hZ)
                  clear hZ
                  go_wp2_with fail
                  refine wp_region_plan [(0, true), (1, true), (2, true), (3, true), (4, true), (5, true), (6, true), (7, true), (8, true), (9, true), (10, true), (11, true), (12, false), (13, true), (14, true), (15, true), (16, true), (17, true)] (C := LaterC _) (by kernel_rfl) (by kernel_rfl) (by kernel_rfl) rfl (fun _ _ d _ _ h => by cases d <;> exact h) (LaterC.mk ((Below.refl _ _).drew)) ?_
                  first | (refine plan_quiet nth0 rfl ?_; intro KP hKP; go_big_quiet_op; go_big_quiet_on) | (refine plan_skip_q nth0 rfl rfl ?_; simp only [Act.put, List.setIfInBounds_toArray, List.set_cons_zero, List.set_cons_succ])
                  first | (refine plan_quiet nth1 rfl ?_; intro KP hKP; go_big_quiet_op; go_big_quiet_on) | (refine plan_skip_q nth1 rfl rfl ?_; simp only [Act.put, List.setIfInBounds_toArray, List.set_cons_zero, List.set_cons_succ])
                  first | (refine plan_quiet nth2 rfl ?_; intro KP hKP; go_big_quiet_op; go_big_quiet_on) | (refine plan_skip_q nth2 rfl rfl ?_; simp only [Act.put, List.setIfInBounds_toArray, List.set_cons_zero, List.set_cons_succ])
                  first | (refine plan_quiet nth3 rfl ?_; intro KP hKP; go_big_quiet_op; go_big_quiet_on) | (refine plan_skip_q nth3 rfl rfl ?_; simp only [Act.put, List.setIfInBounds_toArray, List.set_cons_zero, List.set_cons_succ])
                  first | (refine plan_quiet nth4 rfl ?_; intro KP hKP; go_big_quiet_op; go_big_quiet_on) | (refine plan_skip_q nth4 rfl rfl ?_; simp only [Act.put, List.setIfInBounds_toArray, List.set_cons_zero, List.set_cons_succ])
                  first | (refine plan_quiet nth5 rfl ?_; intro KP hKP; go_big_quiet_op; go_big_quiet_on) | (refine plan_skip_q nth5 rfl rfl ?_; simp only [Act.put, List.setIfInBounds_toArray, List.set_cons_zero, List.set_cons_succ])
                  first | (refine plan_quiet nth6 rfl ?_; intro KP hKP; go_big_quiet_op; go_big_quiet_on) | (refine plan_skip_q nth6 rfl rfl ?_; simp only [Act.put, List.setIfInBounds_toArray, List.set_cons_zero, List.set_cons_succ])
                  first | (refine plan_quiet nth7 rfl ?_; intro KP hKP; go_big_quiet_op; go_big_quiet_on) | (refine plan_skip_q nth7 rfl rfl ?_; simp only [Act.put, List.setIfInBounds_toArray, List.set_cons_zero, List.set_cons_succ])
                  first | (refine plan_quiet nth8 rfl ?_; intro KP hKP; go_big_quiet_op; go_big_quiet_on) | (refine plan_skip_q nth8 rfl rfl ?_; simp only [Act.put, List.setIfInBounds_toArray, List.set_cons_zero, List.set_cons_succ])
                  first | (refine plan_quiet nth9 rfl ?_; intro KP hKP; go_big_quiet_op; go_big_quiet_on) | (refine plan_skip_q nth9 rfl rfl ?_; simp only [Act.put, List.setIfInBounds_toArray, List.set_cons_zero, List.set_cons_succ])
                  first | (refine plan_quiet nth10 rfl ?_; intro KP hKP; go_big_quiet_op; go_big_quiet_on) | (refine plan_skip_q nth10 rfl rfl ?_; simp only [Act.put, List.setIfInBounds_toArray, List.set_cons_zero, List.set_cons_succ])
                  first | (refine plan_quiet nth11 rfl ?_; intro KP hKP; go_big_quiet_op; go_big_quiet_on) | (refine plan_skip_q nth11 rfl rfl ?_; simp only [Act.put, List.setIfInBounds_toArray, List.set_cons_zero, List.set_cons_succ])
                  first | (refine plan_loud nth12 rfl ?_; intro KP hKP; go_wp2_with (first | (go_at_call 100; (with_reducible refine (PC'.out _ (hr.out.bel (by (repeat (first | (with_reducible exact Below.refl _ _) | (with_reducible assumption) | (with_reducible refine Later.out _ ?_) | (with_reducible refine bel_alloc ?_ _) | (with_reducible refine bel_drew ?_) | (with_reducible refine bel_drewN ?_ _) | (with_reducible refine bel_set ?_ ?_ _) | (with_reducible refine After.out _ ?_ ?_) | (dsimp only; omega) | omega | (simp only [World.size_alloc, World.size_setCell, World.size_drew]; omega)))))).mono ?_); rintro e w' ⟨a7, n7, c7, r7, rfl, -, -, -, xl, rfl⟩; have hsz := xl.bel.size; (try simp only [World.size_alloc, World.size_setCell, World.size_drew] at hsz); (try have hz0 : w.heap.size < xl.w.heap.size := (by omega)); (try have hz1 : w.heap.size + 1 < xl.w.heap.size := (by omega)); (try have hz2 : w.heap.size + 1 + 1 < xl.w.heap.size := (by omega)))); refine hKP _ _ (LaterC.mk (by (repeat (first | (with_reducible exact Below.refl _ _) | (with_reducible assumption) | (with_reducible refine Later.out _ ?_) | (with_reducible refine bel_alloc ?_ _) | (with_reducible refine bel_drew ?_) | (with_reducible refine bel_drewN ?_ _) | (with_reducible refine bel_set ?_ ?_ _) | (with_reducible refine After.out _ ?_ ?_) | (dsimp only; omega) | omega | (simp only [World.size_alloc, World.size_setCell, World.size_drew]; omega))))) ?_; clear hKP KP) | (refine plan_skip nth12 rfl rfl (LaterC.mk (by (repeat (first | (with_reducible exact Below.refl _ _) | (with_reducible assumption) | (with_reducible refine Later.out _ ?_) | (with_reducible refine bel_alloc ?_ _) | (with_reducible refine bel_drew ?_) | (with_reducible refine bel_drewN ?_ _) | (with_reducible refine bel_set ?_ ?_ _) | (with_reducible refine After.out _ ?_ ?_) | (dsimp only; omega) | omega | (simp only [World.size_alloc, World.size_setCell, World.size_drew]; omega))))) ?_; simp only [Act.put, List.setIfInBounds_toArray, List.set_cons_zero, List.set_cons_succ])
                  first | (refine plan_quiet nth13 rfl ?_; intro KP hKP; go_big_quiet_op; go_big_quiet_on) | (refine plan_skip_q nth13 rfl rfl ?_; simp only [Act.put, List.setIfInBounds_toArray, List.set_cons_zero, List.set_cons_succ])
                  first | (refine plan_quiet nth14 rfl ?_; intro KP hKP; go_big_quiet_op; go_big_quiet_on) | (refine plan_skip_q nth14 rfl rfl ?_; simp only [Act.put, List.setIfInBounds_toArray, List.set_cons_zero, List.set_cons_succ])
                  first | (refine plan_quiet nth15 rfl ?_; intro KP hKP; go_big_quiet_op; go_big_quiet_on) | (refine plan_skip_q nth15 rfl rfl ?_; simp only [Act.put, List.setIfInBounds_toArray, List.set_cons_zero, List.set_cons_succ])
                  first | (refine plan_quiet nth16 rfl ?_; intro KP hKP; go_big_quiet_op; go_big_quiet_on) | (refine plan_skip_q nth16 rfl rfl ?_; simp only [Act.put, List.setIfInBounds_toArray, List.set_cons_zero, List.set_cons_succ])
                  first | (refine plan_quiet nth17 rfl ?_; intro KP hKP; go_big_quiet_op; go_big_quiet_on) | (refine plan_skip_q nth17 rfl rfl ?_; simp only [Act.put, List.setIfInBounds_toArray, List.set_cons_zero, List.set_cons_succ])
                  refine plan_nil ?_
                  go_wp2_with fail
                  go_roundw
                  case rel => exact ⟨m + 1, by omega, by go_num, X.out, LaterC.mk (by (repeat (first | (with_reducible exact Below.refl _ _) | (with_reducible assumption) | (with_reducible refine Later.out _ ?_) | (with_reducible refine bel_alloc ?_ _) | (with_reducible refine bel_drew ?_) | (with_reducible refine bel_drewN ?_ _) | (with_reducible refine bel_set ?_ ?_ _) | (with_reducible refine After.out _ ?_ ?_) | (dsimp only; omega) | omega | (simp only [World.size_alloc, World.size_setCell, World.size_drew]; omega))))⟩
                  case measure => first | (simp [intOf]; done) | (simp [intOf]; omega) | omega
                | some r =>
                  rw [hZ] at PC'
                  replace PC' := Lib.hid PC'
                  have X := Lib.hid (show consB L = false from bof_false fun h => by
                    have := h.2 L[k] (List.getElem_mem hlt) E1.out L[m] (List.getElem_mem hlt2)
                    rw [hZ] at this; cases this)
                  clear hZ
                  go_wp2_with fail
                  refine wp_region_plan [(0, true), (1, true), (2, true), (3, true), (4, true), (5, true), (6, true), (7, true), (8, true), (9, true), (10, true), (11, true), (12, false), (13, true), (14, true), (15, true), (16, true), (17, true)] (C := LaterC _) (by kernel_rfl) (by kernel_rfl) (by kernel_rfl) rfl (fun _ _ d _ _ h => by cases d <;> exact h) (LaterC.mk ((Below.refl _ _).drew)) ?_
                  first | (refine plan_quiet nth0 rfl ?_; intro KP hKP; go_big_quiet_op; go_big_quiet_on) | (refine plan_skip_q nth0 rfl rfl ?_; simp only [Act.put, List.setIfInBounds_toArray, List.set_cons_zero, List.set_cons_succ])
                  first | (refine plan_quiet nth1 rfl ?_; intro KP hKP; go_big_quiet_op; go_big_quiet_on) | (refine plan_skip_q nth1 rfl rfl ?_; simp only [Act.put, List.setIfInBounds_toArray, List.set_cons_zero, List.set_cons_succ])
                  first | (refine plan_quiet nth2 rfl ?_; intro KP hKP; go_big_quiet_op; go_big_quiet_on) | (refine plan_skip_q nth2 rfl rfl ?_; simp only [Act.put, List.setIfInBounds_toArray, List.set_cons_zero, List.set_cons_succ])
                  first | (refine plan_quiet nth3 rfl ?_; intro KP hKP; go_big_quiet_op; go_big_quiet_on) | (refine plan_skip_q nth3 rfl rfl ?_; simp only [Act.put, List.setIfInBounds_toArray, List.set_cons_zero, List.set_cons_succ])
                  first | (refine plan_quiet nth4 rfl ?_; intro KP hKP; go_big_quiet_op; go_big_quiet_on) | (refine plan_skip_q nth4 rfl rfl ?_; simp only [Act.put, List.setIfInBounds_toArray, List.set_cons_zero, List.set_cons_succ])
                  first | (refine plan_quiet nth5 rfl ?_; intro KP hKP; go_big_quiet_op; go_big_quiet_on) | (refine plan_skip_q nth5 rfl rfl ?_; simp only [Act.put, List.setIfInBounds_toArray, List.set_cons_zero, List.set_cons_succ])
                  first | (refine plan_quiet nth6 rfl ?_; intro KP hKP; go_big_quiet_op; go_big_quiet_on) | (refine plan_skip_q nth6 rfl rfl ?_; simp only [Act.put, List.setIfInBounds_toArray, List.set_cons_zero, List.set_cons_succ])
                  first | (refine plan_quiet nth7 rfl ?_; intro KP hKP; go_big_quiet_op; go_big_quiet_on) | (refine plan_skip_q nth7 rfl rfl ?_; simp only [Act.put, List.setIfInBounds_toArray, List.set_cons_zero, List.set_cons_succ])
                  first | (refine plan_quiet nth8 rfl ?_; intro KP hKP; go_big_quiet_op; go_big_quiet_on) | (refine plan_skip_q nth8 rfl rfl ?_; simp only [Act.put, List.setIfInBounds_toArray, List.set_cons_zero, List.set_cons_succ])
                  first | (refine plan_quiet nth9 rfl ?_; intro KP hKP; go_big_quiet_op; go_big_quiet_on) | (refine plan_skip_q nth9 rfl rfl ?_; simp only [Act.put, List.setIfInBounds_toArray, List.set_cons_zero, List.set_cons_succ])
                  first | (refine plan_quiet nth10 rfl ?_; intro KP hKP; go_big_quiet_op; go_big_quiet_on) | (refine plan_skip_q nth10 rfl rfl ?_; simp only [Act.put, List.setIfInBounds_toArray, List.set_cons_zero, List.set_cons_succ])
                  first | (refine plan_quiet nth11 rfl ?_; intro KP hKP; go_big_quiet_op; go_big_quiet_on) | (refine plan_skip_q nth11 rfl rfl ?_; simp only [Act.put, List.setIfInBounds_toArray, List.set_cons_zero, List.set_cons_succ])
                  first | (refine plan_loud nth12 rfl ?_; intro KP hKP; go_wp2_with (first | (go_at_call 100; (with_reducible refine (PC'.out _ (hr.out.bel (by (repeat (first | (with_reducible exact Below.refl _ _) | (with_reducible assumption) | (with_reducible refine Later.out _ ?_) | (with_reducible refine bel_alloc ?_ _) | (with_reducible refine bel_drew ?_) | (with_reducible refine bel_drewN ?_ _) | (with_reducible refine bel_set ?_ ?_ _) | (with_reducible refine After.out _ ?_ ?_) | (dsimp only; omega) | omega | (simp only [World.size_alloc, World.size_setCell, World.size_drew]; omega)))))).mono ?_); rintro e w' ⟨a7, n7, c7, r7, rfl, -, -, -, xl, rfl⟩; have hsz := xl.bel.size; (try simp only [World.size_alloc, World.size_setCell, World.size_drew] at hsz); (try have hz0 : w.heap.size < xl.w.heap.size := (by omega)); (try have hz1 : w.heap.size + 1 < xl.w.heap.size := (by omega)); (try have hz2 : w.heap.size + 1 + 1 < xl.w.heap.size := (by omega)))); refine hKP _ _ (LaterC.mk (by (repeat (first | (with_reducible exact Below.refl _ _) | (with_reducible assumption) | (with_reducible refine Later.out _ ?_) | (with_reducible refine bel_alloc ?_ _) | (with_reducible refine bel_drew ?_) | (with_reducible refine bel_drewN ?_ _) | (with_reducible refine bel_set ?_ ?_ _) | (with_reducible refine After.out _ ?_ ?_) | (dsimp only; omega) | omega | (simp only [World.size_alloc, World.size_setCell, World.size_drew]; omega))))) ?_; clear hKP KP) | (refine plan_skip nth12 rfl rfl (LaterC.mk (by (repeat (first | (with_reducible exact Below.refl _ _) | (with_reducible assumption) | (with_reducible refine Later.out _ ?_) | (with_reducible refine bel_alloc ?_ _) | (with_reducible refine bel_drew ?_) | (with_reducible refine bel_drewN ?_ _) | (with_reducible refine bel_set ?_ ?_ _) | (with_reducible refine After.out _ ?_ ?_) | (dsimp only; omega) | omega | (simp only [World.size_alloc, World.size_setCell, World.size_drew]; omega))))) ?_; simp only [Act.put, List.setIfInBounds_toArray, List.set_cons_zero, List.set_cons_succ])
                  first | (refine plan_quiet nth13 rfl ?_; intro KP hKP; go_big_quiet_op; go_big_quiet_on) | (refine plan_skip_q nth13 rfl rfl ?_; simp only [Act.put, List.setIfInBounds_toArray, List.set_cons_zero, List.set_cons_succ])
                  first | (refine plan_quiet nth14 rfl ?_; intro KP hKP; go_big_quiet_op; go_big_quiet_on) | (refine plan_skip_q nth14 rfl rfl ?_; simp only [Act.put, List.setIfInBounds_toArray, List.set_cons_zero, List.set_cons_succ])
                  first | (refine plan_quiet nth15 rfl ?_; intro KP hKP; go_big_quiet_op; go_big_quiet_on) | (refine plan_skip_q nth15 rfl rfl ?_; simp only [Act.put, List.setIfInBounds_toArray, List.set_cons_zero, List.set_cons_succ])
                  first | (refine plan_quiet nth16 rfl ?_; intro KP hKP; go_big_quiet_op; go_big_quiet_on) | (refine plan_skip_q nth16 rfl rfl ?_; simp only [Act.put, List.setIfInBounds_toArray, List.set_cons_zero, List.set_cons_succ])
                  first | (refine plan_quiet nth17 rfl ?_; intro KP hKP; go_big_quiet_op; go_big_quiet_on) | (refine plan_skip_q nth17 rfl rfl ?_; simp only [Act.put, List.setIfInBounds_toArray, List.set_cons_zero, List.set_cons_succ])
                  refine plan_nil ?_
                  go_wp2_with fail
                  go_ret
                  exact .mk (by rw [X.out]; rfl) (by (repeat (first | (with_reducible exact Below.refl _ _) | (with_reducible assumption) | (with_reducible refine Later.out _ ?_) | (with_reducible refine bel_alloc ?_ _) | (with_reducible refine bel_drew ?_) | (with_reducible refine bel_drewN ?_ _) | (with_reducible refine bel_set ?_ ?_ _) | (with_reducible refine After.out _ ?_ ?_) | (dsimp only; omega) | omega | (simp only [World.size_alloc, World.size_setCell, World.size_drew]; omega))))
              · obtain rfl : m = L.length := by omega
                have X := Lib.hid (show ∀ j (hj : j < L.length), j < k + 1 → L[j].kind = 1 → ∀ d ∈ L, circZ L L[j].fr d.place = none from fun j hj h1 hk1 d hd => by
                  rcases Nat.lt_or_ge j k with h2 | h2
                  · exact hall.out j hj h2 hk1 d hd
                  · obtain rfl : j = k := by omega
                    obtain ⟨i, hi, rfl⟩ := List.mem_iff_getElem.1 hd
                    exact hin.out i hi hi)
                go_wp2_with fail
                go_roundw
                case rel => exact ⟨k + 1, by omega, by go_num, X.out, LaterC.mk (by (repeat (first | (with_reducible exact Below.refl _ _) | (with_reducible assumption) | (with_reducible refine Later.out _ ?_) | (with_reducible refine bel_alloc ?_ _) | (with_reducible refine bel_drew ?_) | (with_reducible refine bel_drewN ?_ _) | (with_reducible refine bel_set ?_ ?_ _) | (with_reducible refine After.out _ ?_ ?_) | (dsimp only; omega) | omega | (simp only [World.size_alloc, World.size_setCell, World.size_drew]; omega))))⟩
                case measure => first | (simp [intOf]; done) | (simp [intOf]; omega) | omega
          · have k1 : (L[k].kind == 1) = false := by simp [e1]
            have X := Lib.hid (show ∀ j (hj : j < L.length), j < k + 1 → L[j].kind = 1 → ∀ d ∈ L, circZ L L[j].fr d.place = none from fun j hj h1 hk1 d hd => by
              rcases Nat.lt_or_ge j k with h2 | h2
              · exact hall.out j hj h2 hk1 d hd
              · obtain rfl : j = k := by omega
                exact absurd hk1 e1)
            clear e1
            go_wp2_with fail
            go_loopw [6] (fun i wr => i = .int .i64 0 ∧ ∃ z2 : Later w, wr = z2.w) (fun i _ => 1)
            case atStart => exact ⟨rfl, LaterC.mk (by (repeat (first | (with_reducible exact Below.refl _ _) | (with_reducible assumption) | (with_reducible refine Later.out _ ?_) | (with_reducible refine bel_alloc ?_ _) | (with_reducible refine bel_drew ?_) | (with_reducible refine bel_drewN ?_ _) | (with_reducible refine bel_set ?_ ?_ _) | (with_reducible refine After.out _ ?_ ?_) | (dsimp only; omega) | omega | (simp only [World.size_alloc, World.size_setCell, World.size_drew]; omega))))⟩
            case round =>
              obtain ⟨rfl, z2, rfl⟩ := hrel
              have hz2 := z2.bel.size
              have hpos : (0 : Int) < (L.length : Int) := by omega
              go_wp2_with fail
              go_roundw
              case rel => exact ⟨k + 1, by omega, by go_num, X.out, LaterC.mk (by (repeat (first | (with_reducible exact Below.refl _ _) | (with_reducible assumption) | (with_reducible refine Later.out _ ?_) | (with_reducible refine bel_alloc ?_ _) | (with_reducible refine bel_drew ?_) | (with_reducible refine bel_drewN ?_ _) | (with_reducible refine bel_set ?_ ?_ _) | (with_reducible refine After.out _ ?_ ?_) | (dsimp only; omega) | omega | (simp only [World.size_alloc, World.size_setCell, World.size_drew]; omega))))⟩
              case measure => first | (simp [intOf]; done) | (simp [intOf]; omega) | omega
        · obtain rfl : k = L.length := by omega
          have X := Lib.hid (show consB L = true from bof_true ⟨hnp.out, fun c hc hk d hd => by
            obtain ⟨j, hj, rfl⟩ := List.mem_iff_getElem.1 hc
            exact hall.out j hj hj hk d hd⟩)
          go_wp2_with fail
          go_ret
          exact .mk (by rw [X.out]; rfl) (by (repeat (first | (with_reducible exact Below.refl _ _) | (with_reducible assumption) | (with_reducible refine Later.out _ ?_) | (with_reducible refine bel_alloc ?_ _) | (with_reducible refine bel_drew ?_) | (with_reducible refine bel_drewN ?_ _) | (with_reducible refine bel_set ?_ ?_ _) | (with_reducible refine After.out _ ?_ ?_) | (dsimp only; omega) | omega | (simp only [World.size_alloc, World.size_setCell, World.size_drew]; omega))))
theorem sCons_b {L : List Clm} {a : Option Addr} {n c : Nat} {w : World} {b : Bool} (hn : L.length = n) (hm : n ≤ 1048576) (hr : Row w a (clmsCells L)) (hv : Named L) (h : consB L = b) :
    Calls Tryz.prog 60 #[.slice a n c] w (Ret w (.bool b)) := by subst h; exact sCons_any L a n c w hn hm hr hv
end Go.Proofs.YtcpddgkloeklaaaGreatDoor

import Derived.Test.YtpblghjegbfjeaaMaskV
/- Unions, meetings and differences of two masks by the reference. -/
set_option linter.unusedSimpArgs false
set_option linter.unusedVariables false
namespace Go.Proofs.Ytpblghjegbfjeaa
open Go.RowKit

set_option maxHeartbeats 1000000 in
theorem or_spec (x y W H x' y' W' H' : Int) (l l' : List Bool) (a a' : Option Addr) (n n' c c' : Nat) (w : World) (X Y X2 Y2 code : Int) (L : List Bool) (hR0 : comb x y W H x' y' W' H' l l' op_or = ((X, Y, X2, Y2, code), L)) (hn : l.length = n) (hn' : l'.length = n') (hm : n ≤ 1048576) (hm' : n' ≤ 1048576) (hr : Row w a (boolCells l)) (hr' : Row w a' (boolCells l')) :
    Calls Try.prog 20 #[.agg #[.int .i64 x, .int .i64 y, .int .i64 W, .int .i64 H, .slice a n c], .agg #[.int .i64 x', .int .i64 y', .int .i64 W', .int .i64 H', .slice a' n' c']] w (RetOwn w 4 1 L.length (boolCells L) fun v => .tuple #[.agg #[.int .i64 X, .int .i64 Y, .int .i64 X2, .int .i64 Y2, v], .int .i64 code]) := by
  subst hn hn'
  have hR : (if twoCode x y W H x' y' W' H' l.length l'.length = 0 then ((x, y, W, H, (0 : Int)), joinL op_or l l') else ((0, 0, 0, 0, twoCode x y W H x' y' W' H' l.length l'.length), [])) = ((X, Y, X2, Y2, code), L) := hR0
  clear hR0
  have hr := Lib.hid hr
  have hr' := Lib.hid hr'
  have TW := fun a c a' c' w => two_any x y W H x' y' W' H' a a' l.length l'.length c c' w
  have hcs : twoCode x y W H x' y' W' H' l.length l'.length = 1 ∨ twoCode x y W H x' y' W' H' l.length l'.length = 5 ∨ (twoCode x y W H x' y' W' H' l.length l'.length = 0 ∧ isMaskB x y W H l.length = true ∧ isMaskB x' y' W' H' l'.length = true ∧ fitsB x y W H x' y' W' H' = true) := by
    unfold twoCode
    cases isMaskB x y W H l.length <;> cases isMaskB x' y' W' H' l'.length <;> cases fitsB x y W H x' y' W' H' <;> simp
  rcases hcs with h0 | h0 | ⟨h0, h1, h2, h3⟩
  · rw [h0] at hR TW
    rw [if_neg (by decide)] at hR
    simp only [Prod.mk.injEq] at hR
    obtain ⟨⟨rfl, rfl, rfl, rfl, rfl⟩, rfl⟩ := hR
    have TW := Lib.hid TW
    clear h0
    go_enter Try.func20, Try.ntmps20
    go_wp2_with (first | (go_at_call 65; first | ((with_reducible refine (Calls.later (TW.out _ _ _ _ _)).mono ?_); rintro e w' ⟨rfl, xl, rfl⟩; have hsz := xl.bel.size; (try simp only [World.size_alloc, World.size_setCell, World.size_drew] at hsz); (try have hz0 : w.heap.size < xl.w.heap.size := (by omega)); (try have hz1 : w.heap.size + 1 < xl.w.heap.size := (by omega)); (try have hz2 : w.heap.size + 1 + 1 < xl.w.heap.size := (by omega))) | ((with_reducible refine (TW.out _ _ _ _ _).mono ?_); rintro e w' ⟨rfl, xl, rfl⟩; have hsz := xl.bel.size; (try simp only [World.size_alloc, World.size_setCell, World.size_drew] at hsz); (try have hz0 : w.heap.size < xl.w.heap.size := (by omega)); (try have hz1 : w.heap.size + 1 < xl.w.heap.size := (by omega)); (try have hz2 : w.heap.size + 1 + 1 < xl.w.heap.size := (by omega)))))
    refine bodyPost_ret (by simp [results, Try.results20, go_sem, ↓IntWalk.iteOmega, *]; try rfl) rfl ?_
    refine RetOwn.mk (.slice none 0 0) rfl (World.ownsRow_nil _ _ _ _) ?_
    (repeat (first | (with_reducible exact Below.refl _ _) | (with_reducible assumption) | (with_reducible refine Later.out _ ?_) | (with_reducible refine bel_alloc ?_ _) | (with_reducible refine bel_drew ?_) | (with_reducible refine bel_drewN ?_ _) | (with_reducible refine bel_set ?_ ?_ _) | (with_reducible refine After.out _ ?_ ?_) | (dsimp only; omega) | omega | (simp only [World.size_alloc, World.size_setCell, World.size_drew]; omega)))
  · rw [h0] at hR TW
    rw [if_neg (by decide)] at hR
    simp only [Prod.mk.injEq] at hR
    obtain ⟨⟨rfl, rfl, rfl, rfl, rfl⟩, rfl⟩ := hR
    have TW := Lib.hid TW
    clear h0
    go_enter Try.func20, Try.ntmps20
    go_wp2_with (first | (go_at_call 65; first | ((with_reducible refine (Calls.later (TW.out _ _ _ _ _)).mono ?_); rintro e w' ⟨rfl, xl, rfl⟩; have hsz := xl.bel.size; (try simp only [World.size_alloc, World.size_setCell, World.size_drew] at hsz); (try have hz0 : w.heap.size < xl.w.heap.size := (by omega)); (try have hz1 : w.heap.size + 1 < xl.w.heap.size := (by omega)); (try have hz2 : w.heap.size + 1 + 1 < xl.w.heap.size := (by omega))) | ((with_reducible refine (TW.out _ _ _ _ _).mono ?_); rintro e w' ⟨rfl, xl, rfl⟩; have hsz := xl.bel.size; (try simp only [World.size_alloc, World.size_setCell, World.size_drew] at hsz); (try have hz0 : w.heap.size < xl.w.heap.size := (by omega)); (try have hz1 : w.heap.size + 1 < xl.w.heap.size := (by omega)); (try have hz2 : w.heap.size + 1 + 1 < xl.w.heap.size := (by omega)))))
    refine bodyPost_ret (by simp [results, Try.results20, go_sem, ↓IntWalk.iteOmega, *]; try rfl) rfl ?_
    refine RetOwn.mk (.slice none 0 0) rfl (World.ownsRow_nil _ _ _ _) ?_
    (repeat (first | (with_reducible exact Below.refl _ _) | (with_reducible assumption) | (with_reducible refine Later.out _ ?_) | (with_reducible refine bel_alloc ?_ _) | (with_reducible refine bel_drew ?_) | (with_reducible refine bel_drewN ?_ _) | (with_reducible refine bel_set ?_ ?_ _) | (with_reducible refine After.out _ ?_ ?_) | (dsimp only; omega) | omega | (simp only [World.size_alloc, World.size_setCell, World.size_drew]; omega)))
  rw [h0] at hR TW
  rw [if_pos rfl] at hR
  obtain ⟨e1, p1, q1⟩ := mask_len h1
  obtain ⟨e2, p2, q2⟩ := mask_len h2
  obtain ⟨rfl, rfl, rfl, rfl⟩ := fits_eq h3
  have hll : l.length = l'.length := by omega
  simp only [Prod.mk.injEq] at hR
  obtain ⟨⟨rfl, rfl, rfl, rfl, rfl⟩, rfl⟩ := hR
  have TW := Lib.hid TW
  have HL := Lib.hid hll
  have HJ := Lib.hid (length_joinL op_or l l' hll)
  have e1 := Lib.hid e1.symm
  clear h0 h1 h2 h3 e2 hll
  go_enter Try.func20, Try.ntmps20
  go_wp2_with (first | (go_at_call 65; first | ((with_reducible refine (Calls.later (TW.out _ _ _ _ _)).mono ?_); rintro e w' ⟨rfl, xl, rfl⟩; have hsz := xl.bel.size; (try simp only [World.size_alloc, World.size_setCell, World.size_drew] at hsz); (try have hz0 : w.heap.size < xl.w.heap.size := (by omega)); (try have hz1 : w.heap.size + 1 < xl.w.heap.size := (by omega)); (try have hz2 : w.heap.size + 1 + 1 < xl.w.heap.size := (by omega))) | ((with_reducible refine (TW.out _ _ _ _ _).mono ?_); rintro e w' ⟨rfl, xl, rfl⟩; have hsz := xl.bel.size; (try simp only [World.size_alloc, World.size_setCell, World.size_drew] at hsz); (try have hz0 : w.heap.size < xl.w.heap.size := (by omega)); (try have hz1 : w.heap.size + 1 < xl.w.heap.size := (by omega)); (try have hz2 : w.heap.size + 1 + 1 < xl.w.heap.size := (by omega)))) | (go_at_call 66; refine (sEmpty_any x y W H a l.length l.length c _ e1.out hm).mono ?_; rintro e w' ⟨a1, c1, rfl, hown, xl, rfl⟩; have HO := Lib.hid (Owns.of hown); clear hown; have hsz := xl.bel.size; (try simp only [World.size_alloc, World.size_setCell, World.size_drew] at hsz); (try have hz0 : w.heap.size < xl.w.heap.size := (by omega)); (try have hz1 : w.heap.size + 1 < xl.w.heap.size := (by omega)); (try have hz2 : w.heap.size + 1 + 1 < xl.w.heap.size := (by omega))))
  obtain ⟨g, rfl, g1, g2, -, -⟩ := HO.out.at_ (j := 0) (by omega)
  (try simp only [World.size_alloc] at g1)
  go_loopw [8, 21] (fun i j wr => ∃ k : Nat, k ≤ l.length ∧ j = .int .i64 k ∧ Between g (g + 1) (xl.w.alloc (.cells #[.int .i64 x, .int .i64 y, .int .i64 W, .int .i64 H, .slice (some ⟨g, 0, none⟩) l.length c1] 31)) wr ∧ Owns wr g (g + 1) 4 1 l.length (some ⟨g, 0, none⟩) c1 (fillPart (joinL op_or l l') l.length k)) (fun _ j _ => l.length - (intOf j).toNat)
  case atStart =>
    refine ⟨0, Nat.zero_le _, rfl, Between.refl _ _ _, ?_⟩
    rw [fillPart_zero]
    exact ⟨(World.ownsRow.alloc (own_lift HO.out.own) _), fun p hp => by injection hp with hp; subst hp; simp⟩
  case round =>
    obtain ⟨k, hk, rfl, hb, ho⟩ := hrel
    obtain ⟨z, rfl⟩ := AfterC.mk hb
    clear hb
    have hzs := z.btw.size
    (try simp only [World.size_alloc] at hzs)
    by_cases hlt : k < l.length
    · have hc := ho.own.cellAt k (by omega)
      rw [fillPart_old _ _ _ HJ.out hlt] at hc
      have hf := ho.own.frozenAt k
      have hk2 : k < l'.length := by have := HL.out; omega
      have hst := Lib.hid (fillPart_step (joinL op_or l l') l.length k _ HJ.out (joinL_get op_or l l' k hlt hk2))
      have HP := Lib.hid ho
      have i1 : (k : Int) < (l.length : Int) := by omega
      have i2 : (k : Int) < (l'.length : Int) := by omega
      obtain ⟨b3, o3, rfl, hc3⟩ := hr.out k _ (boolCells_get hlt)
      obtain ⟨b4, o4, rfl, hc4⟩ := hr'.out k _ (boolCells_get hk2)
      have q3 : b3 < w.heap.size := World.block_lt_of_cell? w _ hc3
      have q4 : b4 < w.heap.size := World.block_lt_of_cell? w _ hc4
      have bz : Below w.heap.size w z.w := by (repeat (first | (with_reducible exact Below.refl _ _) | (with_reducible assumption) | (with_reducible refine Later.out _ ?_) | (with_reducible refine bel_alloc ?_ _) | (with_reducible refine bel_drew ?_) | (with_reducible refine bel_drewN ?_ _) | (with_reducible refine bel_set ?_ ?_ _) | (with_reducible refine After.out _ ?_ ?_) | (dsimp only; omega) | omega | (simp only [World.size_alloc, World.size_setCell, World.size_drew]; omega)))
      have hd3 := (bz.cell (p := ⟨b3, o3 + k, none⟩) q3).trans hc3
      have hd4 := (bz.cell (p := ⟨b4, o4 + k, none⟩) q4).trans hc4
      clear ho bz hc3 hc4
      cases hv : l[k]
      all_goals
        have HV := Lib.hid hv
        rw [hv] at hd3
        clear hv
        go_wp2
        refine wp_region_plan [(0, true), (1, true), (2, true), (3, true), (4, true), (5, true), (6, true), (7, true), (8, true), (9, true), (10, true), (11, true), (12, true), (13, true), (14, true), (15, true), (16, false)] (C := AfterC g (g + 1) _) (by kernel_rfl) (by kernel_rfl) (by kernel_rfl) rfl (fun _ _ d _ _ h => by cases d <;> exact h) (AfterC.mk ((Between.refl _ _ _).drew)) ?_
        first | (refine plan_quiet nth0 rfl ?_; intro KP hKP; go_big_quiet_op; go_big_quiet_on) | (refine plan_skip_q nth0 rfl rfl ?_; simp only [Act.put, List.setIfInBounds_toArray, List.set_cons_zero, List.set_cons_succ])
        first | (refine plan_quiet nth1 rfl ?_; intro KP hKP; go_big_quiet_op; go_big_quiet_on) | (refine plan_skip_q nth1 rfl rfl ?_; simp only [Act.put, List.setIfInBounds_toArray, List.set_cons_zero, List.set_cons_succ])
        first | (refine plan_quiet nth2 rfl ?_; intro KP hKP; go_big_quiet_op; go_big_quiet_on) | (refine plan_skip_q nth2 rfl rfl ?_; simp only [Act.put, List.setIfInBounds_toArray, List.set_cons_zero, List.set_cons_succ])
        first | (refine plan_quiet nth3 rfl ?_; intro KP hKP; go_big_quiet_op; go_big_quiet_on) | (refine plan_skip_q nth3 rfl rfl ?_; simp only [Act.put, List.setIfInBounds_toArray, List.set_cons_zero, List.set_cons_succ])
        first | (refine plan_quiet nth4 rfl ?_; intro KP hKP; go_big_quiet_op; go_big_quiet_on) | (refine plan_skip_q nth4 rfl rfl ?_; simp only [Act.put, List.setIfInBounds_toArray, List.set_cons_zero, List.set_cons_succ])
        first | (refine plan_quiet nth5 rfl ?_; intro KP hKP; go_big_quiet_op; go_big_quiet_on) | (refine plan_skip_q nth5 rfl rfl ?_; simp only [Act.put, List.setIfInBounds_toArray, List.set_cons_zero, List.set_cons_succ])
        first | (refine plan_quiet nth6 rfl ?_; intro KP hKP; go_big_quiet_op; go_big_quiet_on) | (refine plan_skip_q nth6 rfl rfl ?_; simp only [Act.put, List.setIfInBounds_toArray, List.set_cons_zero, List.set_cons_succ])
        first | (refine plan_quiet nth7 rfl ?_; intro KP hKP; go_big_quiet_op; go_big_quiet_on) | (refine plan_skip_q nth7 rfl rfl ?_; simp only [Act.put, List.setIfInBounds_toArray, List.set_cons_zero, List.set_cons_succ])
        first | (refine plan_quiet nth8 rfl ?_; intro KP hKP; go_big_quiet_op; go_big_quiet_on) | (refine plan_skip_q nth8 rfl rfl ?_; simp only [Act.put, List.setIfInBounds_toArray, List.set_cons_zero, List.set_cons_succ])
        first | (refine plan_quiet nth9 rfl ?_; intro KP hKP; go_big_quiet_op; go_big_quiet_on) | (refine plan_skip_q nth9 rfl rfl ?_; simp only [Act.put, List.setIfInBounds_toArray, List.set_cons_zero, List.set_cons_succ])
        first | (refine plan_quiet nth10 rfl ?_; intro KP hKP; go_big_quiet_op; go_big_quiet_on) | (refine plan_skip_q nth10 rfl rfl ?_; simp only [Act.put, List.setIfInBounds_toArray, List.set_cons_zero, List.set_cons_succ])
        first | (refine plan_quiet nth11 rfl ?_; intro KP hKP; go_big_quiet_op; go_big_quiet_on) | (refine plan_skip_q nth11 rfl rfl ?_; simp only [Act.put, List.setIfInBounds_toArray, List.set_cons_zero, List.set_cons_succ])
        first | (refine plan_quiet nth12 rfl ?_; intro KP hKP; go_big_quiet_op; go_big_quiet_on) | (refine plan_skip_q nth12 rfl rfl ?_; simp only [Act.put, List.setIfInBounds_toArray, List.set_cons_zero, List.set_cons_succ])
        first | (refine plan_quiet nth13 rfl ?_; intro KP hKP; go_big_quiet_op; go_big_quiet_on) | (refine plan_skip_q nth13 rfl rfl ?_; simp only [Act.put, List.setIfInBounds_toArray, List.set_cons_zero, List.set_cons_succ])
        first | (refine plan_quiet nth14 rfl ?_; intro KP hKP; go_big_quiet_op; go_big_quiet_on) | (refine plan_skip_q nth14 rfl rfl ?_; simp only [Act.put, List.setIfInBounds_toArray, List.set_cons_zero, List.set_cons_succ])
        first | (refine plan_quiet nth15 rfl ?_; intro KP hKP; go_big_quiet_op; go_big_quiet_on) | (refine plan_skip_q nth15 rfl rfl ?_; simp only [Act.put, List.setIfInBounds_toArray, List.set_cons_zero, List.set_cons_succ])
        first | (refine plan_loud nth16 rfl ?_; intro KP hKP; go_wp2_with fail; refine hKP _ _ (AfterC.mk (by (repeat (first | (with_reducible exact Between.refl _ _ _) | (with_reducible refine Between.drew ?_) | (with_reducible refine Between.drewN ?_ _) | (with_reducible refine Between.set ?_ ?_ ?_ _) | (with_reducible refine btw_later _ ?_) | (with_reducible refine btw_alloc ?_ _) | (with_reducible refine btw_after _ ?_) | (with_reducible assumption) | (dsimp only; omega) | omega)))) ?_; clear hKP KP) | (refine plan_skip nth16 rfl rfl (AfterC.mk (by (repeat (first | (with_reducible exact Between.refl _ _ _) | (with_reducible refine Between.drew ?_) | (with_reducible refine Between.drewN ?_ _) | (with_reducible refine Between.set ?_ ?_ ?_ _) | (with_reducible refine btw_later _ ?_) | (with_reducible refine btw_alloc ?_ _) | (with_reducible refine btw_after _ ?_) | (with_reducible assumption) | (dsimp only; omega) | omega)))) ?_; simp only [Act.put, List.setIfInBounds_toArray, List.set_cons_zero, List.set_cons_succ])
        refine plan_nil ?_
        go_wp2
        go_roundw
        case rel =>
          refine ⟨k + 1, by omega, by go_num, ?_, ?_⟩
          · (repeat (first | (with_reducible exact Between.refl _ _ _) | (with_reducible refine Between.drew ?_) | (with_reducible refine Between.drewN ?_ _) | (with_reducible refine Between.set ?_ ?_ ?_ _) | (with_reducible refine btw_later _ ?_) | (with_reducible refine btw_alloc ?_ _) | (with_reducible refine btw_after _ ?_) | (with_reducible assumption) | (dsimp only; omega) | omega))
          · have h1 := (HP.out.drewN 1).set (j := k) (.bool (op_or l[k] l'[k]))
            rw [hst.out] at h1
            have e4 := HV.out
            first
              | exact h1
              | (simp only [op_or, e4, Bool.true_or, Bool.false_or, Bool.true_and, Bool.false_and] at h1; exact h1)
        case measure => simp [intOf]; omega
    · obtain rfl : k = l.length := by omega
      rw [fillPart_full _ _ HJ.out] at ho
      have HP := Lib.hid ho
      clear ho
      go_wp2
      refine bodyPost_ret (by simp [results, Try.results20, go_sem, ↓IntWalk.iteOmega, *]; try rfl) rfl ?_
      refine RetOwn.mk _ rfl ?_ ?_
      · rw [HJ.out]
        (refine own_mono (base := ?ob1) ?oh1 ?os1; (case oh1 => ((repeat (with_reducible refine own_set ?_ ?_ _)); (with_reducible exact HP.out.own); all_goals (first | (dsimp only; omega) | omega | (simp only [World.size_alloc, World.size_setCell, World.size_drew]; omega)))); (case os1 => (first | (dsimp only; omega) | omega | (simp only [World.size_alloc, World.size_setCell, World.size_drew]; omega))))
      · (repeat (first | (with_reducible exact Below.refl _ _) | (with_reducible assumption) | (with_reducible refine Later.out _ ?_) | (with_reducible refine bel_alloc ?_ _) | (with_reducible refine bel_drew ?_) | (with_reducible refine bel_drewN ?_ _) | (with_reducible refine bel_set ?_ ?_ _) | (with_reducible refine After.out _ ?_ ?_) | (dsimp only; omega) | omega | (simp only [World.size_alloc, World.size_setCell, World.size_drew]; omega)))

set_option maxHeartbeats 1000000 in
theorem dif_spec (x y W H x' y' W' H' : Int) (l l' : List Bool) (a a' : Option Addr) (n n' c c' : Nat) (w : World) (X Y X2 Y2 code : Int) (L : List Bool) (hR0 : comb x y W H x' y' W' H' l l' op_dif = ((X, Y, X2, Y2, code), L)) (hn : l.length = n) (hn' : l'.length = n') (hm : n ≤ 1048576) (hm' : n' ≤ 1048576) (hr : Row w a (boolCells l)) (hr' : Row w a' (boolCells l')) :
    Calls Try.prog 24 #[.agg #[.int .i64 x, .int .i64 y, .int .i64 W, .int .i64 H, .slice a n c], .agg #[.int .i64 x', .int .i64 y', .int .i64 W', .int .i64 H', .slice a' n' c']] w (RetOwn w 4 1 L.length (boolCells L) fun v => .tuple #[.agg #[.int .i64 X, .int .i64 Y, .int .i64 X2, .int .i64 Y2, v], .int .i64 code]) := by
  subst hn hn'
  have hR : (if twoCode x y W H x' y' W' H' l.length l'.length = 0 then ((x, y, W, H, (0 : Int)), joinL op_dif l l') else ((0, 0, 0, 0, twoCode x y W H x' y' W' H' l.length l'.length), [])) = ((X, Y, X2, Y2, code), L) := hR0
  clear hR0
  have hr := Lib.hid hr
  have hr' := Lib.hid hr'
  have TW := fun a c a' c' w => two_any x y W H x' y' W' H' a a' l.length l'.length c c' w
  have hcs : twoCode x y W H x' y' W' H' l.length l'.length = 1 ∨ twoCode x y W H x' y' W' H' l.length l'.length = 5 ∨ (twoCode x y W H x' y' W' H' l.length l'.length = 0 ∧ isMaskB x y W H l.length = true ∧ isMaskB x' y' W' H' l'.length = true ∧ fitsB x y W H x' y' W' H' = true) := by
    unfold twoCode
    cases isMaskB x y W H l.length <;> cases isMaskB x' y' W' H' l'.length <;> cases fitsB x y W H x' y' W' H' <;> simp
  rcases hcs with h0 | h0 | ⟨h0, h1, h2, h3⟩
  · rw [h0] at hR TW
    rw [if_neg (by decide)] at hR
    simp only [Prod.mk.injEq] at hR
    obtain ⟨⟨rfl, rfl, rfl, rfl, rfl⟩, rfl⟩ := hR
    have TW := Lib.hid TW
    clear h0
    go_enter Try.func24, Try.ntmps24
    go_wp2_with (first | (go_at_call 65; first | ((with_reducible refine (Calls.later (TW.out _ _ _ _ _)).mono ?_); rintro e w' ⟨rfl, xl, rfl⟩; have hsz := xl.bel.size; (try simp only [World.size_alloc, World.size_setCell, World.size_drew] at hsz); (try have hz0 : w.heap.size < xl.w.heap.size := (by omega)); (try have hz1 : w.heap.size + 1 < xl.w.heap.size := (by omega)); (try have hz2 : w.heap.size + 1 + 1 < xl.w.heap.size := (by omega))) | ((with_reducible refine (TW.out _ _ _ _ _).mono ?_); rintro e w' ⟨rfl, xl, rfl⟩; have hsz := xl.bel.size; (try simp only [World.size_alloc, World.size_setCell, World.size_drew] at hsz); (try have hz0 : w.heap.size < xl.w.heap.size := (by omega)); (try have hz1 : w.heap.size + 1 < xl.w.heap.size := (by omega)); (try have hz2 : w.heap.size + 1 + 1 < xl.w.heap.size := (by omega)))))
    refine bodyPost_ret (by simp [results, Try.results24, go_sem, ↓IntWalk.iteOmega, *]; try rfl) rfl ?_
    refine RetOwn.mk (.slice none 0 0) rfl (World.ownsRow_nil _ _ _ _) ?_
    (repeat (first | (with_reducible exact Below.refl _ _) | (with_reducible assumption) | (with_reducible refine Later.out _ ?_) | (with_reducible refine bel_alloc ?_ _) | (with_reducible refine bel_drew ?_) | (with_reducible refine bel_drewN ?_ _) | (with_reducible refine bel_set ?_ ?_ _) | (with_reducible refine After.out _ ?_ ?_) | (dsimp only; omega) | omega | (simp only [World.size_alloc, World.size_setCell, World.size_drew]; omega)))
  · rw [h0] at hR TW
    rw [if_neg (by decide)] at hR
    simp only [Prod.mk.injEq] at hR
    obtain ⟨⟨rfl, rfl, rfl, rfl, rfl⟩, rfl⟩ := hR
    have TW := Lib.hid TW
    clear h0
    go_enter Try.func24, Try.ntmps24
    go_wp2_with (first | (go_at_call 65; first | ((with_reducible refine (Calls.later (TW.out _ _ _ _ _)).mono ?_); rintro e w' ⟨rfl, xl, rfl⟩; have hsz := xl.bel.size; (try simp only [World.size_alloc, World.size_setCell, World.size_drew] at hsz); (try have hz0 : w.heap.size < xl.w.heap.size := (by omega)); (try have hz1 : w.heap.size + 1 < xl.w.heap.size := (by omega)); (try have hz2 : w.heap.size + 1 + 1 < xl.w.heap.size := (by omega))) | ((with_reducible refine (TW.out _ _ _ _ _).mono ?_); rintro e w' ⟨rfl, xl, rfl⟩; have hsz := xl.bel.size; (try simp only [World.size_alloc, World.size_setCell, World.size_drew] at hsz); (try have hz0 : w.heap.size < xl.w.heap.size := (by omega)); (try have hz1 : w.heap.size + 1 < xl.w.heap.size := (by omega)); (try have hz2 : w.heap.size + 1 + 1 < xl.w.heap.size := (by omega)))))
    refine bodyPost_ret (by simp [results, Try.results24, go_sem, ↓IntWalk.iteOmega, *]; try rfl) rfl ?_
    refine RetOwn.mk (.slice none 0 0) rfl (World.ownsRow_nil _ _ _ _) ?_
    (repeat (first | (with_reducible exact Below.refl _ _) | (with_reducible assumption) | (with_reducible refine Later.out _ ?_) | (with_reducible refine bel_alloc ?_ _) | (with_reducible refine bel_drew ?_) | (with_reducible refine bel_drewN ?_ _) | (with_reducible refine bel_set ?_ ?_ _) | (with_reducible refine After.out _ ?_ ?_) | (dsimp only; omega) | omega | (simp only [World.size_alloc, World.size_setCell, World.size_drew]; omega)))
  rw [h0] at hR TW
  rw [if_pos rfl] at hR
  obtain ⟨e1, p1, q1⟩ := mask_len h1
  obtain ⟨e2, p2, q2⟩ := mask_len h2
  obtain ⟨rfl, rfl, rfl, rfl⟩ := fits_eq h3
  have hll : l.length = l'.length := by omega
  simp only [Prod.mk.injEq] at hR
  obtain ⟨⟨rfl, rfl, rfl, rfl, rfl⟩, rfl⟩ := hR
  have TW := Lib.hid TW
  have HL := Lib.hid hll
  have HJ := Lib.hid (length_joinL op_dif l l' hll)
  have e1 := Lib.hid e1.symm
  clear h0 h1 h2 h3 e2 hll
  go_enter Try.func24, Try.ntmps24
  go_wp2_with (first | (go_at_call 65; first | ((with_reducible refine (Calls.later (TW.out _ _ _ _ _)).mono ?_); rintro e w' ⟨rfl, xl, rfl⟩; have hsz := xl.bel.size; (try simp only [World.size_alloc, World.size_setCell, World.size_drew] at hsz); (try have hz0 : w.heap.size < xl.w.heap.size := (by omega)); (try have hz1 : w.heap.size + 1 < xl.w.heap.size := (by omega)); (try have hz2 : w.heap.size + 1 + 1 < xl.w.heap.size := (by omega))) | ((with_reducible refine (TW.out _ _ _ _ _).mono ?_); rintro e w' ⟨rfl, xl, rfl⟩; have hsz := xl.bel.size; (try simp only [World.size_alloc, World.size_setCell, World.size_drew] at hsz); (try have hz0 : w.heap.size < xl.w.heap.size := (by omega)); (try have hz1 : w.heap.size + 1 < xl.w.heap.size := (by omega)); (try have hz2 : w.heap.size + 1 + 1 < xl.w.heap.size := (by omega)))) | (go_at_call 66; refine (sEmpty_any x y W H a l.length l.length c _ e1.out hm).mono ?_; rintro e w' ⟨a1, c1, rfl, hown, xl, rfl⟩; have HO := Lib.hid (Owns.of hown); clear hown; have hsz := xl.bel.size; (try simp only [World.size_alloc, World.size_setCell, World.size_drew] at hsz); (try have hz0 : w.heap.size < xl.w.heap.size := (by omega)); (try have hz1 : w.heap.size + 1 < xl.w.heap.size := (by omega)); (try have hz2 : w.heap.size + 1 + 1 < xl.w.heap.size := (by omega))))
  obtain ⟨g, rfl, g1, g2, -, -⟩ := HO.out.at_ (j := 0) (by omega)
  (try simp only [World.size_alloc] at g1)
  go_loopw [8, 21] (fun i j wr => ∃ k : Nat, k ≤ l.length ∧ j = .int .i64 k ∧ Between g (g + 1) (xl.w.alloc (.cells #[.int .i64 x, .int .i64 y, .int .i64 W, .int .i64 H, .slice (some ⟨g, 0, none⟩) l.length c1] 31)) wr ∧ Owns wr g (g + 1) 4 1 l.length (some ⟨g, 0, none⟩) c1 (fillPart (joinL op_dif l l') l.length k)) (fun _ j _ => l.length - (intOf j).toNat)
  case atStart =>
    refine ⟨0, Nat.zero_le _, rfl, Between.refl _ _ _, ?_⟩
    rw [fillPart_zero]
    exact ⟨(World.ownsRow.alloc (own_lift HO.out.own) _), fun p hp => by injection hp with hp; subst hp; simp⟩
  case round =>
    obtain ⟨k, hk, rfl, hb, ho⟩ := hrel
    obtain ⟨z, rfl⟩ := AfterC.mk hb
    clear hb
    have hzs := z.btw.size
    (try simp only [World.size_alloc] at hzs)
    by_cases hlt : k < l.length
    · have hc := ho.own.cellAt k (by omega)
      rw [fillPart_old _ _ _ HJ.out hlt] at hc
      have hf := ho.own.frozenAt k
      have hk2 : k < l'.length := by have := HL.out; omega
      have hst := Lib.hid (fillPart_step (joinL op_dif l l') l.length k _ HJ.out (joinL_get op_dif l l' k hlt hk2))
      have HP := Lib.hid ho
      have i1 : (k : Int) < (l.length : Int) := by omega
      have i2 : (k : Int) < (l'.length : Int) := by omega
      obtain ⟨b3, o3, rfl, hc3⟩ := hr.out k _ (boolCells_get hlt)
      obtain ⟨b4, o4, rfl, hc4⟩ := hr'.out k _ (boolCells_get hk2)
      have q3 : b3 < w.heap.size := World.block_lt_of_cell? w _ hc3
      have q4 : b4 < w.heap.size := World.block_lt_of_cell? w _ hc4
      have bz : Below w.heap.size w z.w := by (repeat (first | (with_reducible exact Below.refl _ _) | (with_reducible assumption) | (with_reducible refine Later.out _ ?_) | (with_reducible refine bel_alloc ?_ _) | (with_reducible refine bel_drew ?_) | (with_reducible refine bel_drewN ?_ _) | (with_reducible refine bel_set ?_ ?_ _) | (with_reducible refine After.out _ ?_ ?_) | (dsimp only; omega) | omega | (simp only [World.size_alloc, World.size_setCell, World.size_drew]; omega)))
      have hd3 := (bz.cell (p := ⟨b3, o3 + k, none⟩) q3).trans hc3
      have hd4 := (bz.cell (p := ⟨b4, o4 + k, none⟩) q4).trans hc4
      clear ho bz hc3 hc4
      cases hv : l[k]
      all_goals
        have HV := Lib.hid hv
        rw [hv] at hd3
        clear hv
        go_wp2
        refine wp_region_plan [(0, true), (1, true), (2, true), (3, true), (4, true), (5, true), (6, true), (7, true), (8, true), (9, true), (10, true), (11, true), (12, true), (13, true), (14, true), (15, true), (16, true), (17, false)] (C := AfterC g (g + 1) _) (by kernel_rfl) (by kernel_rfl) (by kernel_rfl) rfl (fun _ _ d _ _ h => by cases d <;> exact h) (AfterC.mk ((Between.refl _ _ _).drew)) ?_
        first | (refine plan_quiet nth0 rfl ?_; intro KP hKP; go_big_quiet_op; go_big_quiet_on) | (refine plan_skip_q nth0 rfl rfl ?_; simp only [Act.put, List.setIfInBounds_toArray, List.set_cons_zero, List.set_cons_succ])
        first | (refine plan_quiet nth1 rfl ?_; intro KP hKP; go_big_quiet_op; go_big_quiet_on) | (refine plan_skip_q nth1 rfl rfl ?_; simp only [Act.put, List.setIfInBounds_toArray, List.set_cons_zero, List.set_cons_succ])
        first | (refine plan_quiet nth2 rfl ?_; intro KP hKP; go_big_quiet_op; go_big_quiet_on) | (refine plan_skip_q nth2 rfl rfl ?_; simp only [Act.put, List.setIfInBounds_toArray, List.set_cons_zero, List.set_cons_succ])
        first | (refine plan_quiet nth3 rfl ?_; intro KP hKP; go_big_quiet_op; go_big_quiet_on) | (refine plan_skip_q nth3 rfl rfl ?_; simp only [Act.put, List.setIfInBounds_toArray, List.set_cons_zero, List.set_cons_succ])
        first | (refine plan_quiet nth4 rfl ?_; intro KP hKP; go_big_quiet_op; go_big_quiet_on) | (refine plan_skip_q nth4 rfl rfl ?_; simp only [Act.put, List.setIfInBounds_toArray, List.set_cons_zero, List.set_cons_succ])
        first | (refine plan_quiet nth5 rfl ?_; intro KP hKP; go_big_quiet_op; go_big_quiet_on) | (refine plan_skip_q nth5 rfl rfl ?_; simp only [Act.put, List.setIfInBounds_toArray, List.set_cons_zero, List.set_cons_succ])
        first | (refine plan_quiet nth6 rfl ?_; intro KP hKP; go_big_quiet_op; go_big_quiet_on) | (refine plan_skip_q nth6 rfl rfl ?_; simp only [Act.put, List.setIfInBounds_toArray, List.set_cons_zero, List.set_cons_succ])
        first | (refine plan_quiet nth7 rfl ?_; intro KP hKP; go_big_quiet_op; go_big_quiet_on) | (refine plan_skip_q nth7 rfl rfl ?_; simp only [Act.put, List.setIfInBounds_toArray, List.set_cons_zero, List.set_cons_succ])
        first | (refine plan_quiet nth8 rfl ?_; intro KP hKP; go_big_quiet_op; go_big_quiet_on) | (refine plan_skip_q nth8 rfl rfl ?_; simp only [Act.put, List.setIfInBounds_toArray, List.set_cons_zero, List.set_cons_succ])
        first | (refine plan_quiet nth9 rfl ?_; intro KP hKP; go_big_quiet_op; go_big_quiet_on) | (refine plan_skip_q nth9 rfl rfl ?_; simp only [Act.put, List.setIfInBounds_toArray, List.set_cons_zero, List.set_cons_succ])
        first | (refine plan_quiet nth10 rfl ?_; intro KP hKP; go_big_quiet_op; go_big_quiet_on) | (refine plan_skip_q nth10 rfl rfl ?_; simp only [Act.put, List.setIfInBounds_toArray, List.set_cons_zero, List.set_cons_succ])
        first | (refine plan_quiet nth11 rfl ?_; intro KP hKP; go_big_quiet_op; go_big_quiet_on) | (refine plan_skip_q nth11 rfl rfl ?_; simp only [Act.put, List.setIfInBounds_toArray, List.set_cons_zero, List.set_cons_succ])
        first | (refine plan_quiet nth12 rfl ?_; intro KP hKP; go_big_quiet_op; go_big_quiet_on) | (refine plan_skip_q nth12 rfl rfl ?_; simp only [Act.put, List.setIfInBounds_toArray, List.set_cons_zero, List.set_cons_succ])
        first | (refine plan_quiet nth13 rfl ?_; intro KP hKP; go_big_quiet_op; go_big_quiet_on) | (refine plan_skip_q nth13 rfl rfl ?_; simp only [Act.put, List.setIfInBounds_toArray, List.set_cons_zero, List.set_cons_succ])
        first | (refine plan_quiet nth14 rfl ?_; intro KP hKP; go_big_quiet_op; go_big_quiet_on) | (refine plan_skip_q nth14 rfl rfl ?_; simp only [Act.put, List.setIfInBounds_toArray, List.set_cons_zero, List.set_cons_succ])
        first | (refine plan_quiet nth15 rfl ?_; intro KP hKP; go_big_quiet_op; go_big_quiet_on) | (refine plan_skip_q nth15 rfl rfl ?_; simp only [Act.put, List.setIfInBounds_toArray, List.set_cons_zero, List.set_cons_succ])
        first | (refine plan_quiet nth16 rfl ?_; intro KP hKP; go_big_quiet_op; go_big_quiet_on) | (refine plan_skip_q nth16 rfl rfl ?_; simp only [Act.put, List.setIfInBounds_toArray, List.set_cons_zero, List.set_cons_succ])
        first | (refine plan_loud nth17 rfl ?_; intro KP hKP; go_wp2_with fail; refine hKP _ _ (AfterC.mk (by (repeat (first | (with_reducible exact Between.refl _ _ _) | (with_reducible refine Between.drew ?_) | (with_reducible refine Between.drewN ?_ _) | (with_reducible refine Between.set ?_ ?_ ?_ _) | (with_reducible refine btw_later _ ?_) | (with_reducible refine btw_alloc ?_ _) | (with_reducible refine btw_after _ ?_) | (with_reducible assumption) | (dsimp only; omega) | omega)))) ?_; clear hKP KP) | (refine plan_skip nth17 rfl rfl (AfterC.mk (by (repeat (first | (with_reducible exact Between.refl _ _ _) | (with_reducible refine Between.drew ?_) | (with_reducible refine Between.drewN ?_ _) | (with_reducible refine Between.set ?_ ?_ ?_ _) | (with_reducible refine btw_later _ ?_) | (with_reducible refine btw_alloc ?_ _) | (with_reducible refine btw_after _ ?_) | (with_reducible assumption) | (dsimp only; omega) | omega)))) ?_; simp only [Act.put, List.setIfInBounds_toArray, List.set_cons_zero, List.set_cons_succ])
        refine plan_nil ?_
        go_wp2
        go_roundw
        case rel =>
          refine ⟨k + 1, by omega, by go_num, ?_, ?_⟩
          · (repeat (first | (with_reducible exact Between.refl _ _ _) | (with_reducible refine Between.drew ?_) | (with_reducible refine Between.drewN ?_ _) | (with_reducible refine Between.set ?_ ?_ ?_ _) | (with_reducible refine btw_later _ ?_) | (with_reducible refine btw_alloc ?_ _) | (with_reducible refine btw_after _ ?_) | (with_reducible assumption) | (dsimp only; omega) | omega))
          · have h1 := (HP.out.drewN 1).set (j := k) (.bool (op_dif l[k] l'[k]))
            rw [hst.out] at h1
            have e4 := HV.out
            first
              | exact h1
              | (simp only [op_dif, e4, Bool.true_and, Bool.false_and] at h1; exact h1)
        case measure => simp [intOf]; omega
    · obtain rfl : k = l.length := by omega
      rw [fillPart_full _ _ HJ.out] at ho
      have HP := Lib.hid ho
      clear ho
      go_wp2
      refine bodyPost_ret (by simp [results, Try.results24, go_sem, ↓IntWalk.iteOmega, *]; try rfl) rfl ?_
      refine RetOwn.mk _ rfl ?_ ?_
      · rw [HJ.out]
        (refine own_mono (base := ?ob2) ?oh2 ?os2; (case oh2 => ((repeat (with_reducible refine own_set ?_ ?_ _)); (with_reducible exact HP.out.own); all_goals (first | (dsimp only; omega) | omega | (simp only [World.size_alloc, World.size_setCell, World.size_drew]; omega)))); (case os2 => (first | (dsimp only; omega) | omega | (simp only [World.size_alloc, World.size_setCell, World.size_drew]; omega))))
      · (repeat (first | (with_reducible exact Below.refl _ _) | (with_reducible assumption) | (with_reducible refine Later.out _ ?_) | (with_reducible refine bel_alloc ?_ _) | (with_reducible refine bel_drew ?_) | (with_reducible refine bel_drewN ?_ _) | (with_reducible refine bel_set ?_ ?_ _) | (with_reducible refine After.out _ ?_ ?_) | (dsimp only; omega) | omega | (simp only [World.size_alloc, World.size_setCell, World.size_drew]; omega)))

set_option maxHeartbeats 1000000 in
theorem and_meet (x y W H : Int) (l l' : List Bool) (a a' : Option Addr) (c c' : Nat) (w : World) (e1 : W * H = (l.length : Int)) (hll : l.length = l'.length) (p1 : 0 < l.length) (hm : l.length ≤ 1048576) (hr : Row w a (boolCells l)) (hr' : Row w a' (boolCells l')) :
    Calls Try.prog 72 #[.agg #[.int .i64 x, .int .i64 y, .int .i64 W, .int .i64 H, .slice a l.length c], .agg #[.int .i64 x, .int .i64 y, .int .i64 W, .int .i64 H, .slice a' l'.length c']] w
      (RetOwn w 4 1 l.length (boolCells (joinL op_and l l')) fun v => .agg #[.int .i64 x, .int .i64 y, .int .i64 W, .int .i64 H, v]) := by
  have HL := Lib.hid hll
  have HJ := Lib.hid (length_joinL op_and l l' hll)
  have e1 := Lib.hid e1
  have hr := Lib.hid hr
  have hr' := Lib.hid hr'
  clear hll
  go_enter Try.func72, Try.ntmps72
  go_wp2_with (first | (go_at_call 66; refine (sEmpty_any x y W H a l.length l.length c _ e1.out hm).mono ?_; rintro e w' ⟨a1, c1, rfl, hown, xl, rfl⟩; have HO := Lib.hid (Owns.of hown); clear hown; have hsz := xl.bel.size; (try simp only [World.size_alloc, World.size_setCell, World.size_drew] at hsz); (try have hz0 : w.heap.size < xl.w.heap.size := (by omega)); (try have hz1 : w.heap.size + 1 < xl.w.heap.size := (by omega)); (try have hz2 : w.heap.size + 1 + 1 < xl.w.heap.size := (by omega))))
  obtain ⟨g, rfl, g1, g2, -, -⟩ := HO.out.at_ (j := 0) (by omega)
  (try simp only [World.size_alloc] at g1)
  go_loopw [6, 12] (fun i j wr => ∃ k : Nat, k ≤ l.length ∧ j = .int .i64 k ∧ Between g (g + 1) (xl.w.alloc (.cells #[.int .i64 x, .int .i64 y, .int .i64 W, .int .i64 H, .slice (some ⟨g, 0, none⟩) l.length c1] 31)) wr ∧ Owns wr g (g + 1) 4 1 l.length (some ⟨g, 0, none⟩) c1 (fillPart (joinL op_and l l') l.length k)) (fun _ j _ => l.length - (intOf j).toNat)
  case atStart =>
    refine ⟨0, Nat.zero_le _, rfl, Between.refl _ _ _, ?_⟩
    rw [fillPart_zero]
    exact ⟨(World.ownsRow.alloc (own_lift HO.out.own) _), fun p hp => by injection hp with hp; subst hp; simp⟩
  case round =>
    obtain ⟨k, hk, rfl, hb, ho⟩ := hrel
    obtain ⟨z, rfl⟩ := AfterC.mk hb
    clear hb
    have hzs := z.btw.size
    (try simp only [World.size_alloc] at hzs)
    by_cases hlt : k < l.length
    · have hc := ho.own.cellAt k (by omega)
      rw [fillPart_old _ _ _ HJ.out hlt] at hc
      have hf := ho.own.frozenAt k
      have hk2 : k < l'.length := by have := HL.out; omega
      have hst := Lib.hid (fillPart_step (joinL op_and l l') l.length k _ HJ.out (joinL_get op_and l l' k hlt hk2))
      have HP := Lib.hid ho
      have i1 : (k : Int) < (l.length : Int) := by omega
      have i2 : (k : Int) < (l'.length : Int) := by omega
      obtain ⟨b3, o3, rfl, hc3⟩ := hr.out k _ (boolCells_get hlt)
      obtain ⟨b4, o4, rfl, hc4⟩ := hr'.out k _ (boolCells_get hk2)
      have q3 : b3 < w.heap.size := World.block_lt_of_cell? w _ hc3
      have q4 : b4 < w.heap.size := World.block_lt_of_cell? w _ hc4
      have bz : Below w.heap.size w z.w := by (repeat (first | (with_reducible exact Below.refl _ _) | (with_reducible assumption) | (with_reducible refine Later.out _ ?_) | (with_reducible refine bel_alloc ?_ _) | (with_reducible refine bel_drew ?_) | (with_reducible refine bel_drewN ?_ _) | (with_reducible refine bel_set ?_ ?_ _) | (with_reducible refine After.out _ ?_ ?_) | (dsimp only; omega) | omega | (simp only [World.size_alloc, World.size_setCell, World.size_drew]; omega)))
      have hd3 := (bz.cell (p := ⟨b3, o3 + k, none⟩) q3).trans hc3
      have hd4 := (bz.cell (p := ⟨b4, o4 + k, none⟩) q4).trans hc4
      clear ho bz hc3 hc4
      cases hv : l[k]
      all_goals
        have HV := Lib.hid hv
        rw [hv] at hd3
        clear hv
        go_wp2
        refine wp_region_plan [(0, true), (1, true), (2, true), (3, true), (4, true), (5, true), (6, true), (7, true), (8, true), (9, true), (10, true), (11, true), (12, true), (13, true), (14, true), (15, true), (16, false)] (C := AfterC g (g + 1) _) (by kernel_rfl) (by kernel_rfl) (by kernel_rfl) rfl (fun _ _ d _ _ h => by cases d <;> exact h) (AfterC.mk ((Between.refl _ _ _).drew)) ?_
        first | (refine plan_quiet nth0 rfl ?_; intro KP hKP; go_big_quiet_op; go_big_quiet_on) | (refine plan_skip_q nth0 rfl rfl ?_; simp only [Act.put, List.setIfInBounds_toArray, List.set_cons_zero, List.set_cons_succ])
        first | (refine plan_quiet nth1 rfl ?_; intro KP hKP; go_big_quiet_op; go_big_quiet_on) | (refine plan_skip_q nth1 rfl rfl ?_; simp only [Act.put, List.setIfInBounds_toArray, List.set_cons_zero, List.set_cons_succ])
        first | (refine plan_quiet nth2 rfl ?_; intro KP hKP; go_big_quiet_op; go_big_quiet_on) | (refine plan_skip_q nth2 rfl rfl ?_; simp only [Act.put, List.setIfInBounds_toArray, List.set_cons_zero, List.set_cons_succ])
        first | (refine plan_quiet nth3 rfl ?_; intro KP hKP; go_big_quiet_op; go_big_quiet_on) | (refine plan_skip_q nth3 rfl rfl ?_; simp only [Act.put, List.setIfInBounds_toArray, List.set_cons_zero, List.set_cons_succ])
        first | (refine plan_quiet nth4 rfl ?_; intro KP hKP; go_big_quiet_op; go_big_quiet_on) | (refine plan_skip_q nth4 rfl rfl ?_; simp only [Act.put, List.setIfInBounds_toArray, List.set_cons_zero, List.set_cons_succ])
        first | (refine plan_quiet nth5 rfl ?_; intro KP hKP; go_big_quiet_op; go_big_quiet_on) | (refine plan_skip_q nth5 rfl rfl ?_; simp only [Act.put, List.setIfInBounds_toArray, List.set_cons_zero, List.set_cons_succ])
        first | (refine plan_quiet nth6 rfl ?_; intro KP hKP; go_big_quiet_op; go_big_quiet_on) | (refine plan_skip_q nth6 rfl rfl ?_; simp only [Act.put, List.setIfInBounds_toArray, List.set_cons_zero, List.set_cons_succ])
        first | (refine plan_quiet nth7 rfl ?_; intro KP hKP; go_big_quiet_op; go_big_quiet_on) | (refine plan_skip_q nth7 rfl rfl ?_; simp only [Act.put, List.setIfInBounds_toArray, List.set_cons_zero, List.set_cons_succ])
        first | (refine plan_quiet nth8 rfl ?_; intro KP hKP; go_big_quiet_op; go_big_quiet_on) | (refine plan_skip_q nth8 rfl rfl ?_; simp only [Act.put, List.setIfInBounds_toArray, List.set_cons_zero, List.set_cons_succ])
        first | (refine plan_quiet nth9 rfl ?_; intro KP hKP; go_big_quiet_op; go_big_quiet_on) | (refine plan_skip_q nth9 rfl rfl ?_; simp only [Act.put, List.setIfInBounds_toArray, List.set_cons_zero, List.set_cons_succ])
        first | (refine plan_quiet nth10 rfl ?_; intro KP hKP; go_big_quiet_op; go_big_quiet_on) | (refine plan_skip_q nth10 rfl rfl ?_; simp only [Act.put, List.setIfInBounds_toArray, List.set_cons_zero, List.set_cons_succ])
        first | (refine plan_quiet nth11 rfl ?_; intro KP hKP; go_big_quiet_op; go_big_quiet_on) | (refine plan_skip_q nth11 rfl rfl ?_; simp only [Act.put, List.setIfInBounds_toArray, List.set_cons_zero, List.set_cons_succ])
        first | (refine plan_quiet nth12 rfl ?_; intro KP hKP; go_big_quiet_op; go_big_quiet_on) | (refine plan_skip_q nth12 rfl rfl ?_; simp only [Act.put, List.setIfInBounds_toArray, List.set_cons_zero, List.set_cons_succ])
        first | (refine plan_quiet nth13 rfl ?_; intro KP hKP; go_big_quiet_op; go_big_quiet_on) | (refine plan_skip_q nth13 rfl rfl ?_; simp only [Act.put, List.setIfInBounds_toArray, List.set_cons_zero, List.set_cons_succ])
        first | (refine plan_quiet nth14 rfl ?_; intro KP hKP; go_big_quiet_op; go_big_quiet_on) | (refine plan_skip_q nth14 rfl rfl ?_; simp only [Act.put, List.setIfInBounds_toArray, List.set_cons_zero, List.set_cons_succ])
        first | (refine plan_quiet nth15 rfl ?_; intro KP hKP; go_big_quiet_op; go_big_quiet_on) | (refine plan_skip_q nth15 rfl rfl ?_; simp only [Act.put, List.setIfInBounds_toArray, List.set_cons_zero, List.set_cons_succ])
        first | (refine plan_loud nth16 rfl ?_; intro KP hKP; go_wp2_with fail; refine hKP _ _ (AfterC.mk (by (repeat (first | (with_reducible exact Between.refl _ _ _) | (with_reducible refine Between.drew ?_) | (with_reducible refine Between.drewN ?_ _) | (with_reducible refine Between.set ?_ ?_ ?_ _) | (with_reducible refine btw_later _ ?_) | (with_reducible refine btw_alloc ?_ _) | (with_reducible refine btw_after _ ?_) | (with_reducible assumption) | (dsimp only; omega) | omega)))) ?_; clear hKP KP) | (refine plan_skip nth16 rfl rfl (AfterC.mk (by (repeat (first | (with_reducible exact Between.refl _ _ _) | (with_reducible refine Between.drew ?_) | (with_reducible refine Between.drewN ?_ _) | (with_reducible refine Between.set ?_ ?_ ?_ _) | (with_reducible refine btw_later _ ?_) | (with_reducible refine btw_alloc ?_ _) | (with_reducible refine btw_after _ ?_) | (with_reducible assumption) | (dsimp only; omega) | omega)))) ?_; simp only [Act.put, List.setIfInBounds_toArray, List.set_cons_zero, List.set_cons_succ])
        refine plan_nil ?_
        go_wp2
        go_roundw
        case rel =>
          refine ⟨k + 1, by omega, by go_num, ?_, ?_⟩
          · (repeat (first | (with_reducible exact Between.refl _ _ _) | (with_reducible refine Between.drew ?_) | (with_reducible refine Between.drewN ?_ _) | (with_reducible refine Between.set ?_ ?_ ?_ _) | (with_reducible refine btw_later _ ?_) | (with_reducible refine btw_alloc ?_ _) | (with_reducible refine btw_after _ ?_) | (with_reducible assumption) | (dsimp only; omega) | omega))
          · have h1 := (HP.out.drewN 1).set (j := k) (.bool (op_and l[k] l'[k]))
            rw [hst.out] at h1
            have e4 := HV.out
            first
              | exact h1
              | (simp only [op_and, e4, Bool.true_or, Bool.false_or, Bool.true_and, Bool.false_and] at h1; exact h1)
        case measure => simp [intOf]; omega
    · obtain rfl : k = l.length := by omega
      rw [fillPart_full _ _ HJ.out] at ho
      have HP := Lib.hid ho
      clear ho
      go_wp2
      refine bodyPost_ret (by simp [results, Try.results72, go_sem, ↓IntWalk.iteOmega, *]; try rfl) rfl ?_
      refine RetOwn.mk _ rfl ?_ ?_
      · skip
        (refine own_mono (base := ?ob3) ?oh3 ?os3; (case oh3 => ((repeat (with_reducible refine own_set ?_ ?_ _)); (with_reducible exact HP.out.own); all_goals (first | (dsimp only; omega) | omega | (simp only [World.size_alloc, World.size_setCell, World.size_drew]; omega)))); (case os3 => (first | (dsimp only; omega) | omega | (simp only [World.size_alloc, World.size_setCell, World.size_drew]; omega))))
      · (repeat (first | (with_reducible exact Below.refl _ _) | (with_reducible assumption) | (with_reducible refine Later.out _ ?_) | (with_reducible refine bel_alloc ?_ _) | (with_reducible refine bel_drew ?_) | (with_reducible refine bel_drewN ?_ _) | (with_reducible refine bel_set ?_ ?_ _) | (with_reducible refine After.out _ ?_ ?_) | (dsimp only; omega) | omega | (simp only [World.size_alloc, World.size_setCell, World.size_drew]; omega)))

set_option maxHeartbeats 1000000 in
theorem and_spec (x y W H x' y' W' H' : Int) (l l' : List Bool) (a a' : Option Addr) (n n' c c' : Nat) (w : World) (X Y X2 Y2 code : Int) (L : List Bool) (hR0 : comb x y W H x' y' W' H' l l' op_and = ((X, Y, X2, Y2, code), L)) (hn : l.length = n) (hn' : l'.length = n') (hm : n ≤ 1048576) (hm' : n' ≤ 1048576) (hr : Row w a (boolCells l)) (hr' : Row w a' (boolCells l')) :
    Calls Try.prog 26 #[.agg #[.int .i64 x, .int .i64 y, .int .i64 W, .int .i64 H, .slice a n c], .agg #[.int .i64 x', .int .i64 y', .int .i64 W', .int .i64 H', .slice a' n' c']] w (RetOwn w 4 1 L.length (boolCells L) fun v => .tuple #[.agg #[.int .i64 X, .int .i64 Y, .int .i64 X2, .int .i64 Y2, v], .int .i64 code]) := by
  subst hn hn'
  have hR : (if twoCode x y W H x' y' W' H' l.length l'.length = 0 then ((x, y, W, H, (0 : Int)), joinL op_and l l') else ((0, 0, 0, 0, twoCode x y W H x' y' W' H' l.length l'.length), [])) = ((X, Y, X2, Y2, code), L) := hR0
  clear hR0
  have hr := Lib.hid hr
  have hr' := Lib.hid hr'
  have TW := fun a c a' c' w => two_any x y W H x' y' W' H' a a' l.length l'.length c c' w
  have hcs : twoCode x y W H x' y' W' H' l.length l'.length = 1 ∨ twoCode x y W H x' y' W' H' l.length l'.length = 5 ∨ (twoCode x y W H x' y' W' H' l.length l'.length = 0 ∧ isMaskB x y W H l.length = true ∧ isMaskB x' y' W' H' l'.length = true ∧ fitsB x y W H x' y' W' H' = true) := by
    unfold twoCode
    cases isMaskB x y W H l.length <;> cases isMaskB x' y' W' H' l'.length <;> cases fitsB x y W H x' y' W' H' <;> simp
  rcases hcs with h0 | h0 | ⟨h0, h1, h2, h3⟩
  · rw [h0] at hR TW
    rw [if_neg (by decide)] at hR
    simp only [Prod.mk.injEq] at hR
    obtain ⟨⟨rfl, rfl, rfl, rfl, rfl⟩, rfl⟩ := hR
    have TW := Lib.hid TW
    clear h0
    go_enter Try.func26, Try.ntmps26
    go_wp2_with (first | (go_at_call 65; first | ((with_reducible refine (Calls.later (TW.out _ _ _ _ _)).mono ?_); rintro e w' ⟨rfl, xl, rfl⟩; have hsz := xl.bel.size; (try simp only [World.size_alloc, World.size_setCell, World.size_drew] at hsz); (try have hz0 : w.heap.size < xl.w.heap.size := (by omega)); (try have hz1 : w.heap.size + 1 < xl.w.heap.size := (by omega)); (try have hz2 : w.heap.size + 1 + 1 < xl.w.heap.size := (by omega))) | ((with_reducible refine (TW.out _ _ _ _ _).mono ?_); rintro e w' ⟨rfl, xl, rfl⟩; have hsz := xl.bel.size; (try simp only [World.size_alloc, World.size_setCell, World.size_drew] at hsz); (try have hz0 : w.heap.size < xl.w.heap.size := (by omega)); (try have hz1 : w.heap.size + 1 < xl.w.heap.size := (by omega)); (try have hz2 : w.heap.size + 1 + 1 < xl.w.heap.size := (by omega)))))
    refine bodyPost_ret (by simp [results, Try.results26, go_sem, ↓IntWalk.iteOmega, *]; try rfl) rfl ?_
    refine RetOwn.mk (.slice none 0 0) rfl (World.ownsRow_nil _ _ _ _) ?_
    (repeat (first | (with_reducible exact Below.refl _ _) | (with_reducible assumption) | (with_reducible refine Later.out _ ?_) | (with_reducible refine bel_alloc ?_ _) | (with_reducible refine bel_drew ?_) | (with_reducible refine bel_drewN ?_ _) | (with_reducible refine bel_set ?_ ?_ _) | (with_reducible refine After.out _ ?_ ?_) | (dsimp only; omega) | omega | (simp only [World.size_alloc, World.size_setCell, World.size_drew]; omega)))
  · rw [h0] at hR TW
    rw [if_neg (by decide)] at hR
    simp only [Prod.mk.injEq] at hR
    obtain ⟨⟨rfl, rfl, rfl, rfl, rfl⟩, rfl⟩ := hR
    have TW := Lib.hid TW
    clear h0
    go_enter Try.func26, Try.ntmps26
    go_wp2_with (first | (go_at_call 65; first | ((with_reducible refine (Calls.later (TW.out _ _ _ _ _)).mono ?_); rintro e w' ⟨rfl, xl, rfl⟩; have hsz := xl.bel.size; (try simp only [World.size_alloc, World.size_setCell, World.size_drew] at hsz); (try have hz0 : w.heap.size < xl.w.heap.size := (by omega)); (try have hz1 : w.heap.size + 1 < xl.w.heap.size := (by omega)); (try have hz2 : w.heap.size + 1 + 1 < xl.w.heap.size := (by omega))) | ((with_reducible refine (TW.out _ _ _ _ _).mono ?_); rintro e w' ⟨rfl, xl, rfl⟩; have hsz := xl.bel.size; (try simp only [World.size_alloc, World.size_setCell, World.size_drew] at hsz); (try have hz0 : w.heap.size < xl.w.heap.size := (by omega)); (try have hz1 : w.heap.size + 1 < xl.w.heap.size := (by omega)); (try have hz2 : w.heap.size + 1 + 1 < xl.w.heap.size := (by omega)))))
    refine bodyPost_ret (by simp [results, Try.results26, go_sem, ↓IntWalk.iteOmega, *]; try rfl) rfl ?_
    refine RetOwn.mk (.slice none 0 0) rfl (World.ownsRow_nil _ _ _ _) ?_
    (repeat (first | (with_reducible exact Below.refl _ _) | (with_reducible assumption) | (with_reducible refine Later.out _ ?_) | (with_reducible refine bel_alloc ?_ _) | (with_reducible refine bel_drew ?_) | (with_reducible refine bel_drewN ?_ _) | (with_reducible refine bel_set ?_ ?_ _) | (with_reducible refine After.out _ ?_ ?_) | (dsimp only; omega) | omega | (simp only [World.size_alloc, World.size_setCell, World.size_drew]; omega)))
  rw [h0] at hR TW
  rw [if_pos rfl] at hR
  obtain ⟨e1, p1, q1⟩ := mask_len h1
  obtain ⟨e2, p2, q2⟩ := mask_len h2
  obtain ⟨rfl, rfl, rfl, rfl⟩ := fits_eq h3
  have hll : l.length = l'.length := by omega
  simp only [Prod.mk.injEq] at hR
  obtain ⟨⟨rfl, rfl, rfl, rfl, rfl⟩, rfl⟩ := hR
  have TW := Lib.hid TW
  have HL := Lib.hid hll
  have HJ := Lib.hid (length_joinL op_and l l' hll)
  have e1 := Lib.hid e1.symm
  clear h0 h1 h2 h3 e2 hll
  go_enter Try.func26, Try.ntmps26
  go_wp2_with (first | (go_at_call 65; first | ((with_reducible refine (Calls.later (TW.out _ _ _ _ _)).mono ?_); rintro e w' ⟨rfl, xl, rfl⟩; have hsz := xl.bel.size; (try simp only [World.size_alloc, World.size_setCell, World.size_drew] at hsz); (try have hz0 : w.heap.size < xl.w.heap.size := (by omega)); (try have hz1 : w.heap.size + 1 < xl.w.heap.size := (by omega)); (try have hz2 : w.heap.size + 1 + 1 < xl.w.heap.size := (by omega))) | ((with_reducible refine (TW.out _ _ _ _ _).mono ?_); rintro e w' ⟨rfl, xl, rfl⟩; have hsz := xl.bel.size; (try simp only [World.size_alloc, World.size_setCell, World.size_drew] at hsz); (try have hz0 : w.heap.size < xl.w.heap.size := (by omega)); (try have hz1 : w.heap.size + 1 < xl.w.heap.size := (by omega)); (try have hz2 : w.heap.size + 1 + 1 < xl.w.heap.size := (by omega)))) | (go_at_call 72; refine (and_meet x y W H l l' a a' c c' _ e1.out HL.out p1 hm (hr.out.bel (by (repeat (first | (with_reducible exact Below.refl _ _) | (with_reducible assumption) | (with_reducible refine Later.out _ ?_) | (with_reducible refine bel_alloc ?_ _) | (with_reducible refine bel_drew ?_) | (with_reducible refine bel_drewN ?_ _) | (with_reducible refine bel_set ?_ ?_ _) | (with_reducible refine After.out _ ?_ ?_) | (dsimp only; omega) | omega | (simp only [World.size_alloc, World.size_setCell, World.size_drew]; omega))))) (hr'.out.bel (by (repeat (first | (with_reducible exact Below.refl _ _) | (with_reducible assumption) | (with_reducible refine Later.out _ ?_) | (with_reducible refine bel_alloc ?_ _) | (with_reducible refine bel_drew ?_) | (with_reducible refine bel_drewN ?_ _) | (with_reducible refine bel_set ?_ ?_ _) | (with_reducible refine After.out _ ?_ ?_) | (dsimp only; omega) | omega | (simp only [World.size_alloc, World.size_setCell, World.size_drew]; omega)))))).mono ?_; rintro e w' ⟨a3, c3, rfl, hown, xl, rfl⟩; have HO := Lib.hid hown; clear hown; have hsz := xl.bel.size; (try simp only [World.size_alloc, World.size_setCell, World.size_drew] at hsz); (try have hz0 : w.heap.size < xl.w.heap.size := (by omega)); (try have hz1 : w.heap.size + 1 < xl.w.heap.size := (by omega)); (try have hz2 : w.heap.size + 1 + 1 < xl.w.heap.size := (by omega))))
  refine bodyPost_ret (by simp [results, Try.results26, go_sem, ↓IntWalk.iteOmega, *]; try rfl) rfl ?_
  refine RetOwn.mk _ rfl ?_ ?_
  · rw [HJ.out]
    (refine own_mono (base := ?ob4) ?oh4 ?os4; (case oh4 => ((repeat (with_reducible refine own_set ?_ ?_ _)); (with_reducible exact HO.out); all_goals (first | (dsimp only; omega) | omega | (simp only [World.size_alloc, World.size_setCell, World.size_drew]; omega)))); (case os4 => (first | (dsimp only; omega) | omega | (simp only [World.size_alloc, World.size_setCell, World.size_drew]; omega))))
  · (repeat (first | (with_reducible exact Below.refl _ _) | (with_reducible assumption) | (with_reducible refine Later.out _ ?_) | (with_reducible refine bel_alloc ?_ _) | (with_reducible refine bel_drew ?_) | (with_reducible refine bel_drewN ?_ _) | (with_reducible refine bel_set ?_ ?_ _) | (with_reducible refine After.out _ ?_ ?_) | (dsimp only; omega) | omega | (simp only [World.size_alloc, World.size_setCell, World.size_drew]; omega)))
end Go.Proofs.Ytpblghjegbfjeaa

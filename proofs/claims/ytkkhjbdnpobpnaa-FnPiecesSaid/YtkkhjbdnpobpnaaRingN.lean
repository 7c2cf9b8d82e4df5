import Derived.Test.YtkkhjbdnpobpnaaRingM
/- The mask of a ring: the reference's. -/
set_option linter.unusedSimpArgs false
set_option linter.unusedVariables false
namespace Go.Proofs.Ytkkhjbdnpobpnaa
open Go.RowKit
set_option maxRecDepth 4000 in
set_option maxHeartbeats 2000000 in
theorem ring_spec (L : List Pt) (x y W H : Int) (a ma : Option Addr) (n c m mc : Nat) (w : World) (X Y X2 Y2 code : Int) (R : List Bool) (hR0 : ringR L x y W H m = ((X, Y, X2, Y2, code), R)) (hn : L.length = n) (hm : n ≤ 1048576) (hmm : m ≤ 1048576) (hr : Row w a (ptsCells L)) :
    Calls Try.prog 10 #[.slice a n c, .agg #[.int .i64 x, .int .i64 y, .int .i64 W, .int .i64 H, .slice ma m mc]] w (RetOwn w 4 1 R.length (boolCells R) fun v => .tuple #[.agg #[.int .i64 X, .int .i64 Y, .int .i64 X2, .int .i64 Y2, v], .int .i64 code]) := by
  unfold ringR at hR0
  have CR := fun w hr => sIsRing_any L a n c w hn hm hr
  replace hr := Lib.hid hr
  cases h1 : ringB L
  · rw [h1] at hR0 CR
    simp only [Bool.false_and, Bool.false_eq_true, if_false, Prod.mk.injEq] at hR0
    obtain ⟨⟨rfl, rfl, rfl, rfl, rfl⟩, rfl⟩ := hR0
    replace CR := Lib.hid CR
    clear h1
    go_enter Try.func10, Try.ntmps10
    go_wp2_with (first | (go_at_call 32; first | ((with_reducible refine (Calls.later (CR.out _ (hr.out.bel (by (repeat (first | (with_reducible exact Below.refl _ _) | (with_reducible assumption) | (with_reducible refine Later.out _ ?_) | (with_reducible refine bel_alloc ?_ _) | (with_reducible refine bel_drew ?_) | (with_reducible refine bel_drewN ?_ _) | (with_reducible refine bel_set ?_ ?_ _) | (with_reducible refine After.out _ ?_ ?_) | (dsimp only; omega) | omega | (simp only [World.size_alloc, World.size_setCell, World.size_drew]; omega))))))).mono ?_); rintro e w' ⟨rfl, xl, rfl⟩; have hsz := xl.bel.size; (try simp only [World.size_alloc, World.size_setCell, World.size_drew] at hsz); (try have hz0 : w.heap.size < xl.w.heap.size := (by omega)); (try have hz1 : w.heap.size + 1 < xl.w.heap.size := (by omega)); (try have hz2 : w.heap.size + 1 + 1 < xl.w.heap.size := (by omega))) | ((with_reducible refine (CR.out _ (hr.out.bel (by (repeat (first | (with_reducible exact Below.refl _ _) | (with_reducible assumption) | (with_reducible refine Later.out _ ?_) | (with_reducible refine bel_alloc ?_ _) | (with_reducible refine bel_drew ?_) | (with_reducible refine bel_drewN ?_ _) | (with_reducible refine bel_set ?_ ?_ _) | (with_reducible refine After.out _ ?_ ?_) | (dsimp only; omega) | omega | (simp only [World.size_alloc, World.size_setCell, World.size_drew]; omega)))))).mono ?_); rintro e w' ⟨rfl, xl, rfl⟩; have hsz := xl.bel.size; (try simp only [World.size_alloc, World.size_setCell, World.size_drew] at hsz); (try have hz0 : w.heap.size < xl.w.heap.size := (by omega)); (try have hz1 : w.heap.size + 1 < xl.w.heap.size := (by omega)); (try have hz2 : w.heap.size + 1 + 1 < xl.w.heap.size := (by omega)))))
    refine bodyPost_ret (by simp [results, Try.results10, go_sem, ↓IntWalk.iteOmega, *]; try rfl) rfl ?_
    refine RetOwn.mk (.slice none 0 0) rfl (World.ownsRow_nil _ _ _ _) ?_
    (repeat (first | (with_reducible exact Below.refl _ _) | (with_reducible assumption) | (with_reducible refine Later.out _ ?_) | (with_reducible refine bel_alloc ?_ _) | (with_reducible refine bel_drew ?_) | (with_reducible refine bel_drewN ?_ _) | (with_reducible refine bel_set ?_ ?_ _) | (with_reducible refine After.out _ ?_ ?_) | (dsimp only; omega) | omega | (simp only [World.size_alloc, World.size_setCell, World.size_drew]; omega)))
  cases h2 : isMaskB x y W H m
  · rw [h1] at hR0 CR
    rw [h2] at hR0
    simp only [Bool.and_false, Bool.false_eq_true, if_false, Prod.mk.injEq] at hR0
    obtain ⟨⟨rfl, rfl, rfl, rfl, rfl⟩, rfl⟩ := hR0
    replace CR := Lib.hid CR
    clear h1
    go_enter Try.func10, Try.ntmps10
    go_wp2_with (first | (go_at_call 32; first | ((with_reducible refine (Calls.later (CR.out _ (hr.out.bel (by (repeat (first | (with_reducible exact Below.refl _ _) | (with_reducible assumption) | (with_reducible refine Later.out _ ?_) | (with_reducible refine bel_alloc ?_ _) | (with_reducible refine bel_drew ?_) | (with_reducible refine bel_drewN ?_ _) | (with_reducible refine bel_set ?_ ?_ _) | (with_reducible refine After.out _ ?_ ?_) | (dsimp only; omega) | omega | (simp only [World.size_alloc, World.size_setCell, World.size_drew]; omega))))))).mono ?_); rintro e w' ⟨rfl, xl, rfl⟩; have hsz := xl.bel.size; (try simp only [World.size_alloc, World.size_setCell, World.size_drew] at hsz); (try have hz0 : w.heap.size < xl.w.heap.size := (by omega)); (try have hz1 : w.heap.size + 1 < xl.w.heap.size := (by omega)); (try have hz2 : w.heap.size + 1 + 1 < xl.w.heap.size := (by omega))) | ((with_reducible refine (CR.out _ (hr.out.bel (by (repeat (first | (with_reducible exact Below.refl _ _) | (with_reducible assumption) | (with_reducible refine Later.out _ ?_) | (with_reducible refine bel_alloc ?_ _) | (with_reducible refine bel_drew ?_) | (with_reducible refine bel_drewN ?_ _) | (with_reducible refine bel_set ?_ ?_ _) | (with_reducible refine After.out _ ?_ ?_) | (dsimp only; omega) | omega | (simp only [World.size_alloc, World.size_setCell, World.size_drew]; omega)))))).mono ?_); rintro e w' ⟨rfl, xl, rfl⟩; have hsz := xl.bel.size; (try simp only [World.size_alloc, World.size_setCell, World.size_drew] at hsz); (try have hz0 : w.heap.size < xl.w.heap.size := (by omega)); (try have hz1 : w.heap.size + 1 < xl.w.heap.size := (by omega)); (try have hz2 : w.heap.size + 1 + 1 < xl.w.heap.size := (by omega)))) | (go_at_call 25; first | ((with_reducible refine (Calls.later (sIsMask_b _ _ _ _ _ _ _ _ h2)).mono ?_); rintro e w' ⟨rfl, xl, rfl⟩; have hsz := xl.bel.size; (try simp only [World.size_alloc, World.size_setCell, World.size_drew] at hsz); (try have hz0 : w.heap.size < xl.w.heap.size := (by omega)); (try have hz1 : w.heap.size + 1 < xl.w.heap.size := (by omega)); (try have hz2 : w.heap.size + 1 + 1 < xl.w.heap.size := (by omega))) | ((with_reducible refine (sIsMask_b _ _ _ _ _ _ _ _ h2).mono ?_); rintro e w' ⟨rfl, xl, rfl⟩; have hsz := xl.bel.size; (try simp only [World.size_alloc, World.size_setCell, World.size_drew] at hsz); (try have hz0 : w.heap.size < xl.w.heap.size := (by omega)); (try have hz1 : w.heap.size + 1 < xl.w.heap.size := (by omega)); (try have hz2 : w.heap.size + 1 + 1 < xl.w.heap.size := (by omega)))))
    refine bodyPost_ret (by simp [results, Try.results10, go_sem, ↓IntWalk.iteOmega, *]; try rfl) rfl ?_
    refine RetOwn.mk (.slice none 0 0) rfl (World.ownsRow_nil _ _ _ _) ?_
    (repeat (first | (with_reducible exact Below.refl _ _) | (with_reducible assumption) | (with_reducible refine Later.out _ ?_) | (with_reducible refine bel_alloc ?_ _) | (with_reducible refine bel_drew ?_) | (with_reducible refine bel_drewN ?_ _) | (with_reducible refine bel_set ?_ ?_ _) | (with_reducible refine After.out _ ?_ ?_) | (dsimp only; omega) | omega | (simp only [World.size_alloc, World.size_setCell, World.size_drew]; omega)))
  have hPB := Lib.hid (ringB_in h1)
  have bx := Lib.hid (box_of h2)
  obtain ⟨e1, p1, -⟩ := mask_len h2
  rw [h1] at hR0 CR
  rw [h2] at hR0
  simp only [Bool.and_self, if_true, Prod.mk.injEq] at hR0
  obtain ⟨⟨rfl, rfl, rfl, rfl, rfl⟩, rfl⟩ := hR0
  rw [length_ringL]
  replace CR := Lib.hid CR
  have HJ := Lib.hid (length_ringL L x y W m)
  have e1 := Lib.hid e1.symm
  clear h1
  go_enter Try.func10, Try.ntmps10
  go_wp2_with (first | (go_at_call 32; first | ((with_reducible refine (Calls.later (CR.out _ (hr.out.bel (by (repeat (first | (with_reducible exact Below.refl _ _) | (with_reducible assumption) | (with_reducible refine Later.out _ ?_) | (with_reducible refine bel_alloc ?_ _) | (with_reducible refine bel_drew ?_) | (with_reducible refine bel_drewN ?_ _) | (with_reducible refine bel_set ?_ ?_ _) | (with_reducible refine After.out _ ?_ ?_) | (dsimp only; omega) | omega | (simp only [World.size_alloc, World.size_setCell, World.size_drew]; omega))))))).mono ?_); rintro e w' ⟨rfl, xl, rfl⟩; have hsz := xl.bel.size; (try simp only [World.size_alloc, World.size_setCell, World.size_drew] at hsz); (try have hz0 : w.heap.size < xl.w.heap.size := (by omega)); (try have hz1 : w.heap.size + 1 < xl.w.heap.size := (by omega)); (try have hz2 : w.heap.size + 1 + 1 < xl.w.heap.size := (by omega))) | ((with_reducible refine (CR.out _ (hr.out.bel (by (repeat (first | (with_reducible exact Below.refl _ _) | (with_reducible assumption) | (with_reducible refine Later.out _ ?_) | (with_reducible refine bel_alloc ?_ _) | (with_reducible refine bel_drew ?_) | (with_reducible refine bel_drewN ?_ _) | (with_reducible refine bel_set ?_ ?_ _) | (with_reducible refine After.out _ ?_ ?_) | (dsimp only; omega) | omega | (simp only [World.size_alloc, World.size_setCell, World.size_drew]; omega)))))).mono ?_); rintro e w' ⟨rfl, xl, rfl⟩; have hsz := xl.bel.size; (try simp only [World.size_alloc, World.size_setCell, World.size_drew] at hsz); (try have hz0 : w.heap.size < xl.w.heap.size := (by omega)); (try have hz1 : w.heap.size + 1 < xl.w.heap.size := (by omega)); (try have hz2 : w.heap.size + 1 + 1 < xl.w.heap.size := (by omega)))) | (go_at_call 25; first | ((with_reducible refine (Calls.later (sIsMask_b _ _ _ _ _ _ _ _ h2)).mono ?_); rintro e w' ⟨rfl, xl, rfl⟩; have hsz := xl.bel.size; (try simp only [World.size_alloc, World.size_setCell, World.size_drew] at hsz); (try have hz0 : w.heap.size < xl.w.heap.size := (by omega)); (try have hz1 : w.heap.size + 1 < xl.w.heap.size := (by omega)); (try have hz2 : w.heap.size + 1 + 1 < xl.w.heap.size := (by omega))) | ((with_reducible refine (sIsMask_b _ _ _ _ _ _ _ _ h2).mono ?_); rintro e w' ⟨rfl, xl, rfl⟩; have hsz := xl.bel.size; (try simp only [World.size_alloc, World.size_setCell, World.size_drew] at hsz); (try have hz0 : w.heap.size < xl.w.heap.size := (by omega)); (try have hz1 : w.heap.size + 1 < xl.w.heap.size := (by omega)); (try have hz2 : w.heap.size + 1 + 1 < xl.w.heap.size := (by omega)))) | (go_at_call 33; refine (sEmpty_any x y W H ma m m mc _ e1.out hmm).mono ?_; rintro e w' ⟨a1, c1, rfl, hown, xl, rfl⟩; have HO := Lib.hid (Owns.of hown); clear hown; have hsz := xl.bel.size; (try simp only [World.size_alloc, World.size_setCell, World.size_drew] at hsz); (try have hz0 : w.heap.size < xl.w.heap.size := (by omega)); (try have hz1 : w.heap.size + 1 < xl.w.heap.size := (by omega)); (try have hz2 : w.heap.size + 1 + 1 < xl.w.heap.size := (by omega))))
  obtain ⟨g, rfl, g1, g2, -, -⟩ := HO.out.at_ (j := 0) (by omega)
  (try simp only [World.size_alloc] at g1)
  go_loopw [7, 22] (fun i j wr => ∃ k : Nat, k ≤ m ∧ j = .int .i64 k ∧ Between g (g + 1) (xl.w.alloc (.cells #[.int .i64 x, .int .i64 y, .int .i64 W, .int .i64 H, .slice (some ⟨g, 0, none⟩) m c1] 28)) wr ∧ Owns wr g (g + 1) 4 1 m (some ⟨g, 0, none⟩) c1 (fillPart (ringL L x y W m) m k)) (fun _ j _ => m - (intOf j).toNat)
  case atStart =>
    refine ⟨0, Nat.zero_le _, rfl, Between.refl _ _ _, ?_⟩
    rw [fillPart_zero]
    exact ⟨(World.ownsRow.alloc (own_lift HO.out.own) _), fun p hp => by injection hp with hp; subst hp; simp⟩
  case round =>
    obtain ⟨k, hk, rfl, hb, ho⟩ := hrel
    obtain ⟨z, rfl⟩ := AfterC.mk hb
    clear hb
    have hzs := z.btw.size
    (try simp only [World.size_alloc] at hzs)
    by_cases hlt : k < m
    · have hc := ho.own.cellAt k (by omega)
      rw [fillPart_old _ _ _ HJ.out hlt] at hc
      have hf := ho.own.frozenAt k
      have hst := Lib.hid (fillPart_step (ringL L x y W m) m k _ HJ.out (ringL_get L x y W m k hlt))
      have CP := Lib.hid (fun w => sPoint_any x y W H ma k m mc w bx.out hlt)
      have CS := Lib.hid (show ∀ w, Row w a (ptsCells L) → Calls Try.prog 34 #[.slice a n c, .agg #[.int .i64 (x + (k : Int) % W), .int .i64 (y + (k : Int) / W)]] w (Ret w (.int .i64 (sideZ L (ptAt x y W k)))) from fun w hr => sSide_any L (ptAt x y W k) a n c w hn hm hPB.out (ptAt_b bx.out hlt) hr)
      generalize hs : sideZ L (ptAt x y W k) = s at *
      clear hs
      have HP := Lib.hid ho
      have hlt' : (k : Int) < (m : Int) := by omega
      clear ho
      go_wp2
      refine wp_region_plan [(0, true), (1, true), (2, true), (3, true), (4, true), (5, true), (6, false), (7, false), (8, true), (9, true), (10, false)] (C := AfterC g (g + 1) _) (by kernel_rfl) (by kernel_rfl) (by kernel_rfl) rfl (fun _ _ d _ _ h => by cases d <;> exact h) (AfterC.mk ((Between.refl _ _ _).drew)) ?_
      first | (refine plan_quiet nth0 rfl ?_; intro KP hKP; go_big_quiet_op; go_big_quiet_on) | (refine plan_skip_q nth0 rfl rfl ?_; simp only [Act.put, List.setIfInBounds_toArray, List.set_cons_zero, List.set_cons_succ])
      first | (refine plan_quiet nth1 rfl ?_; intro KP hKP; go_big_quiet_op; go_big_quiet_on) | (refine plan_skip_q nth1 rfl rfl ?_; simp only [Act.put, List.setIfInBounds_toArray, List.set_cons_zero, List.set_cons_succ])
      first | (refine plan_quiet nth2 rfl ?_; intro KP hKP; go_big_quiet_op; go_big_quiet_on) | (refine plan_skip_q nth2 rfl rfl ?_; simp only [Act.put, List.setIfInBounds_toArray, List.set_cons_zero, List.set_cons_succ])
      first | (refine plan_quiet nth3 rfl ?_; intro KP hKP; go_big_quiet_op; go_big_quiet_on) | (refine plan_skip_q nth3 rfl rfl ?_; simp only [Act.put, List.setIfInBounds_toArray, List.set_cons_zero, List.set_cons_succ])
      first | (refine plan_quiet nth4 rfl ?_; intro KP hKP; go_big_quiet_op; go_big_quiet_on) | (refine plan_skip_q nth4 rfl rfl ?_; simp only [Act.put, List.setIfInBounds_toArray, List.set_cons_zero, List.set_cons_succ])
      first | (refine plan_quiet nth5 rfl ?_; intro KP hKP; go_big_quiet_op; go_big_quiet_on) | (refine plan_skip_q nth5 rfl rfl ?_; simp only [Act.put, List.setIfInBounds_toArray, List.set_cons_zero, List.set_cons_succ])
      first | (refine plan_loud nth6 rfl ?_; intro KP hKP; go_wp2_with (first | (go_at_call 35; (with_reducible refine (CP.out _).mono ?_); rintro e w' ⟨rfl, yl, rfl⟩; have hys := yl.bel.size; (try simp only [World.size_drew] at hys)) | (go_at_call 34; (with_reducible refine (CS.out _ (hr.out.bel (by (repeat (first | (with_reducible exact Below.refl _ _) | (with_reducible assumption) | (with_reducible refine Later.out _ ?_) | (with_reducible refine bel_alloc ?_ _) | (with_reducible refine bel_drew ?_) | (with_reducible refine bel_drewN ?_ _) | (with_reducible refine bel_set ?_ ?_ _) | (with_reducible refine After.out _ ?_ ?_) | (dsimp only; omega) | omega | (simp only [World.size_alloc, World.size_setCell, World.size_drew]; omega)))))).mono ?_); rintro e w' ⟨rfl, yl2, rfl⟩; have hys2 := yl2.bel.size; (try simp only [World.size_drew] at hys2))); refine hKP _ _ (AfterC.mk (by (repeat (first | (with_reducible exact Between.refl _ _ _) | (with_reducible refine Between.drew ?_) | (with_reducible refine Between.drewN ?_ _) | (with_reducible refine Between.set ?_ ?_ ?_ _) | (with_reducible refine btw_later _ ?_) | (with_reducible refine btw_alloc ?_ _) | (with_reducible refine btw_after _ ?_) | (with_reducible assumption) | (dsimp only; omega) | omega)))) ?_; clear hKP KP) | (refine plan_skip nth6 rfl rfl (AfterC.mk (by (repeat (first | (with_reducible exact Between.refl _ _ _) | (with_reducible refine Between.drew ?_) | (with_reducible refine Between.drewN ?_ _) | (with_reducible refine Between.set ?_ ?_ ?_ _) | (with_reducible refine btw_later _ ?_) | (with_reducible refine btw_alloc ?_ _) | (with_reducible refine btw_after _ ?_) | (with_reducible assumption) | (dsimp only; omega) | omega)))) ?_; simp only [Act.put, List.setIfInBounds_toArray, List.set_cons_zero, List.set_cons_succ])
      first | (refine plan_loud nth7 rfl ?_; intro KP hKP; go_wp2_with (first | (go_at_call 35; (with_reducible refine (CP.out _).mono ?_); rintro e w' ⟨rfl, yl, rfl⟩; have hys := yl.bel.size; (try simp only [World.size_drew] at hys)) | (go_at_call 34; (with_reducible refine (CS.out _ (hr.out.bel (by (repeat (first | (with_reducible exact Below.refl _ _) | (with_reducible assumption) | (with_reducible refine Later.out _ ?_) | (with_reducible refine bel_alloc ?_ _) | (with_reducible refine bel_drew ?_) | (with_reducible refine bel_drewN ?_ _) | (with_reducible refine bel_set ?_ ?_ _) | (with_reducible refine After.out _ ?_ ?_) | (dsimp only; omega) | omega | (simp only [World.size_alloc, World.size_setCell, World.size_drew]; omega)))))).mono ?_); rintro e w' ⟨rfl, yl2, rfl⟩; have hys2 := yl2.bel.size; (try simp only [World.size_drew] at hys2))); refine hKP _ _ (AfterC.mk (by (repeat (first | (with_reducible exact Between.refl _ _ _) | (with_reducible refine Between.drew ?_) | (with_reducible refine Between.drewN ?_ _) | (with_reducible refine Between.set ?_ ?_ ?_ _) | (with_reducible refine btw_later _ ?_) | (with_reducible refine btw_alloc ?_ _) | (with_reducible refine btw_after _ ?_) | (with_reducible assumption) | (dsimp only; omega) | omega)))) ?_; clear hKP KP) | (refine plan_skip nth7 rfl rfl (AfterC.mk (by (repeat (first | (with_reducible exact Between.refl _ _ _) | (with_reducible refine Between.drew ?_) | (with_reducible refine Between.drewN ?_ _) | (with_reducible refine Between.set ?_ ?_ ?_ _) | (with_reducible refine btw_later _ ?_) | (with_reducible refine btw_alloc ?_ _) | (with_reducible refine btw_after _ ?_) | (with_reducible assumption) | (dsimp only; omega) | omega)))) ?_; simp only [Act.put, List.setIfInBounds_toArray, List.set_cons_zero, List.set_cons_succ])
      first | (refine plan_quiet nth8 rfl ?_; intro KP hKP; go_big_quiet_op; go_big_quiet_on) | (refine plan_skip_q nth8 rfl rfl ?_; simp only [Act.put, List.setIfInBounds_toArray, List.set_cons_zero, List.set_cons_succ])
      first | (refine plan_quiet nth9 rfl ?_; intro KP hKP; go_big_quiet_op; go_big_quiet_on) | (refine plan_skip_q nth9 rfl rfl ?_; simp only [Act.put, List.setIfInBounds_toArray, List.set_cons_zero, List.set_cons_succ])
      first | (refine plan_loud nth10 rfl ?_; intro KP hKP; go_wp2_with (first | (go_at_call 35; (with_reducible refine (CP.out _).mono ?_); rintro e w' ⟨rfl, yl, rfl⟩; have hys := yl.bel.size; (try simp only [World.size_drew] at hys)) | (go_at_call 34; (with_reducible refine (CS.out _ (hr.out.bel (by (repeat (first | (with_reducible exact Below.refl _ _) | (with_reducible assumption) | (with_reducible refine Later.out _ ?_) | (with_reducible refine bel_alloc ?_ _) | (with_reducible refine bel_drew ?_) | (with_reducible refine bel_drewN ?_ _) | (with_reducible refine bel_set ?_ ?_ _) | (with_reducible refine After.out _ ?_ ?_) | (dsimp only; omega) | omega | (simp only [World.size_alloc, World.size_setCell, World.size_drew]; omega)))))).mono ?_); rintro e w' ⟨rfl, yl2, rfl⟩; have hys2 := yl2.bel.size; (try simp only [World.size_drew] at hys2))); refine hKP _ _ (AfterC.mk (by (repeat (first | (with_reducible exact Between.refl _ _ _) | (with_reducible refine Between.drew ?_) | (with_reducible refine Between.drewN ?_ _) | (with_reducible refine Between.set ?_ ?_ ?_ _) | (with_reducible refine btw_later _ ?_) | (with_reducible refine btw_alloc ?_ _) | (with_reducible refine btw_after _ ?_) | (with_reducible assumption) | (dsimp only; omega) | omega)))) ?_; clear hKP KP) | (refine plan_skip nth10 rfl rfl (AfterC.mk (by (repeat (first | (with_reducible exact Between.refl _ _ _) | (with_reducible refine Between.drew ?_) | (with_reducible refine Between.drewN ?_ _) | (with_reducible refine Between.set ?_ ?_ ?_ _) | (with_reducible refine btw_later _ ?_) | (with_reducible refine btw_alloc ?_ _) | (with_reducible refine btw_after _ ?_) | (with_reducible assumption) | (dsimp only; omega) | omega)))) ?_; simp only [Act.put, List.setIfInBounds_toArray, List.set_cons_zero, List.set_cons_succ])
      refine plan_nil ?_
      go_wp2
      go_roundw
      case rel =>
        refine ⟨k + 1, by omega, by go_num, ?_, ?_⟩
        · (repeat (first | (with_reducible exact Between.refl _ _ _) | (with_reducible refine Between.drew ?_) | (with_reducible refine Between.drewN ?_ _) | (with_reducible refine Between.set ?_ ?_ ?_ _) | (with_reducible refine btw_later _ ?_) | (with_reducible refine btw_alloc ?_ _) | (with_reducible refine btw_after _ ?_) | (with_reducible assumption) | (dsimp only; omega) | omega))
        · have h1 := (((HP.out.drewN 1).bel yl.bel (by simp only [World.size_drew]; omega)).bel yl2.bel (by omega)).set (j := k) (.bool (decide (0 ≤ s)))
          rw [hst.out] at h1
          exact h1
      case measure => simp [intOf]; omega
    · obtain rfl : k = m := by omega
      rw [fillPart_full _ _ HJ.out] at ho
      have HP := Lib.hid ho
      clear ho
      go_wp2
      refine bodyPost_ret (by simp [results, Try.results10, go_sem, ↓IntWalk.iteOmega, *]; try rfl) rfl ?_
      refine RetOwn.mk _ rfl ?_ ?_
      · (refine own_mono (base := ?ob1) ?oh1 ?os1; (case oh1 => ((repeat (with_reducible refine own_set ?_ ?_ _)); (with_reducible exact HP.out.own); all_goals (first | (dsimp only; omega) | omega | (simp only [World.size_alloc, World.size_setCell, World.size_drew]; omega)))); (case os1 => (first | (dsimp only; omega) | omega | (simp only [World.size_alloc, World.size_setCell, World.size_drew]; omega))))
      · (repeat (first | (with_reducible exact Below.refl _ _) | (with_reducible assumption) | (with_reducible refine Later.out _ ?_) | (with_reducible refine bel_alloc ?_ _) | (with_reducible refine bel_drew ?_) | (with_reducible refine bel_drewN ?_ _) | (with_reducible refine bel_set ?_ ?_ _) | (with_reducible refine After.out _ ?_ ?_) | (dsimp only; omega) | omega | (simp only [World.size_alloc, World.size_setCell, World.size_drew]; omega)))
end Go.Proofs.Ytkkhjbdnpobpnaa

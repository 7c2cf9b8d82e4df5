import Derived.Test.YtpblghjegbfjeaaDrawM
/- The draws of two masks and of one: a law needs no more of them than some masks with few cells. -/
set_option linter.unusedSimpArgs false
set_option linter.unusedVariables false
namespace Go.Proofs.Ytpblghjegbfjeaa
open Go.RowKit
/-- Two masks, whatever they are. -/
def RetTwoM (w : World) (e : Ending) (w' : World) : Prop :=
  ∃ (x y W H : Int) (a : Option Addr) (n c : Nat) (l : List Bool) (x' y' W' H' : Int) (a' : Option Addr) (n' c' : Nat) (l' : List Bool), l.length = n ∧ l'.length = n' ∧ n ≤ 1048576 ∧ n' ≤ 1048576 ∧
    e = .returned (.tuple #[.agg #[.int .i64 x, .int .i64 y, .int .i64 W, .int .i64 H, .slice a n c], .agg #[.int .i64 x', .int .i64 y', .int .i64 W', .int .i64 H', .slice a' n' c']]) ∧ ∃ z : Later w, w' = z.w ∧ Owns z.w w.heap.size z.w.heap.size 4 1 n a c (boolCells l) ∧ Owns z.w w.heap.size z.w.heap.size 4 1 n' a' c' (boolCells l')
theorem RetTwoM.mk {w w' : World} {e : Ending} {x y W H : Int} {a : Option Addr} {n c : Nat} {l : List Bool} {x' y' W' H' : Int} {a' : Option Addr} {n' c' : Nat} {l' : List Bool} (hl : l.length = n) (hl' : l'.length = n') (hn : n ≤ 1048576) (hn' : n' ≤ 1048576)
    (he : e = .returned (.tuple #[.agg #[.int .i64 x, .int .i64 y, .int .i64 W, .int .i64 H, .slice a n c], .agg #[.int .i64 x', .int .i64 y', .int .i64 W', .int .i64 H', .slice a' n' c']])) (hb : Below w.heap.size w w') (hr : Owns w' w.heap.size w'.heap.size 4 1 n a c (boolCells l)) (hr' : Owns w' w.heap.size w'.heap.size 4 1 n' a' c' (boolCells l')) : RetTwoM w e w' :=
  ⟨x, y, W, H, a, n, c, l, x', y', W', H', a', n', c', l', hl, hl', hn, hn', he, ⟨w', hb⟩, rfl, hr, hr'⟩
/-- One mask. -/
def RetOneM (w : World) (e : Ending) (w' : World) : Prop :=
  ∃ (x y W H : Int) (a : Option Addr) (n c : Nat) (l : List Bool), l.length = n ∧ n ≤ 1048576 ∧ e = .returned (.agg #[.int .i64 x, .int .i64 y, .int .i64 W, .int .i64 H, .slice a n c]) ∧ ∃ z : Later w, w' = z.w ∧ Owns z.w w.heap.size z.w.heap.size 4 1 n a c (boolCells l)
theorem RetOneM.mk {w w' : World} {e : Ending} {x y W H : Int} {a : Option Addr} {n c : Nat} {l : List Bool} (hl : l.length = n) (hn : n ≤ 1048576)
    (he : e = .returned (.agg #[.int .i64 x, .int .i64 y, .int .i64 W, .int .i64 H, .slice a n c])) (hb : Below w.heap.size w w') (hr : Owns w' w.heap.size w'.heap.size 4 1 n a c (boolCells l)) : RetOneM w e w' := ⟨x, y, W, H, a, n, c, l, hl, hn, he, ⟨w', hb⟩, rfl, hr⟩
section
variable (a : Option Addr) (n c : Nat) (bs : List Int) (w : World) (hr : Row w a (byteCells bs)) (hl : bs.length = n) (hn : n ≤ 4096) (hx : ∀ x ∈ bs, 0 ≤ x ∧ x ≤ 255)
include hr hl hn hx
set_option maxHeartbeats 2000000 in
theorem drawOneMask_any : Calls Try.prog 38 #[.slice a n c] w (RetOneM w) := by
  replace hr := Lib.hid hr
  replace hl := Lib.hid hl
  replace hx := Lib.hid hx
  go_enter Try.func38, Try.ntmps38
  go_wp2_with fail
  with_reducible refine (from_any a n c bs _ (hr.out.bel (by (repeat (first | (with_reducible exact Below.refl _ _) | (with_reducible assumption) | (with_reducible refine Later.out _ ?_) | (with_reducible refine bel_alloc ?_ _) | (with_reducible refine bel_drew ?_) | (with_reducible refine bel_drewN ?_ _) | (with_reducible refine bel_set ?_ ?_ _) | (with_reducible refine After.out _ ?_ ?_) | (dsimp only; omega) | omega | (simp only [World.size_alloc, World.size_setCell, World.size_drew]; omega))))) hl.out hn hx.out).mono ?_
  rintro e w' ⟨g, hg, rfl, y, rfl, hsrc⟩
  have hsy := y.bel.size
  (try simp only [World.size_alloc, World.size_setCell, World.size_drew] at hg hsy)
  have H0 := Lib.hid hsrc
  clear hsrc
  go_wp2_with fail
  with_reducible refine (sDraw_any g _ (by (repeat (first | (with_reducible exact H0.out) | (with_reducible refine SrcOk.alloc ?_ _) | (with_reducible refine SrcOk.set ?_ ?_ _) | (with_reducible refine SrcOk.drewN ?_ _) | (with_reducible refine SrcOk.drew ?_) | (with_reducible refine SrcOk.later _ ?_) | (with_reducible refine SrcOk.after _ ?_ ?_) | (dsimp only; omega) | omega | ((try simp only [World.size_alloc, World.size_setCell, World.size_drew]); omega))))).mono ?_
  rintro e w' ⟨x, y', W, H, a2, n2, c2, l2, ⟨k1, k2, k3, k4, k5, k6, k7, k8, k9⟩, hl2, rfl, z1, rfl, hsrc, ho⟩
  have hs1 := z1.btw.size
  have HO := Lib.hid ho
  clear ho
  have u1 : w.heap.size < y.w.heap.size := (by omega)
  have u2 : w.heap.size < z1.w.heap.size := (by omega)
  go_wp2_with fail
  refine bodyPost_ret (by simp [results, Try.results38, go_sem, ↓IntWalk.iteOmega, *]; try rfl) rfl ?_
  have hb : Below w.heap.size w z1.w := z1.out (by (repeat (first | (with_reducible exact Below.refl _ _) | (with_reducible assumption) | (with_reducible refine Later.out _ ?_) | (with_reducible refine bel_alloc ?_ _) | (with_reducible refine bel_drew ?_) | (with_reducible refine bel_drewN ?_ _) | (with_reducible refine bel_set ?_ ?_ _) | (with_reducible refine After.out _ ?_ ?_) | (dsimp only; omega) | omega | (simp only [World.size_alloc, World.size_setCell, World.size_drew]; omega)))) (by omega)
  refine RetOneM.mk hl2 (by omega) rfl ?_ ?_
  · (repeat (first | (with_reducible exact Below.refl _ _) | (with_reducible assumption) | (with_reducible refine Later.out _ ?_) | (with_reducible refine bel_alloc ?_ _) | (with_reducible refine bel_drew ?_) | (with_reducible refine bel_drewN ?_ _) | (with_reducible refine bel_set ?_ ?_ _) | (with_reducible refine After.out _ ?_ ?_) | (dsimp only; omega) | omega | (simp only [World.size_alloc, World.size_setCell, World.size_drew]; omega)))
  · refine owns_wide (lo := y.w.heap.size) (hi := z1.w.heap.size) ?_ (by omega) (by (try simp only [World.size_alloc, World.size_setCell, World.size_drew]); omega)
    (repeat (first | (with_reducible exact HO.out) | (with_reducible refine owns_after _ ?_ ?_) | (with_reducible refine owns_later _ ?_ ?_) | (with_reducible refine owns_alloc ?_ _) | (with_reducible refine owns_set ?_ ?_ _) | (with_reducible refine Owns.drewN ?_ _) | (with_reducible refine owns_drew ?_) | (dsimp only; omega) | omega | ((try simp only [World.size_alloc, World.size_setCell, World.size_drew]); omega)))
set_option maxRecDepth 4000 in
set_option maxHeartbeats 8000000 in
theorem sDrawTwo_any : Calls Try.prog 79 #[.slice a n c] w (RetTwoM w) := by
  replace hr := Lib.hid hr
  replace hl := Lib.hid hl
  replace hx := Lib.hid hx
  go_enter Try.func79, Try.ntmps79
  go_wp2_with fail
  with_reducible refine (from_any a n c bs _ (hr.out.bel (by (repeat (first | (with_reducible exact Below.refl _ _) | (with_reducible assumption) | (with_reducible refine Later.out _ ?_) | (with_reducible refine bel_alloc ?_ _) | (with_reducible refine bel_drew ?_) | (with_reducible refine bel_drewN ?_ _) | (with_reducible refine bel_set ?_ ?_ _) | (with_reducible refine After.out _ ?_ ?_) | (dsimp only; omega) | omega | (simp only [World.size_alloc, World.size_setCell, World.size_drew]; omega))))) hl.out hn hx.out).mono ?_
  rintro e w' ⟨g, hg, rfl, y, rfl, hsrc⟩
  have hsy := y.bel.size
  (try simp only [World.size_alloc, World.size_setCell, World.size_drew] at hg hsy)
  have H0 := Lib.hid hsrc
  have hgy := hsrc.lt
  clear hsrc
  go_wp2_with fail
  with_reducible refine (sDraw_any g _ (by (repeat (first | (with_reducible exact H0.out) | (with_reducible refine SrcOk.alloc ?_ _) | (with_reducible refine SrcOk.set ?_ ?_ _) | (with_reducible refine SrcOk.drewN ?_ _) | (with_reducible refine SrcOk.drew ?_) | (with_reducible refine SrcOk.later _ ?_) | (with_reducible refine SrcOk.after _ ?_ ?_) | (dsimp only; omega) | omega | ((try simp only [World.size_alloc, World.size_setCell, World.size_drew]); omega))))).mono ?_
  rintro e w' ⟨x, y', W, H, a2, n2, c2, l2, ⟨k1, k2, k3, k4, k5, k6, k7, k8, k9⟩, hl2, rfl, z1, rfl, hsrc, ho⟩
  have hs1 := z1.btw.size
  have H1 := Lib.hid hsrc
  have HO := Lib.hid ho
  clear ho hsrc
  go_wp2_with fail
  with_reducible refine (next_any g 12 _ (by (repeat (first | (with_reducible exact H1.out) | (with_reducible refine SrcOk.alloc ?_ _) | (with_reducible refine SrcOk.set ?_ ?_ _) | (with_reducible refine SrcOk.drewN ?_ _) | (with_reducible refine SrcOk.drew ?_) | (with_reducible refine SrcOk.later _ ?_) | (with_reducible refine SrcOk.after _ ?_ ?_) | (dsimp only; omega) | omega | ((try simp only [World.size_alloc, World.size_setCell, World.size_drew]); omega))))).mono ?_
  rintro e w' ⟨r, hdraw, rfl, z2, rfl, hsrc⟩
  have hsz2 := z2.btw.size
  (try simp only [World.size_alloc, World.size_setCell, World.size_drew] at hsz2)
  have H2 := Lib.hid hsrc
  clear hsrc
  obtain ⟨r0, r1⟩ := hdraw
  have u1 : w.heap.size < y.w.heap.size := (by omega)
  have u2 : w.heap.size < z1.w.heap.size := (by omega)
  have u3 : w.heap.size < z2.w.heap.size := (by omega)
  have u4 : w.heap.size + 1 < y.w.heap.size := (by omega)
  have u5 : w.heap.size + 1 < z1.w.heap.size := (by omega)
  have u6 : w.heap.size + 1 < z2.w.heap.size := (by omega)
  have u7 : z1.w.heap.size < z2.w.heap.size := (by omega)
  by_cases hr0 : r = 0
  · subst hr0
    go_wp2_with fail
    refine wp_region_plan [(0, true), (1, true), (2, false), (3, false), (4, false)] (C := AftRC g w.heap.size (w.heap.size + 2) _) (by kernel_rfl) (by kernel_rfl) (by kernel_rfl) rfl (fun _ _ d _ _ h => by cases d <;> exact h) (AftRC.mk ((ButR.refl _ _ _ _).drew)) ?_
    first | (refine plan_quiet nth0 rfl ?_; intro KP hKP; go_big_quiet_op; go_big_quiet_on) | (refine plan_skip_q nth0 rfl rfl ?_; simp only [Act.put, List.setIfInBounds_toArray, List.set_cons_zero, List.set_cons_succ])
    first | (refine plan_quiet nth1 rfl ?_; intro KP hKP; go_big_quiet_op; go_big_quiet_on) | (refine plan_skip_q nth1 rfl rfl ?_; simp only [Act.put, List.setIfInBounds_toArray, List.set_cons_zero, List.set_cons_succ])
    first | (refine plan_loud nth2 rfl ?_; intro KP hKP; go_wp2_with (first | (go_at_call 80; (with_reducible refine (sDraw_any g _ (by (repeat (first | (with_reducible exact H2.out) | (with_reducible refine SrcOk.alloc ?_ _) | (with_reducible refine SrcOk.set ?_ ?_ _) | (with_reducible refine SrcOk.drewN ?_ _) | (with_reducible refine SrcOk.drew ?_) | (with_reducible refine SrcOk.later _ ?_) | (with_reducible refine SrcOk.after _ ?_ ?_) | (dsimp only; omega) | omega | ((try simp only [World.size_alloc, World.size_setCell, World.size_drew]); omega))))).mono ?_); rintro e w' ⟨x4, y4', W4, H4, a4, n4, c4, l4, ⟨m1, m2, m3, m4, m5, m6, m7, m8, m9⟩, hl4, rfl, z4, rfl, hsrc, ho⟩; have hs4 := z4.btw.size; have H4' := Lib.hid hsrc; have HO4 := Lib.hid ho; clear ho hsrc; (try simp only [World.size_alloc, World.size_setCell, World.size_drew] at hs4 HO4); have v1 : w.heap.size < z4.w.heap.size := (by omega); have v2 : w.heap.size + 1 < z4.w.heap.size := (by omega))); refine hKP _ _ (AftRC.mk (by (repeat (first | (with_reducible exact ButR.refl _ _ _ _) | (with_reducible refine ButR.drew ?_) | (with_reducible refine ButR.drewN ?_ _) | (with_reducible refine ButR.set ?_ ?_ _) | (with_reducible refine ButR.after _ ?_) | (with_reducible refine butr_later _ ?_) | (with_reducible refine butr_alloc ?_ _) | (with_reducible assumption) | (exact .inl rfl) | (dsimp only; omega) | omega)))) ?_; clear hKP KP) | (refine plan_skip nth2 rfl rfl (AftRC.mk (by (repeat (first | (with_reducible exact ButR.refl _ _ _ _) | (with_reducible refine ButR.drew ?_) | (with_reducible refine ButR.drewN ?_ _) | (with_reducible refine ButR.set ?_ ?_ _) | (with_reducible refine ButR.after _ ?_) | (with_reducible refine butr_later _ ?_) | (with_reducible refine butr_alloc ?_ _) | (with_reducible assumption) | (exact .inl rfl) | (dsimp only; omega) | omega)))) ?_; simp only [Act.put, List.setIfInBounds_toArray, List.set_cons_zero, List.set_cons_succ])
    first | (refine plan_loud nth3 rfl ?_; intro KP hKP; go_wp2_with (first | (go_at_call 80; (with_reducible refine (sDraw_any g _ (by (repeat (first | (with_reducible exact H2.out) | (with_reducible refine SrcOk.alloc ?_ _) | (with_reducible refine SrcOk.set ?_ ?_ _) | (with_reducible refine SrcOk.drewN ?_ _) | (with_reducible refine SrcOk.drew ?_) | (with_reducible refine SrcOk.later _ ?_) | (with_reducible refine SrcOk.after _ ?_ ?_) | (dsimp only; omega) | omega | ((try simp only [World.size_alloc, World.size_setCell, World.size_drew]); omega))))).mono ?_); rintro e w' ⟨x4, y4', W4, H4, a4, n4, c4, l4, ⟨m1, m2, m3, m4, m5, m6, m7, m8, m9⟩, hl4, rfl, z4, rfl, hsrc, ho⟩; have hs4 := z4.btw.size; have H4' := Lib.hid hsrc; have HO4 := Lib.hid ho; clear ho hsrc; (try simp only [World.size_alloc, World.size_setCell, World.size_drew] at hs4 HO4); have v1 : w.heap.size < z4.w.heap.size := (by omega); have v2 : w.heap.size + 1 < z4.w.heap.size := (by omega))); refine hKP _ _ (AftRC.mk (by (repeat (first | (with_reducible exact ButR.refl _ _ _ _) | (with_reducible refine ButR.drew ?_) | (with_reducible refine ButR.drewN ?_ _) | (with_reducible refine ButR.set ?_ ?_ _) | (with_reducible refine ButR.after _ ?_) | (with_reducible refine butr_later _ ?_) | (with_reducible refine butr_alloc ?_ _) | (with_reducible assumption) | (exact .inl rfl) | (dsimp only; omega) | omega)))) ?_; clear hKP KP) | (refine plan_skip nth3 rfl rfl (AftRC.mk (by (repeat (first | (with_reducible exact ButR.refl _ _ _ _) | (with_reducible refine ButR.drew ?_) | (with_reducible refine ButR.drewN ?_ _) | (with_reducible refine ButR.set ?_ ?_ _) | (with_reducible refine ButR.after _ ?_) | (with_reducible refine butr_later _ ?_) | (with_reducible refine butr_alloc ?_ _) | (with_reducible assumption) | (exact .inl rfl) | (dsimp only; omega) | omega)))) ?_; simp only [Act.put, List.setIfInBounds_toArray, List.set_cons_zero, List.set_cons_succ])
    first | (refine plan_loud nth4 rfl ?_; intro KP hKP; go_wp2_with (first | (go_at_call 80; (with_reducible refine (sDraw_any g _ (by (repeat (first | (with_reducible exact H2.out) | (with_reducible refine SrcOk.alloc ?_ _) | (with_reducible refine SrcOk.set ?_ ?_ _) | (with_reducible refine SrcOk.drewN ?_ _) | (with_reducible refine SrcOk.drew ?_) | (with_reducible refine SrcOk.later _ ?_) | (with_reducible refine SrcOk.after _ ?_ ?_) | (dsimp only; omega) | omega | ((try simp only [World.size_alloc, World.size_setCell, World.size_drew]); omega))))).mono ?_); rintro e w' ⟨x4, y4', W4, H4, a4, n4, c4, l4, ⟨m1, m2, m3, m4, m5, m6, m7, m8, m9⟩, hl4, rfl, z4, rfl, hsrc, ho⟩; have hs4 := z4.btw.size; have H4' := Lib.hid hsrc; have HO4 := Lib.hid ho; clear ho hsrc; (try simp only [World.size_alloc, World.size_setCell, World.size_drew] at hs4 HO4); have v1 : w.heap.size < z4.w.heap.size := (by omega); have v2 : w.heap.size + 1 < z4.w.heap.size := (by omega))); refine hKP _ _ (AftRC.mk (by (repeat (first | (with_reducible exact ButR.refl _ _ _ _) | (with_reducible refine ButR.drew ?_) | (with_reducible refine ButR.drewN ?_ _) | (with_reducible refine ButR.set ?_ ?_ _) | (with_reducible refine ButR.after _ ?_) | (with_reducible refine butr_later _ ?_) | (with_reducible refine butr_alloc ?_ _) | (with_reducible assumption) | (exact .inl rfl) | (dsimp only; omega) | omega)))) ?_; clear hKP KP) | (refine plan_skip nth4 rfl rfl (AftRC.mk (by (repeat (first | (with_reducible exact ButR.refl _ _ _ _) | (with_reducible refine ButR.drew ?_) | (with_reducible refine ButR.drewN ?_ _) | (with_reducible refine ButR.set ?_ ?_ _) | (with_reducible refine ButR.after _ ?_) | (with_reducible refine butr_later _ ?_) | (with_reducible refine butr_alloc ?_ _) | (with_reducible assumption) | (exact .inl rfl) | (dsimp only; omega) | omega)))) ?_; simp only [Act.put, List.setIfInBounds_toArray, List.set_cons_zero, List.set_cons_succ])
    refine plan_nil ?_
    go_wp2_with fail
    refine bodyPost_ret (by simp [results, Try.results79, go_sem, ↓IntWalk.iteOmega, *]; try rfl) rfl ?_
    refine RetTwoM.mk hl2 hl4 (by omega) (by omega) rfl ?_ ?_ ?_
    · (repeat (first | (with_reducible exact Below.refl _ _) | (with_reducible assumption) | (with_reducible refine Later.out _ ?_) | (with_reducible refine bel_alloc ?_ _) | (with_reducible refine bel_drew ?_) | (with_reducible refine bel_drewN ?_ _) | (with_reducible refine bel_set ?_ ?_ _) | (with_reducible refine After.out _ ?_ ?_) | (dsimp only; omega) | omega | (simp only [World.size_alloc, World.size_setCell, World.size_drew]; omega)))
    · refine owns_wide (lo := y.w.heap.size) (hi := z1.w.heap.size) ?_ (by omega) (by (try simp only [World.size_alloc, World.size_setCell, World.size_drew]); omega)
      (repeat (first | (with_reducible exact HO.out) | (with_reducible refine owns_after _ ?_ ?_) | (with_reducible refine owns_later _ ?_ ?_) | (with_reducible refine owns_alloc ?_ _) | (with_reducible refine owns_set ?_ ?_ _) | (with_reducible refine Owns.drewN ?_ _) | (with_reducible refine owns_drew ?_) | (dsimp only; omega) | omega | ((try simp only [World.size_alloc, World.size_setCell, World.size_drew]); omega)))
    · refine owns_wide (lo := z2.w.heap.size) (hi := z4.w.heap.size) ?_ (by omega) (by (try simp only [World.size_alloc, World.size_setCell, World.size_drew]); omega)
      (repeat (first | (with_reducible exact HO4.out) | (with_reducible refine owns_after _ ?_ ?_) | (with_reducible refine owns_later _ ?_ ?_) | (with_reducible refine owns_alloc ?_ _) | (with_reducible refine owns_set ?_ ?_ _) | (with_reducible refine Owns.drewN ?_ _) | (with_reducible refine owns_drew ?_) | (dsimp only; omega) | omega | ((try simp only [World.size_alloc, World.size_setCell, World.size_drew]); omega)))
  · have hr0' : (r == 0) = false := by rw [beq_eq_false_iff_ne]; exact hr0
    cases hM : isMaskB x y' W H n2
    · replace hM := Lib.hid hM
      go_wp2_with fail
      with_reducible refine (sIsMask_b _ _ _ _ _ _ _ _ hM.out).mono ?_
      rintro e w' ⟨rfl, y3, rfl⟩
      have hsy3 := y3.bel.size
      (try simp only [World.size_alloc, World.size_setCell, World.size_drew] at hsy3)
      have u8 : w.heap.size < y3.w.heap.size := (by omega)
      have u9 : w.heap.size + 1 < y3.w.heap.size := (by omega)
      have u10 : z1.w.heap.size < y3.w.heap.size := (by omega)
      go_wp2_with fail
      refine wp_region_plan [(0, true), (1, true), (2, false), (3, false), (4, false)] (C := AftRC g w.heap.size (w.heap.size + 2) _) (by kernel_rfl) (by kernel_rfl) (by kernel_rfl) rfl (fun _ _ d _ _ h => by cases d <;> exact h) (AftRC.mk ((ButR.refl _ _ _ _).drew)) ?_
      first | (refine plan_quiet nth0 rfl ?_; intro KP hKP; go_big_quiet_op; go_big_quiet_on) | (refine plan_skip_q nth0 rfl rfl ?_; simp only [Act.put, List.setIfInBounds_toArray, List.set_cons_zero, List.set_cons_succ])
      first | (refine plan_quiet nth1 rfl ?_; intro KP hKP; go_big_quiet_op; go_big_quiet_on) | (refine plan_skip_q nth1 rfl rfl ?_; simp only [Act.put, List.setIfInBounds_toArray, List.set_cons_zero, List.set_cons_succ])
      first | (refine plan_loud nth2 rfl ?_; intro KP hKP; go_wp2_with (first | (go_at_call 80; (with_reducible refine (sDraw_any g _ (by (repeat (first | (with_reducible exact H2.out) | (with_reducible refine SrcOk.alloc ?_ _) | (with_reducible refine SrcOk.set ?_ ?_ _) | (with_reducible refine SrcOk.drewN ?_ _) | (with_reducible refine SrcOk.drew ?_) | (with_reducible refine SrcOk.later _ ?_) | (with_reducible refine SrcOk.after _ ?_ ?_) | (dsimp only; omega) | omega | ((try simp only [World.size_alloc, World.size_setCell, World.size_drew]); omega))))).mono ?_); rintro e w' ⟨x4, y4', W4, H4, a4, n4, c4, l4, ⟨m1, m2, m3, m4, m5, m6, m7, m8, m9⟩, hl4, rfl, z4, rfl, hsrc, ho⟩; have hs4 := z4.btw.size; have H4' := Lib.hid hsrc; have HO4 := Lib.hid ho; clear ho hsrc; (try simp only [World.size_alloc, World.size_setCell, World.size_drew] at hs4 HO4); have v1 : w.heap.size < z4.w.heap.size := (by omega); have v2 : w.heap.size + 1 < z4.w.heap.size := (by omega))); refine hKP _ _ (AftRC.mk (by (repeat (first | (with_reducible exact ButR.refl _ _ _ _) | (with_reducible refine ButR.drew ?_) | (with_reducible refine ButR.drewN ?_ _) | (with_reducible refine ButR.set ?_ ?_ _) | (with_reducible refine ButR.after _ ?_) | (with_reducible refine butr_later _ ?_) | (with_reducible refine butr_alloc ?_ _) | (with_reducible assumption) | (exact .inl rfl) | (dsimp only; omega) | omega)))) ?_; clear hKP KP) | (refine plan_skip nth2 rfl rfl (AftRC.mk (by (repeat (first | (with_reducible exact ButR.refl _ _ _ _) | (with_reducible refine ButR.drew ?_) | (with_reducible refine ButR.drewN ?_ _) | (with_reducible refine ButR.set ?_ ?_ _) | (with_reducible refine ButR.after _ ?_) | (with_reducible refine butr_later _ ?_) | (with_reducible refine butr_alloc ?_ _) | (with_reducible assumption) | (exact .inl rfl) | (dsimp only; omega) | omega)))) ?_; simp only [Act.put, List.setIfInBounds_toArray, List.set_cons_zero, List.set_cons_succ])
      first | (refine plan_loud nth3 rfl ?_; intro KP hKP; go_wp2_with (first | (go_at_call 80; (with_reducible refine (sDraw_any g _ (by (repeat (first | (with_reducible exact H2.out) | (with_reducible refine SrcOk.alloc ?_ _) | (with_reducible refine SrcOk.set ?_ ?_ _) | (with_reducible refine SrcOk.drewN ?_ _) | (with_reducible refine SrcOk.drew ?_) | (with_reducible refine SrcOk.later _ ?_) | (with_reducible refine SrcOk.after _ ?_ ?_) | (dsimp only; omega) | omega | ((try simp only [World.size_alloc, World.size_setCell, World.size_drew]); omega))))).mono ?_); rintro e w' ⟨x4, y4', W4, H4, a4, n4, c4, l4, ⟨m1, m2, m3, m4, m5, m6, m7, m8, m9⟩, hl4, rfl, z4, rfl, hsrc, ho⟩; have hs4 := z4.btw.size; have H4' := Lib.hid hsrc; have HO4 := Lib.hid ho; clear ho hsrc; (try simp only [World.size_alloc, World.size_setCell, World.size_drew] at hs4 HO4); have v1 : w.heap.size < z4.w.heap.size := (by omega); have v2 : w.heap.size + 1 < z4.w.heap.size := (by omega))); refine hKP _ _ (AftRC.mk (by (repeat (first | (with_reducible exact ButR.refl _ _ _ _) | (with_reducible refine ButR.drew ?_) | (with_reducible refine ButR.drewN ?_ _) | (with_reducible refine ButR.set ?_ ?_ _) | (with_reducible refine ButR.after _ ?_) | (with_reducible refine butr_later _ ?_) | (with_reducible refine butr_alloc ?_ _) | (with_reducible assumption) | (exact .inl rfl) | (dsimp only; omega) | omega)))) ?_; clear hKP KP) | (refine plan_skip nth3 rfl rfl (AftRC.mk (by (repeat (first | (with_reducible exact ButR.refl _ _ _ _) | (with_reducible refine ButR.drew ?_) | (with_reducible refine ButR.drewN ?_ _) | (with_reducible refine ButR.set ?_ ?_ _) | (with_reducible refine ButR.after _ ?_) | (with_reducible refine butr_later _ ?_) | (with_reducible refine butr_alloc ?_ _) | (with_reducible assumption) | (exact .inl rfl) | (dsimp only; omega) | omega)))) ?_; simp only [Act.put, List.setIfInBounds_toArray, List.set_cons_zero, List.set_cons_succ])
      first | (refine plan_loud nth4 rfl ?_; intro KP hKP; go_wp2_with (first | (go_at_call 80; (with_reducible refine (sDraw_any g _ (by (repeat (first | (with_reducible exact H2.out) | (with_reducible refine SrcOk.alloc ?_ _) | (with_reducible refine SrcOk.set ?_ ?_ _) | (with_reducible refine SrcOk.drewN ?_ _) | (with_reducible refine SrcOk.drew ?_) | (with_reducible refine SrcOk.later _ ?_) | (with_reducible refine SrcOk.after _ ?_ ?_) | (dsimp only; omega) | omega | ((try simp only [World.size_alloc, World.size_setCell, World.size_drew]); omega))))).mono ?_); rintro e w' ⟨x4, y4', W4, H4, a4, n4, c4, l4, ⟨m1, m2, m3, m4, m5, m6, m7, m8, m9⟩, hl4, rfl, z4, rfl, hsrc, ho⟩; have hs4 := z4.btw.size; have H4' := Lib.hid hsrc; have HO4 := Lib.hid ho; clear ho hsrc; (try simp only [World.size_alloc, World.size_setCell, World.size_drew] at hs4 HO4); have v1 : w.heap.size < z4.w.heap.size := (by omega); have v2 : w.heap.size + 1 < z4.w.heap.size := (by omega))); refine hKP _ _ (AftRC.mk (by (repeat (first | (with_reducible exact ButR.refl _ _ _ _) | (with_reducible refine ButR.drew ?_) | (with_reducible refine ButR.drewN ?_ _) | (with_reducible refine ButR.set ?_ ?_ _) | (with_reducible refine ButR.after _ ?_) | (with_reducible refine butr_later _ ?_) | (with_reducible refine butr_alloc ?_ _) | (with_reducible assumption) | (exact .inl rfl) | (dsimp only; omega) | omega)))) ?_; clear hKP KP) | (refine plan_skip nth4 rfl rfl (AftRC.mk (by (repeat (first | (with_reducible exact ButR.refl _ _ _ _) | (with_reducible refine ButR.drew ?_) | (with_reducible refine ButR.drewN ?_ _) | (with_reducible refine ButR.set ?_ ?_ _) | (with_reducible refine ButR.after _ ?_) | (with_reducible refine butr_later _ ?_) | (with_reducible refine butr_alloc ?_ _) | (with_reducible assumption) | (exact .inl rfl) | (dsimp only; omega) | omega)))) ?_; simp only [Act.put, List.setIfInBounds_toArray, List.set_cons_zero, List.set_cons_succ])
      refine plan_nil ?_
      go_wp2_with fail
      refine bodyPost_ret (by simp [results, Try.results79, go_sem, ↓IntWalk.iteOmega, *]; try rfl) rfl ?_
      refine RetTwoM.mk hl2 hl4 (by omega) (by omega) rfl ?_ ?_ ?_
      · (repeat (first | (with_reducible exact Below.refl _ _) | (with_reducible assumption) | (with_reducible refine Later.out _ ?_) | (with_reducible refine bel_alloc ?_ _) | (with_reducible refine bel_drew ?_) | (with_reducible refine bel_drewN ?_ _) | (with_reducible refine bel_set ?_ ?_ _) | (with_reducible refine After.out _ ?_ ?_) | (dsimp only; omega) | omega | (simp only [World.size_alloc, World.size_setCell, World.size_drew]; omega)))
      · refine owns_wide (lo := y.w.heap.size) (hi := z1.w.heap.size) ?_ (by omega) (by (try simp only [World.size_alloc, World.size_setCell, World.size_drew]); omega)
        (repeat (first | (with_reducible exact HO.out) | (with_reducible refine owns_after _ ?_ ?_) | (with_reducible refine owns_later _ ?_ ?_) | (with_reducible refine owns_alloc ?_ _) | (with_reducible refine owns_set ?_ ?_ _) | (with_reducible refine Owns.drewN ?_ _) | (with_reducible refine owns_drew ?_) | (dsimp only; omega) | omega | ((try simp only [World.size_alloc, World.size_setCell, World.size_drew]); omega)))
      · refine owns_wide (lo := y3.w.heap.size) (hi := z4.w.heap.size) ?_ (by omega) (by (try simp only [World.size_alloc, World.size_setCell, World.size_drew]); omega)
        (repeat (first | (with_reducible exact HO4.out) | (with_reducible refine owns_after _ ?_ ?_) | (with_reducible refine owns_later _ ?_ ?_) | (with_reducible refine owns_alloc ?_ _) | (with_reducible refine owns_set ?_ ?_ _) | (with_reducible refine Owns.drewN ?_ _) | (with_reducible refine owns_drew ?_) | (dsimp only; omega) | omega | ((try simp only [World.size_alloc, World.size_setCell, World.size_drew]); omega)))
    · have hn1 := (mask_len hM).1
      have hpos := (mask_len hM).2.1
      replace hM := Lib.hid hM
      go_wp2_with fail
      with_reducible refine (sIsMask_b _ _ _ _ _ _ _ _ hM.out).mono ?_
      rintro e w' ⟨rfl, y3, rfl⟩
      have hsy3 := y3.bel.size
      (try simp only [World.size_alloc, World.size_setCell, World.size_drew] at hsy3)
      have u8 : w.heap.size < y3.w.heap.size := (by omega)
      have u9 : w.heap.size + 1 < y3.w.heap.size := (by omega)
      have u10 : z1.w.heap.size < y3.w.heap.size := (by omega)
      go_wp2_with fail
      with_reducible refine (sEmpty_any x y' W H a2 n2 n2 c2 _ hn1.symm (by omega)).mono ?_
      rintro e w' ⟨a5, c5, rfl, hown, y5, rfl⟩
      have hsy5 := y5.bel.size
      (try simp only [World.size_alloc, World.size_setCell, World.size_drew] at hsy5)
      have O5 := Lib.hid (Owns.of hown)
      clear hown
      have u11 : w.heap.size < y5.w.heap.size := (by omega)
      have u12 : w.heap.size + 1 < y5.w.heap.size := (by omega)
      have u13 : z1.w.heap.size < y5.w.heap.size := (by omega)
      obtain ⟨gk, rfl, g1, g2, -, -⟩ := O5.out.at_ (j := 0) (by omega)
      (try simp only [World.size_alloc, World.size_setCell, World.size_drew] at g1 g2)
      have HO5 := Lib.hid (show Owns y5.w gk (gk + 1) 4 1 n2 (some ⟨gk, 0, none⟩) c5 (boolCells (List.replicate n2 false)) from by
        rw [show boolCells (List.replicate n2 false) = List.replicate n2 (.bool false) by simp [boolCells]]
        (repeat (first | (with_reducible exact owns_tight O5.out) | (with_reducible refine owns_after _ ?_ ?_) | (with_reducible refine owns_later _ ?_ ?_) | (with_reducible refine owns_alloc ?_ _) | (with_reducible refine owns_set ?_ ?_ _) | (with_reducible refine Owns.drewN ?_ _) | (with_reducible refine owns_drew ?_) | (dsimp only; omega) | omega | ((try simp only [World.size_alloc, World.size_setCell, World.size_drew]); omega))))
      go_upto_region 7 with fail
      obtain ⟨V, hV⟩ : ∃ V, V = y5.w.alloc (.cells #[.int .i64 x, .int .i64 y', .int .i64 W, .int .i64 H, .slice (some ⟨gk, 0, none⟩) n2 c5] 31) := ⟨_, rfl⟩
      have hVs : V.heap.size = y5.w.heap.size + 1 := by rw [hV]; simp
      have HSV := Lib.hid (show SrcOk V g by rw [hV]; (repeat (first | (with_reducible exact H2.out) | (with_reducible refine SrcOk.alloc ?_ _) | (with_reducible refine SrcOk.set ?_ ?_ _) | (with_reducible refine SrcOk.drewN ?_ _) | (with_reducible refine SrcOk.drew ?_) | (with_reducible refine SrcOk.later _ ?_) | (with_reducible refine SrcOk.after _ ?_ ?_) | (dsimp only; omega) | omega | ((try simp only [World.size_alloc, World.size_setCell, World.size_drew]); omega))))
      have HOV := Lib.hid (show Owns V gk (gk + 1) 4 1 n2 (some ⟨gk, 0, none⟩) c5 (boolCells (List.replicate n2 false)) by rw [hV]; (repeat (first | (with_reducible exact HO5.out) | (with_reducible refine owns_after _ ?_ ?_) | (with_reducible refine owns_later _ ?_ ?_) | (with_reducible refine owns_alloc ?_ _) | (with_reducible refine owns_set ?_ ?_ _) | (with_reducible refine Owns.drewN ?_ _) | (with_reducible refine owns_drew ?_) | (dsimp only; omega) | omega | ((try simp only [World.size_alloc, World.size_setCell, World.size_drew]); omega))))
      go_loopw [7, 28] (fun i j wr => ∃ (k : Nat) (l : List Bool), k ≤ n2 ∧ l.length = n2 ∧ j = .int .i64 k ∧ SrcOk wr g ∧ Owns wr gk (gk + 1) 4 1 n2 (some ⟨gk, 0, none⟩) c5 (boolCells l) ∧ But g gk V wr) (fun _ j _ => n2 - (intOf j).toNat)
      case atStart => exact ⟨0, List.replicate n2 false, Nat.zero_le _, by simp, rfl, by rw [← hV]; exact HSV.out, by rw [← hV]; exact HOV.out, by rw [← hV]; exact But.refl _ _ _⟩
      case round =>
        obtain ⟨k, l, hk, hlk, rfl, hs, ho, hb⟩ := hrel
        obtain ⟨q, rfl⟩ := AftC.mk hb
        have hqs := q.but.size
        replace hs := Lib.hid hs
        subst hV
        clear hb HO5 HSV HOV
        (try simp only [World.size_alloc] at hqs hVs)
        have u14 : w.heap.size < q.w.heap.size := (by omega)
        have u15 : w.heap.size + 1 < q.w.heap.size := (by omega)
        have u16 : z1.w.heap.size < q.w.heap.size := (by omega)
        have u17 : gk < q.w.heap.size := (by omega)
        have u18 : y5.w.heap.size < q.w.heap.size := (by omega)
        by_cases hlt : k < n2
        · have hc := ho.own.cellAt k (by omega)
          have hlk2 : (boolCells l)[k]? = some (.bool (l[k]'(by omega))) := boolCells_get (by omega)
          rw [hlk2] at hc
          clear hlk2
          obtain ⟨B, hB⟩ : ∃ B, l[k]'(by omega) = B := ⟨_, rfl⟩
          rw [hB] at hc
          have hf := ho.own.frozenAt k
          replace ho := Lib.hid ho
          have i1 : (k : Int) < (n2 : Int) := by omega
          clear hB
          go_wp2_with fail
          refine wp_region_plan [(0, true), (1, true), (2, true), (3, true), (4, false), (5, true), (6, true), (7, false)] (C := AftC g gk _) (by kernel_rfl) (by kernel_rfl) (by kernel_rfl) rfl (fun _ _ d _ _ h => by cases d <;> exact h) (AftC.mk ((But.refl _ _ _).drew)) ?_
          first | (refine plan_quiet nth0 rfl ?_; intro KP hKP; go_big_quiet_op; go_big_quiet_on) | (refine plan_skip_q nth0 rfl rfl ?_; simp only [Act.put, List.setIfInBounds_toArray, List.set_cons_zero, List.set_cons_succ])
          first | (refine plan_quiet nth1 rfl ?_; intro KP hKP; go_big_quiet_op; go_big_quiet_on) | (refine plan_skip_q nth1 rfl rfl ?_; simp only [Act.put, List.setIfInBounds_toArray, List.set_cons_zero, List.set_cons_succ])
          first | (refine plan_quiet nth2 rfl ?_; intro KP hKP; go_big_quiet_op; go_big_quiet_on) | (refine plan_skip_q nth2 rfl rfl ?_; simp only [Act.put, List.setIfInBounds_toArray, List.set_cons_zero, List.set_cons_succ])
          first | (refine plan_quiet nth3 rfl ?_; intro KP hKP; go_big_quiet_op; go_big_quiet_on) | (refine plan_skip_q nth3 rfl rfl ?_; simp only [Act.put, List.setIfInBounds_toArray, List.set_cons_zero, List.set_cons_succ])
          first | (refine plan_loud nth4 rfl ?_; intro KP hKP; go_wp2_with (first | (go_at_call 87; (with_reducible refine (next_any g 2 _ (by (repeat (first | (with_reducible exact hs.out) | (with_reducible refine SrcOk.alloc ?_ _) | (with_reducible refine SrcOk.set ?_ ?_ _) | (with_reducible refine SrcOk.drewN ?_ _) | (with_reducible refine SrcOk.drew ?_) | (with_reducible refine SrcOk.later _ ?_) | (with_reducible refine SrcOk.after _ ?_ ?_) | (dsimp only; omega) | omega | ((try simp only [World.size_alloc, World.size_setCell, World.size_drew]); omega))))).mono ?_); rintro e w' ⟨p6, hdraw, rfl, z6, rfl, hsrc⟩; have hsz6 := z6.btw.size; (try simp only [World.size_alloc, World.size_setCell, World.size_drew] at hsz6); have H6 := Lib.hid hsrc; clear hsrc; obtain ⟨p60, p61⟩ := hdraw)); refine hKP _ _ (AftC.mk (by (repeat (first | (with_reducible exact But.refl _ _ _) | (with_reducible refine But.drew ?_) | (with_reducible refine But.drewN ?_ _) | (with_reducible refine But.set ?_ ?_ _) | (with_reducible refine But.after _ ?_) | (with_reducible refine but_later _ ?_) | (with_reducible refine but_alloc ?_ _) | (with_reducible assumption) | (exact .inl rfl) | (exact .inr rfl) | (dsimp only; omega) | omega)))) ?_; clear hKP KP) | (refine plan_skip nth4 rfl rfl (AftC.mk (by (repeat (first | (with_reducible exact But.refl _ _ _) | (with_reducible refine But.drew ?_) | (with_reducible refine But.drewN ?_ _) | (with_reducible refine But.set ?_ ?_ _) | (with_reducible refine But.after _ ?_) | (with_reducible refine but_later _ ?_) | (with_reducible refine but_alloc ?_ _) | (with_reducible assumption) | (exact .inl rfl) | (exact .inr rfl) | (dsimp only; omega) | omega)))) ?_; simp only [Act.put, List.setIfInBounds_toArray, List.set_cons_zero, List.set_cons_succ])
          first | (refine plan_quiet nth5 rfl ?_; intro KP hKP; go_big_quiet_op; go_big_quiet_on) | (refine plan_skip_q nth5 rfl rfl ?_; simp only [Act.put, List.setIfInBounds_toArray, List.set_cons_zero, List.set_cons_succ])
          first | (refine plan_quiet nth6 rfl ?_; intro KP hKP; go_big_quiet_op; go_big_quiet_on) | (refine plan_skip_q nth6 rfl rfl ?_; simp only [Act.put, List.setIfInBounds_toArray, List.set_cons_zero, List.set_cons_succ])
          first | (refine plan_loud nth7 rfl ?_; intro KP hKP; go_wp2_with (first | (go_at_call 87; (with_reducible refine (next_any g 2 _ (by (repeat (first | (with_reducible exact hs.out) | (with_reducible refine SrcOk.alloc ?_ _) | (with_reducible refine SrcOk.set ?_ ?_ _) | (with_reducible refine SrcOk.drewN ?_ _) | (with_reducible refine SrcOk.drew ?_) | (with_reducible refine SrcOk.later _ ?_) | (with_reducible refine SrcOk.after _ ?_ ?_) | (dsimp only; omega) | omega | ((try simp only [World.size_alloc, World.size_setCell, World.size_drew]); omega))))).mono ?_); rintro e w' ⟨p6, hdraw, rfl, z6, rfl, hsrc⟩; have hsz6 := z6.btw.size; (try simp only [World.size_alloc, World.size_setCell, World.size_drew] at hsz6); have H6 := Lib.hid hsrc; clear hsrc; obtain ⟨p60, p61⟩ := hdraw)); refine hKP _ _ (AftC.mk (by (repeat (first | (with_reducible exact But.refl _ _ _) | (with_reducible refine But.drew ?_) | (with_reducible refine But.drewN ?_ _) | (with_reducible refine But.set ?_ ?_ _) | (with_reducible refine But.after _ ?_) | (with_reducible refine but_later _ ?_) | (with_reducible refine but_alloc ?_ _) | (with_reducible assumption) | (exact .inl rfl) | (exact .inr rfl) | (dsimp only; omega) | omega)))) ?_; clear hKP KP) | (refine plan_skip nth7 rfl rfl (AftC.mk (by (repeat (first | (with_reducible exact But.refl _ _ _) | (with_reducible refine But.drew ?_) | (with_reducible refine But.drewN ?_ _) | (with_reducible refine But.set ?_ ?_ _) | (with_reducible refine But.after _ ?_) | (with_reducible refine but_later _ ?_) | (with_reducible refine but_alloc ?_ _) | (with_reducible assumption) | (exact .inl rfl) | (exact .inr rfl) | (dsimp only; omega) | omega)))) ?_; simp only [Act.put, List.setIfInBounds_toArray, List.set_cons_zero, List.set_cons_succ])
          refine plan_nil ?_
          go_wp2_with fail
          go_roundw
          case rel =>
            refine ⟨k + 1, _, by omega, ?_, by go_num, ?_, owns_setB (owns_after z6 (owns_drew ho.out) (by omega)) _, ?_⟩
            · simp [hlk]
            · (repeat (first | (with_reducible exact H6.out) | (with_reducible refine SrcOk.alloc ?_ _) | (with_reducible refine SrcOk.set ?_ ?_ _) | (with_reducible refine SrcOk.drewN ?_ _) | (with_reducible refine SrcOk.drew ?_) | (with_reducible refine SrcOk.later _ ?_) | (with_reducible refine SrcOk.after _ ?_ ?_) | (dsimp only; omega) | omega | ((try simp only [World.size_alloc, World.size_setCell, World.size_drew]); omega)))
            · exact But.set (But.after z6 q.but.drew) (.inr rfl) _
          case measure => first | (simp [intOf]; done) | (simp [intOf]; omega) | omega
        · obtain rfl : k = n2 := by omega
          have i1 : ¬ (k : Int) < (k : Int) := by omega
          go_wp2_with fail
          refine wp_region_plan [(0, true), (1, true), (2, false), (3, false)] (C := AftRC g w.heap.size (w.heap.size + 2) _) (by kernel_rfl) (by kernel_rfl) (by kernel_rfl) rfl (fun _ _ d _ _ h => by cases d <;> exact h) (AftRC.mk ((ButR.refl _ _ _ _).drew)) ?_
          first | (refine plan_quiet nth0 rfl ?_; intro KP hKP; go_big_quiet_op; go_big_quiet_on) | (refine plan_skip_q nth0 rfl rfl ?_; simp only [Act.put, List.setIfInBounds_toArray, List.set_cons_zero, List.set_cons_succ])
          first | (refine plan_quiet nth1 rfl ?_; intro KP hKP; go_big_quiet_op; go_big_quiet_on) | (refine plan_skip_q nth1 rfl rfl ?_; simp only [Act.put, List.setIfInBounds_toArray, List.set_cons_zero, List.set_cons_succ])
          first | (refine plan_loud nth2 rfl ?_; intro KP hKP; go_wp2_with fail; refine hKP _ _ (AftRC.mk (by (repeat (first | (with_reducible exact ButR.refl _ _ _ _) | (with_reducible refine ButR.drew ?_) | (with_reducible refine ButR.drewN ?_ _) | (with_reducible refine ButR.set ?_ ?_ _) | (with_reducible refine ButR.after _ ?_) | (with_reducible refine butr_later _ ?_) | (with_reducible refine butr_alloc ?_ _) | (with_reducible assumption) | (exact .inl rfl) | (dsimp only; omega) | omega)))) ?_; clear hKP KP) | (refine plan_skip nth2 rfl rfl (AftRC.mk (by (repeat (first | (with_reducible exact ButR.refl _ _ _ _) | (with_reducible refine ButR.drew ?_) | (with_reducible refine ButR.drewN ?_ _) | (with_reducible refine ButR.set ?_ ?_ _) | (with_reducible refine ButR.after _ ?_) | (with_reducible refine butr_later _ ?_) | (with_reducible refine butr_alloc ?_ _) | (with_reducible assumption) | (exact .inl rfl) | (dsimp only; omega) | omega)))) ?_; simp only [Act.put, List.setIfInBounds_toArray, List.set_cons_zero, List.set_cons_succ])
          first | (refine plan_loud nth3 rfl ?_; intro KP hKP; go_wp2_with fail; refine hKP _ _ (AftRC.mk (by (repeat (first | (with_reducible exact ButR.refl _ _ _ _) | (with_reducible refine ButR.drew ?_) | (with_reducible refine ButR.drewN ?_ _) | (with_reducible refine ButR.set ?_ ?_ _) | (with_reducible refine ButR.after _ ?_) | (with_reducible refine butr_later _ ?_) | (with_reducible refine butr_alloc ?_ _) | (with_reducible assumption) | (exact .inl rfl) | (dsimp only; omega) | omega)))) ?_; clear hKP KP) | (refine plan_skip nth3 rfl rfl (AftRC.mk (by (repeat (first | (with_reducible exact ButR.refl _ _ _ _) | (with_reducible refine ButR.drew ?_) | (with_reducible refine ButR.drewN ?_ _) | (with_reducible refine ButR.set ?_ ?_ _) | (with_reducible refine ButR.after _ ?_) | (with_reducible refine butr_later _ ?_) | (with_reducible refine butr_alloc ?_ _) | (with_reducible assumption) | (exact .inl rfl) | (dsimp only; omega) | omega)))) ?_; simp only [Act.put, List.setIfInBounds_toArray, List.set_cons_zero, List.set_cons_succ])
          refine plan_nil ?_
          go_wp2_with fail
          refine bodyPost_ret (by simp [results, Try.results79, go_sem, ↓IntWalk.iteOmega, *]; try rfl) rfl ?_
          have hb5 : Below w.heap.size w q.w := by
            have h5 : Below w.heap.size w (y5.w.alloc (.cells #[.int .i64 x, .int .i64 y', .int .i64 W, .int .i64 H, .slice (some ⟨gk, 0, none⟩) k c5] 31)) := by (repeat (first | (with_reducible exact Below.refl _ _) | (with_reducible assumption) | (with_reducible refine Later.out _ ?_) | (with_reducible refine bel_alloc ?_ _) | (with_reducible refine bel_drew ?_) | (with_reducible refine bel_drewN ?_ _) | (with_reducible refine bel_set ?_ ?_ _) | (with_reducible refine After.out _ ?_ ?_) | (dsimp only; omega) | omega | (simp only [World.size_alloc, World.size_setCell, World.size_drew]; omega)))
            exact ⟨q.but.os.trans h5.os, q.but.tape.trans h5.tape, q.but.output.trans h5.output, Nat.le_trans h5.size q.but.size, fun i hi => (q.but.block i (by have := h5.size; omega) (by omega) (by omega)).trans (h5.block i hi)⟩
          refine RetTwoM.mk hl2 hlk (by omega) (by omega) rfl ?_ ?_ ?_
          · (repeat (first | (with_reducible exact Below.refl _ _) | (with_reducible assumption) | (with_reducible refine Later.out _ ?_) | (with_reducible refine bel_alloc ?_ _) | (with_reducible refine bel_drew ?_) | (with_reducible refine bel_drewN ?_ _) | (with_reducible refine bel_set ?_ ?_ _) | (with_reducible refine After.out _ ?_ ?_) | (dsimp only; omega) | omega | (simp only [World.size_alloc, World.size_setCell, World.size_drew]; omega)))
          · have hq : Owns q.w y.w.heap.size z1.w.heap.size 4 1 k a2 c2 (boolCells l2) := by
              have h5 : Owns (y5.w.alloc (.cells #[.int .i64 x, .int .i64 y', .int .i64 W, .int .i64 H, .slice (some ⟨gk, 0, none⟩) k c5] 31)) y.w.heap.size z1.w.heap.size 4 1 k a2 c2 (boolCells l2) := by (repeat (first | (with_reducible exact HO.out) | (with_reducible refine owns_after _ ?_ ?_) | (with_reducible refine owns_later _ ?_ ?_) | (with_reducible refine owns_alloc ?_ _) | (with_reducible refine owns_set ?_ ?_ _) | (with_reducible refine Owns.drewN ?_ _) | (with_reducible refine owns_drew ?_) | (dsimp only; omega) | omega | ((try simp only [World.size_alloc, World.size_setCell, World.size_drew]); omega)))
              exact ⟨by
                refine ⟨h5.own.1, ?_⟩
                rcases h5.own.2 with h6 | ⟨g7, cap, cur, hv, hg7, hh, r7⟩
                · exact .inl h6
                · refine .inr ⟨g7, cap, cur, hv, hg7, (q.but.block g7 (Array.getElem?_eq_some_iff.1 hh).1 (by omega) ?_).trans hh, r7⟩
                  have e7 : a2 = some ⟨g7, 0, none⟩ := by injection hv
                  have := h5.lt _ e7
                  simp only at this
                  omega, h5.lt⟩
            refine owns_wide (lo := y.w.heap.size) (hi := z1.w.heap.size) ?_ (by omega) (by (try simp only [World.size_alloc, World.size_setCell, World.size_drew]); omega)
            (repeat (first | (with_reducible exact hq) | (with_reducible refine owns_after _ ?_ ?_) | (with_reducible refine owns_later _ ?_ ?_) | (with_reducible refine owns_alloc ?_ _) | (with_reducible refine owns_set ?_ ?_ _) | (with_reducible refine Owns.drewN ?_ _) | (with_reducible refine owns_drew ?_) | (dsimp only; omega) | omega | ((try simp only [World.size_alloc, World.size_setCell, World.size_drew]); omega)))
          · refine owns_wide (lo := gk) (hi := gk + 1) ?_ (by omega) (by (try simp only [World.size_alloc, World.size_setCell, World.size_drew]); omega)
            (repeat (first | (with_reducible exact ho) | (with_reducible refine owns_after _ ?_ ?_) | (with_reducible refine owns_later _ ?_ ?_) | (with_reducible refine owns_alloc ?_ _) | (with_reducible refine owns_set ?_ ?_ _) | (with_reducible refine Owns.drewN ?_ _) | (with_reducible refine owns_drew ?_) | (dsimp only; omega) | omega | ((try simp only [World.size_alloc, World.size_setCell, World.size_drew]); omega)))
set_option maxHeartbeats 2000000 in
theorem drawTwoMasks_any : Calls Try.prog 37 #[.slice a n c] w (RetTwoM w) := by
  replace hr := Lib.hid hr
  replace hl := Lib.hid hl
  replace hx := Lib.hid hx
  go_enter Try.func37, Try.ntmps37
  go_wp2_with fail
  with_reducible refine (sDrawTwo_any a n c bs _ (hr.out.bel (by (repeat (first | (with_reducible exact Below.refl _ _) | (with_reducible assumption) | (with_reducible refine Later.out _ ?_) | (with_reducible refine bel_alloc ?_ _) | (with_reducible refine bel_drew ?_) | (with_reducible refine bel_drewN ?_ _) | (with_reducible refine bel_set ?_ ?_ _) | (with_reducible refine After.out _ ?_ ?_) | (dsimp only; omega) | omega | (simp only [World.size_alloc, World.size_setCell, World.size_drew]; omega))))) hl.out hn hx.out).mono ?_
  rintro e w' ⟨x, y, W, H, a1, n1, c1, l1, x', y', W', H', a2, n2, c2, l2, hn1, hn2, hm1, hm2, rfl, z, rfl, hr1, hr2⟩
  have hsz := z.bel.size
  (try simp only [World.size_alloc, World.size_setCell, World.size_drew] at hsz)
  have u1 : w.heap.size < z.w.heap.size := (by omega)
  have u2 : w.heap.size + 1 < z.w.heap.size := (by omega)
  (try simp only [World.size_alloc, World.size_setCell, World.size_drew] at hr1 hr2)
  replace hr1 := Lib.hid hr1
  replace hr2 := Lib.hid hr2
  go_wp2_with fail
  refine bodyPost_ret (by simp [results, Try.results37, go_sem, ↓IntWalk.iteOmega, *]; try rfl) rfl ?_
  refine RetTwoM.mk hn1 hn2 hm1 hm2 rfl ?_ ?_ ?_
  · (repeat (first | (with_reducible exact Below.refl _ _) | (with_reducible assumption) | (with_reducible refine Later.out _ ?_) | (with_reducible refine bel_alloc ?_ _) | (with_reducible refine bel_drew ?_) | (with_reducible refine bel_drewN ?_ _) | (with_reducible refine bel_set ?_ ?_ _) | (with_reducible refine After.out _ ?_ ?_) | (dsimp only; omega) | omega | (simp only [World.size_alloc, World.size_setCell, World.size_drew]; omega)))
  · refine owns_wide (lo := w.heap.size + 1 + 1) (hi := z.w.heap.size) ?_ (by omega) (by (try simp only [World.size_alloc, World.size_setCell, World.size_drew]); omega)
    (repeat (first | (with_reducible exact hr1.out) | (with_reducible refine owns_after _ ?_ ?_) | (with_reducible refine owns_later _ ?_ ?_) | (with_reducible refine owns_alloc ?_ _) | (with_reducible refine owns_set ?_ ?_ _) | (with_reducible refine Owns.drewN ?_ _) | (with_reducible refine owns_drew ?_) | (dsimp only; omega) | omega | ((try simp only [World.size_alloc, World.size_setCell, World.size_drew]); omega)))
  · refine owns_wide (lo := w.heap.size + 1 + 1) (hi := z.w.heap.size) ?_ (by omega) (by (try simp only [World.size_alloc, World.size_setCell, World.size_drew]); omega)
    (repeat (first | (with_reducible exact hr2.out) | (with_reducible refine owns_after _ ?_ ?_) | (with_reducible refine owns_later _ ?_ ?_) | (with_reducible refine owns_alloc ?_ _) | (with_reducible refine owns_set ?_ ?_ _) | (with_reducible refine Owns.drewN ?_ _) | (with_reducible refine owns_drew ?_) | (dsimp only; omega) | omega | ((try simp only [World.size_alloc, World.size_setCell, World.size_drew]); omega)))
end
end Go.Proofs.Ytpblghjegbfjeaa

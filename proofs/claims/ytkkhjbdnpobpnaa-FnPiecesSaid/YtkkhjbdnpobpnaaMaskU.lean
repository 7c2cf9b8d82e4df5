import Derived.Test.YtkkhjbdnpobpnaaPackMa
/- Two masks: whether they have the same box; unions, meetings, differences. -/
set_option linter.unusedSimpArgs false
set_option linter.unusedVariables false
namespace Go.Proofs.Ytkkhjbdnpobpnaa
open Go.RowKit
section
variable (x y W H x' y' W' H' : Int) (l l' : List Bool) (a a' : Option Addr) (n n' c c' : Nat) (w : World)
def fitsB : Bool := x == x' && y == y' && W == W' && H == H'
set_option maxHeartbeats 400000 in
theorem fits_any : Calls Try.prog 65 #[.agg #[.int .i64 x, .int .i64 y, .int .i64 W, .int .i64 H, .slice a n c], .agg #[.int .i64 x', .int .i64 y', .int .i64 W', .int .i64 H', .slice a' n' c']] w (Ret w (.bool (fitsB x y W H x' y' W' H'))) := by
  have HX := Lib.hid (show fitsB x y W H x' y' W' H' = (x == x' && y == y' && W == W' && H == H') from rfl)
  go_enter Try.func65, Try.ntmps65
  go_wp2
  all_goals go_ret
  all_goals
    refine .mk (congrArg (fun b => Ending.returned (Value.bool b)) ?_) ?_
    · rw [HX.out]; simp_all
    (repeat (first | (with_reducible exact Below.refl _ _) | (with_reducible assumption) | (with_reducible refine Later.out _ ?_) | (with_reducible refine bel_alloc ?_ _) | (with_reducible refine bel_drew ?_) | (with_reducible refine bel_drewN ?_ _) | (with_reducible refine bel_set ?_ ?_ _) | (with_reducible refine After.out _ ?_ ?_) | (dsimp only; omega) | omega | (simp only [World.size_alloc, World.size_setCell, World.size_drew]; omega)))
/-- The error of two masks. -/
def twoCode : Int := if isMaskB x y W H n && isMaskB x' y' W' H' n' then (if fitsB x y W H x' y' W' H' then 0 else 5) else 1
end

/-- What the closure of two masks finds: the operation, and the two masks' cells. -/
structure Cap (w : World) (F b0 b1 b2 n c n' c' : Nat) (a a' : Option Addr) (l l' : List Bool) : Prop where
  c0 : w.cell? ⟨b0, 0, none⟩ = some (.func (.func F) #[] #[])
  c1 : w.cell? ⟨b1, 4, none⟩ = some (.slice a n c)
  c2 : w.cell? ⟨b2, 4, none⟩ = some (.slice a' n' c')
  r1 : Row w a (boolCells l)
  r2 : Row w a' (boolCells l')
  e1 : l.length = n
  e2 : l'.length = n'
theorem Cap.bel {w w' : World} {F b0 b1 b2 n c n' c' : Nat} {a a' : Option Addr} {l l' : List Bool} (h : Cap w F b0 b1 b2 n c n' c' a a' l l') (hb : Below w.heap.size w w') : Cap w' F b0 b1 b2 n c n' c' a a' l l' :=
  ⟨(hb.cell (World.block_lt_of_cell? w _ h.c0)).trans h.c0, (hb.cell (World.block_lt_of_cell? w _ h.c1)).trans h.c1, (hb.cell (World.block_lt_of_cell? w _ h.c2)).trans h.c2, h.r1.bel hb, h.r2.bel hb, h.e1, h.e2⟩

def op_dif : Bool → Bool → Bool := fun p q => p && !q
theorem dif_any (p q : Bool) (w : World) : Calls Try.prog 40 #[.bool p, .bool q] w (Ret w (.bool (op_dif p q))) := by
  cases p <;> cases q
  all_goals
    go_enter Try.func40, Try.ntmps40
    go_wp2
    go_ret
    exact .mk rfl (Below.refl _ _)
set_option maxHeartbeats 400000 in
theorem dif_cell (j b0 b1 b2 n c n' c' : Nat) (a a' : Option Addr) (l l' : List Bool) (w : World) (h : Cap w 40 b0 b1 b2 n c n' c' a a' l l') (hj : j < l.length) (hj' : j < l'.length) (hm : n ≤ 1048576) (hm' : n' ≤ 1048576) :
    Calls Try.prog 66 #[.int .i64 j, .pointer (some ⟨b0, 0, none⟩), .pointer (some ⟨b1, 0, none⟩), .pointer (some ⟨b2, 0, none⟩)] w (Ret w (.bool (op_dif l[j] l'[j]))) := by
  obtain ⟨c0, c1, c2, r1, r2, rfl, rfl⟩ := h
  obtain ⟨ab, ao, rfl, hc⟩ := r1 j _ (boolCells_get hj)
  obtain ⟨ab', ao', rfl, hc'⟩ := r2 j _ (boolCells_get hj')
  have q0 := World.block_lt_of_cell? w _ c0
  have q1 := World.block_lt_of_cell? w _ c1
  have q2 := World.block_lt_of_cell? w _ c2
  have q3 := World.block_lt_of_cell? w _ hc
  have q4 := World.block_lt_of_cell? w _ hc'
  dsimp only at q0 q1 q2 q3 q4
  have i1 : (j : Int) < (l.length : Int) := by omega
  have i2 : (j : Int) < (l'.length : Int) := by omega
  clear r1 r2
  go_enter Try.func66, Try.ntmps66
  go_wp2
  refine wp_region_plan [(0, true), (1, true), (2, true), (3, true), (4, true), (5, true), (6, true), (7, true), (8, true), (9, true), (10, true), (11, false), (12, true)] (C := LaterC _) (by kernel_rfl) (by kernel_rfl) (by kernel_rfl) rfl (fun _ _ d _ _ h => by cases d <;> exact h) (LaterC.mk ((Below.refl _ _).drew)) ?_
  first | (refine plan_quiet nth0 rfl ?_; intro KP hKP; go_big_quiet_op; go_big_quiet_on) | (refine plan_skip_q nth0 rfl rfl ?_; simp only [Act.put, List.setIfInBounds_toArray, List.set_cons_zero, List.set_cons_succ])
  first | (refine plan_quiet nth1 rfl ?_; intro KP hKP; go_big_quiet_op; go_big_quiet_on) | (refine plan_skip_q nth1 rfl rfl ?_; simp only [Act.put, List.setIfInBounds_toArray, List.set_cons_zero, List.set_cons_succ])
  first | (refine plan_quiet nth2 rfl ?_; intro KP hKP; go_big_quiet_op; go_big_quiet_on) | (refine plan_skip_q nth2 rfl rfl ?_; simp only [Act.put, List.setIfInBounds_toArray, List.set_cons_zero, List.set_cons_succ])
  first | (refine plan_quiet nth3 rfl ?_; intro KP hKP; go_big_quiet_op; go_big_quiet_on) | (refine plan_skip_q nth3 rfl rfl ?_; simp only [Act.put, List.setIfInBounds_toArray, List.set_cons_zero, List.set_cons_succ])
  first | (refine plan_quiet nth4 rfl ?_; intro KP hKP; go_big_quiet_op; go_big_quiet_on) | (refine plan_skip_q nth4 rfl rfl ?_; simp only [Act.put, List.setIfInBounds_toArray, List.set_cons_zero, List.set_cons_succ])
  first | (refine plan_quiet nth5 rfl ?_; intro KP hKP; go_big_quiet_op; go_big_quiet_on) | (refine plan_skip_q nth5 rfl rfl ?_; simp only [Act.put, List.setIfInBounds_toArray, List.set_cons_zero, List.set_cons_succ])
  first | (refine plan_quiet nth6 rfl ?_; intro KP hKP; go_big_quiet_op; go_big_quiet_on) | (refine plan_skip_q nth6 rfl rfl ?_; simp only [Act.put, List.setIfInBounds_toArray, List.set_cons_zero, List.set_cons_succ])
  first | (refine plan_quiet nth7 rfl ?_; intro KP hKP; go_big_quiet_op; go_big_quiet_on) | (refine plan_skip_q nth7 rfl rfl ?_; simp only [Act.put, List.setIfInBounds_toArray, List.set_cons_zero, List.set_cons_succ])
  first | (refine plan_quiet nth8 rfl ?_; intro KP hKP; go_big_quiet_op; go_big_quiet_on) | (refine plan_skip_q nth8 rfl rfl ?_; simp only [Act.put, List.setIfInBounds_toArray, List.set_cons_zero, List.set_cons_succ])
  first | (refine plan_quiet nth9 rfl ?_; intro KP hKP; go_big_quiet_op; go_big_quiet_on) | (refine plan_skip_q nth9 rfl rfl ?_; simp only [Act.put, List.setIfInBounds_toArray, List.set_cons_zero, List.set_cons_succ])
  first | (refine plan_quiet nth10 rfl ?_; intro KP hKP; go_big_quiet_op; go_big_quiet_on) | (refine plan_skip_q nth10 rfl rfl ?_; simp only [Act.put, List.setIfInBounds_toArray, List.set_cons_zero, List.set_cons_succ])
  first | (refine plan_loud nth11 rfl ?_; intro KP hKP; go_wp2_with (first | (go_at_call 40; first | ((with_reducible refine (Calls.later (dif_any _ _ _)).mono ?_); rintro e w' ⟨rfl, xl, rfl⟩; have hsz := xl.bel.size; (try simp only [World.size_alloc, World.size_setCell, World.size_drew] at hsz); (try have hz0 : w.heap.size < xl.w.heap.size := (by omega)); (try have hz1 : w.heap.size + 1 < xl.w.heap.size := (by omega)); (try have hz2 : w.heap.size + 1 + 1 < xl.w.heap.size := (by omega))) | ((with_reducible refine (dif_any _ _ _).mono ?_); rintro e w' ⟨rfl, xl, rfl⟩; have hsz := xl.bel.size; (try simp only [World.size_alloc, World.size_setCell, World.size_drew] at hsz); (try have hz0 : w.heap.size < xl.w.heap.size := (by omega)); (try have hz1 : w.heap.size + 1 < xl.w.heap.size := (by omega)); (try have hz2 : w.heap.size + 1 + 1 < xl.w.heap.size := (by omega))))); refine hKP _ _ (LaterC.mk (by (repeat (first | (with_reducible exact Below.refl _ _) | (with_reducible assumption) | (with_reducible refine Later.out _ ?_) | (with_reducible refine bel_alloc ?_ _) | (with_reducible refine bel_drew ?_) | (with_reducible refine bel_drewN ?_ _) | (with_reducible refine bel_set ?_ ?_ _) | (with_reducible refine After.out _ ?_ ?_) | (dsimp only; omega) | omega | (simp only [World.size_alloc, World.size_setCell, World.size_drew]; omega))))) ?_; clear hKP KP) | (refine plan_skip nth11 rfl rfl (LaterC.mk (by (repeat (first | (with_reducible exact Below.refl _ _) | (with_reducible assumption) | (with_reducible refine Later.out _ ?_) | (with_reducible refine bel_alloc ?_ _) | (with_reducible refine bel_drew ?_) | (with_reducible refine bel_drewN ?_ _) | (with_reducible refine bel_set ?_ ?_ _) | (with_reducible refine After.out _ ?_ ?_) | (dsimp only; omega) | omega | (simp only [World.size_alloc, World.size_setCell, World.size_drew]; omega))))) ?_; simp only [Act.put, List.setIfInBounds_toArray, List.set_cons_zero, List.set_cons_succ])
  first | (refine plan_quiet nth12 rfl ?_; intro KP hKP; go_big_quiet_op; go_big_quiet_on) | (refine plan_skip_q nth12 rfl rfl ?_; simp only [Act.put, List.setIfInBounds_toArray, List.set_cons_zero, List.set_cons_succ])
  refine plan_nil ?_
  go_wp2
  go_ret
  refine .mk rfl ?_
  (repeat (first | (with_reducible exact Below.refl _ _) | (with_reducible assumption) | (with_reducible refine Later.out _ ?_) | (with_reducible refine bel_alloc ?_ _) | (with_reducible refine bel_drew ?_) | (with_reducible refine bel_drewN ?_ _) | (with_reducible refine bel_set ?_ ?_ _) | (with_reducible refine After.out _ ?_ ?_) | (dsimp only; omega) | omega | (simp only [World.size_alloc, World.size_setCell, World.size_drew]; omega)))
end Go.Proofs.Ytkkhjbdnpobpnaa

import Derived.Test.YtklcaphkfdlipaaGreatDoorAro
/- DistanceOfViews: both sides. -/
set_option linter.unusedSimpArgs false
set_option linter.unusedVariables false
namespace Go.Proofs.YtklcaphkfdlipaaGreatDoor
open Go.RowKit
theorem viewC_two {R : List (List Pt)} {V : List Vw} {x y : Int} (h : viewC R V [x, y] = 0) : viewsB R V = true ∧ ∃ i j : Nat, x = i ∧ y = j ∧ i < V.length ∧ j < V.length := by
  unfold viewC at h
  split at h
  · rename_i hB
    split at h
    · rename_i h2
      simp only [List.all_cons, List.all_nil, Bool.and_true, Bool.and_eq_true, inB_iff] at h2
      exact ⟨hB, x.toNat, y.toNat, by omega, by omega, by omega, by omega⟩
    · omega
  · omega
/-- The distance of two views. -/
noncomputable def dsN (R : List (List Pt)) (V : List Vw) (x y : Int) : Int := if viewC R V [x, y] = 0 then arTo R (fun i => othB (atV V x.toNat) (atV V y.toNat) i) R.length else 0
set_option maxRecDepth 4000 in
set_option maxHeartbeats 1000000 in
theorem dist1_any (V : List Vw) (x y i g5 g6 g7 : Nat) (b : Option Addr) (d n : Nat) (w : World) (ok : VwsOk V n) (hx : x < V.length) (hy : y < V.length) (hi : i < n) (h5 : w.cell? ⟨g5, 0, none⟩ = some (.slice b V.length d)) (h6 : w.cell? ⟨g6, 0, none⟩ = some (.int .i64 x)) (h7 : w.cell? ⟨g7, 0, none⟩ = some (.int .i64 y))
    (hg5 : g5 < w.heap.size) (hg6 : g6 < w.heap.size) (hg7 : g7 < w.heap.size) (hr' : ViewsR w b V) :
    Calls Tryz.prog 81 #[.int .i64 i, .pointer (some ⟨g5, 0, none⟩), .pointer (some ⟨g6, 0, none⟩), .pointer (some ⟨g7, 0, none⟩)] w (Ret w (.bool (othB (atV V x) (atV V y) i))) := by
  obtain ⟨b1, o1, a1, c1, rfl, hb1, p0, p1, p2, -, -⟩ := hr'.at_ hx
  obtain ⟨b2, o2, a2, c2, he, hb2, q0, q1, q2, -, -⟩ := hr'.at_ hy
  cases he
  have CT := fun (w : World) (hr : Row w a1 (strCells V[x].own)) (hr' : Row w a2 (strCells V[y].own)) => tellsOther_any V[x] V[y] i a1 a2 c1 c2 w (by rw [ok.own _ (List.getElem_mem hx)]; exact hi) (by rw [ok.own _ (List.getElem_mem hy)]; exact hi) hr hr'
  rw [← atV_get hx] at p0 p1 p2 CT
  rw [← atV_get hy] at q0 q1 q2 CT
  have hv1 : (x : Int) < (V.length : Int) := by omega
  have hv2 : (y : Int) < (V.length : Int) := by omega
  generalize othB (atV V x) (atV V y) i = B at *
  generalize atV V x = u at *
  generalize atV V y = v at *
  replace CT := Lib.hid CT
  replace p2 := Lib.hid p2
  replace q2 := Lib.hid q2
  clear ok hr'
  go_enter Tryz.func81, Tryz.ntmps81
  go_wp2_with fail
  refine wp_region_plan [(0, true), (1, true), (2, true), (3, true), (4, true), (5, true), (6, true), (7, true), (8, true), (9, false), (10, true)] (C := LaterC _) (by kernel_rfl) (by kernel_rfl) (by kernel_rfl) rfl (fun _ _ d _ _ h => by cases d <;> exact h) (LaterC.mk ((Below.refl _ _).drew)) ?_
  first | (refine plan_quiet nth0 rfl ?_; intro KP hKP; go_big_quiet_op; go_big_quiet_on) | (refine plan_skip_q nth0 rfl rfl ?_; simp only [Act.put, List.setIfInBounds_toArray, List.set_cons_zero, List.set_cons_succ])
  first | (refine plan_quiet nth1 rfl ?_; intro KP hKP; go_big_quiet_op; go_big_quiet_on) | (refine plan_skip_q nth1 rfl rfl ?_; simp only [Act.put, List.setIfInBounds_toArray, List.set_cons_zero, List.set_cons_succ])
  first | (refine plan_quiet nth2 rfl ?_; intro KP hKP; go_big_quiet_op; go_big_quiet_on) | (refine plan_skip_q nth2 rfl rfl ?_; simp only [Act.put, List.setIfInBounds_toArray, List.set_cons_zero, List.set_cons_succ])
  first | (refine plan_quiet nth3 rfl ?_; intro KP hKP; go_big_quiet_op; go_big_quiet_on) | (refine plan_skip_q nth3 rfl rfl ?_; simp only [Act.put, List.setIfInBounds_toArray, List.set_cons_zero, List.set_cons_succ])
  first | (refine plan_quiet nth4 rfl ?_; intro KP hKP; go_big_quiet_op; go_big_quiet_on) | (refine plan_skip_q nth4 rfl rfl ?_; simp only [Act.put, List.setIfInBounds_toArray, List.set_cons_zero, List.set_cons_succ])
  first | (refine plan_quiet nth5 rfl ?_; intro KP hKP; go_big_quiet_op; go_big_quiet_on) | (refine plan_skip_q nth5 rfl rfl ?_; simp only [Act.put, List.setIfInBounds_toArray, List.set_cons_zero, List.set_cons_succ])
  first | (refine plan_quiet nth6 rfl ?_; intro KP hKP; go_big_quiet_op; go_big_quiet_on) | (refine plan_skip_q nth6 rfl rfl ?_; simp only [Act.put, List.setIfInBounds_toArray, List.set_cons_zero, List.set_cons_succ])
  first | (refine plan_quiet nth7 rfl ?_; intro KP hKP; go_big_quiet_op; go_big_quiet_on) | (refine plan_skip_q nth7 rfl rfl ?_; simp only [Act.put, List.setIfInBounds_toArray, List.set_cons_zero, List.set_cons_succ])
  first | (refine plan_quiet nth8 rfl ?_; intro KP hKP; go_big_quiet_op; go_big_quiet_on) | (refine plan_skip_q nth8 rfl rfl ?_; simp only [Act.put, List.setIfInBounds_toArray, List.set_cons_zero, List.set_cons_succ])
  first | (refine plan_loud nth9 rfl ?_; intro KP hKP; go_wp2_with (first | (go_at_call 82; first | ((with_reducible refine (Calls.later (CT.out _ (p2.out.bel (by (repeat (first | (with_reducible first | exact Below.refl _ _ | assumption | refine Later.out _ ?_ | refine bel_alloc ?_ _ | refine bel_drew ?_ | refine bel_drewN ?_ _ | refine bel_set ?_ ?_ _ | refine After.out _ ?_ ?_) | (dsimp only; omega) | omega | (simp only [World.size_alloc, World.size_setCell, World.size_drew]; omega))))) (q2.out.bel (by (repeat (first | (with_reducible first | exact Below.refl _ _ | assumption | refine Later.out _ ?_ | refine bel_alloc ?_ _ | refine bel_drew ?_ | refine bel_drewN ?_ _ | refine bel_set ?_ ?_ _ | refine After.out _ ?_ ?_) | (dsimp only; omega) | omega | (simp only [World.size_alloc, World.size_setCell, World.size_drew]; omega))))))).mono ?_); rintro e w' ⟨rfl, xl, rfl⟩; have hsz := xl.bel.size; (try simp only [World.size_alloc, World.size_setCell, World.size_drew] at hsz); (try have hz0 : w.heap.size < xl.w.heap.size := (by omega)); (try have hz1 : w.heap.size + 1 < xl.w.heap.size := (by omega)); (try have hz2 : w.heap.size + 1 + 1 < xl.w.heap.size := (by omega))) | ((with_reducible refine (CT.out _ (p2.out.bel (by (repeat (first | (with_reducible first | exact Below.refl _ _ | assumption | refine Later.out _ ?_ | refine bel_alloc ?_ _ | refine bel_drew ?_ | refine bel_drewN ?_ _ | refine bel_set ?_ ?_ _ | refine After.out _ ?_ ?_) | (dsimp only; omega) | omega | (simp only [World.size_alloc, World.size_setCell, World.size_drew]; omega))))) (q2.out.bel (by (repeat (first | (with_reducible first | exact Below.refl _ _ | assumption | refine Later.out _ ?_ | refine bel_alloc ?_ _ | refine bel_drew ?_ | refine bel_drewN ?_ _ | refine bel_set ?_ ?_ _ | refine After.out _ ?_ ?_) | (dsimp only; omega) | omega | (simp only [World.size_alloc, World.size_setCell, World.size_drew]; omega)))))).mono ?_); rintro e w' ⟨rfl, xl, rfl⟩; have hsz := xl.bel.size; (try simp only [World.size_alloc, World.size_setCell, World.size_drew] at hsz); (try have hz0 : w.heap.size < xl.w.heap.size := (by omega)); (try have hz1 : w.heap.size + 1 < xl.w.heap.size := (by omega)); (try have hz2 : w.heap.size + 1 + 1 < xl.w.heap.size := (by omega))))); refine hKP _ _ (LaterC.mk (by (repeat (first | (with_reducible first | exact Below.refl _ _ | assumption | refine Later.out _ ?_ | refine bel_alloc ?_ _ | refine bel_drew ?_ | refine bel_drewN ?_ _ | refine bel_set ?_ ?_ _ | refine After.out _ ?_ ?_) | (dsimp only; omega) | omega | (simp only [World.size_alloc, World.size_setCell, World.size_drew]; omega))))) ?_; clear hKP KP) | (refine plan_skip nth9 rfl rfl (LaterC.mk (by (repeat (first | (with_reducible first | exact Below.refl _ _ | assumption | refine Later.out _ ?_ | refine bel_alloc ?_ _ | refine bel_drew ?_ | refine bel_drewN ?_ _ | refine bel_set ?_ ?_ _ | refine After.out _ ?_ ?_) | (dsimp only; omega) | omega | (simp only [World.size_alloc, World.size_setCell, World.size_drew]; omega))))) ?_; simp only [Act.put, List.setIfInBounds_toArray, List.set_cons_zero, List.set_cons_succ])
  first | (refine plan_quiet nth10 rfl ?_; intro KP hKP; go_big_quiet_op; go_big_quiet_on) | (refine plan_skip_q nth10 rfl rfl ?_; simp only [Act.put, List.setIfInBounds_toArray, List.set_cons_zero, List.set_cons_succ])
  refine plan_nil ?_
  go_wp2_with fail
  go_ret
  exact .mk rfl (by (repeat (first | (with_reducible first | exact Below.refl _ _ | assumption | refine Later.out _ ?_ | refine bel_alloc ?_ _ | refine bel_drew ?_ | refine bel_drewN ?_ _ | refine bel_set ?_ ?_ _ | refine After.out _ ?_ ?_) | (dsimp only; omega) | omega | (simp only [World.size_alloc, World.size_setCell, World.size_drew]; omega))))
theorem tells_dist {V : List Vw} {x y g5 g6 g7 d n : Nat} {b : Option Addr} {w : World} (ok : VwsOk V n) (hx : x < V.length) (hy : y < V.length) (h5 : w.cell? ⟨g5, 0, none⟩ = some (.slice b V.length d)) (h6 : w.cell? ⟨g6, 0, none⟩ = some (.int .i64 x)) (h7 : w.cell? ⟨g7, 0, none⟩ = some (.int .i64 y))
    (hg5 : g5 < w.heap.size) (hg6 : g6 < w.heap.size) (hg7 : g7 < w.heap.size) (hr' : ViewsR w b V) :
    TellsN 81 #[] #[.pointer (some ⟨g5, 0, none⟩), .pointer (some ⟨g6, 0, none⟩), .pointer (some ⟨g7, 0, none⟩)] (fun i => othB (atV V x) (atV V y) i) n w :=
  fun i hi w' hb => by simpa using dist1_any V x y i g5 g6 g7 b d n w' ok hx hy hi ((hb.cell hg5).trans h5) ((hb.cell hg6).trans h6) ((hb.cell hg7).trans h7) (Nat.lt_of_lt_of_le hg5 hb.size) (Nat.lt_of_lt_of_le hg6 hb.size) (Nat.lt_of_lt_of_le hg7 hb.size) (hr'.bel hb)
theorem enters_dist : ∀ args w, (callFunc 81 args).run Tryz.prog w = .ok (.enter 81 args) w := fun _ _ => by kernel_rfl
set_option maxRecDepth 8000 in
set_option maxHeartbeats 4000000 in
theorem ds_impl (R : List (List Pt)) (V : List Vw) (x y : Int) (a b : Option Addr) (n c m d : Nat) (w : World) (hn : R.length = n) (hm : n ≤ 1048576) (hc : n ≤ c) (hcm : c ≤ maxLen) (ok : ∀ r ∈ R, r.length ≤ 1048576) (hr : RingsR w a R)
    (hn' : V.length = m) (hm' : m ≤ 1048576) (ok' : ∀ v ∈ V, VwOk v) (hr' : ViewsR w b V) :
    Calls Tryz.prog 33 #[.slice a n c, .slice b m d, .int .i64 x, .int .i64 y] w (Ret w (.tuple #[.int .i64 (dsN R V x y), .int .i64 (viewC R V [x, y])])) := by
  subst hn hn'
  have CC := Lib.hid (fun (e : Option Addr) (w : World) (hr : RingsR w a R) (hr' : ViewsR w b V) (hri : Row w e [.int .i64 x, .int .i64 y]) => viewCode_any R V [x, y] a b e R.length c V.length d 2 2 w rfl hm hc hcm ok hr rfl hm' ok' hr' rfl (by omega) (by simpa [intCells] using hri))
  replace hr := Lib.hid hr
  replace hr' := Lib.hid hr'
  by_cases hK : viewC R V [x, y] = 0
  rotate_left
  · have e1 : dsN R V x y = 0 := by unfold dsN; rw [if_neg hK]
    rw [e1]
    obtain ⟨K, hKe⟩ : ∃ K, viewC R V [x, y] = K := ⟨_, rfl⟩
    rw [hKe] at hK CC ⊢
    have hK1 : (K != 0) = true := by simpa using hK
    clear e1 ok ok' hcm hK hKe
    go_enter Tryz.func33, Tryz.ntmps33
    go_wp2_with fail
    with_reducible refine (CC.out _ _ (hr.out.bel (by (repeat (first | (with_reducible first | exact Below.refl _ _ | assumption | refine Later.out _ ?_ | refine bel_alloc ?_ _ | refine bel_drew ?_ | refine bel_drewN ?_ _ | refine bel_set ?_ ?_ _ | refine After.out _ ?_ ?_) | (dsimp only; omega) | omega | (simp only [World.size_alloc, World.size_setCell, World.size_drew]; omega))))) (hr'.out.bel (by (repeat (first | (with_reducible first | exact Below.refl _ _ | assumption | refine Later.out _ ?_ | refine bel_alloc ?_ _ | refine bel_drew ?_ | refine bel_drewN ?_ _ | refine bel_set ?_ ?_ _ | refine After.out _ ?_ ?_) | (dsimp only; omega) | omega | (simp only [World.size_alloc, World.size_setCell, World.size_drew]; omega))))) (Row.madeAt (by simp only [World.size_alloc]; try rfl) rfl)).mono ?_
    rintro e w' ⟨rfl, y1, rfl⟩
    go_wp2_with fail
    refine bodyPost_ret (by simp [results, Tryz.results33, go_sem, ↓IntWalk.iteOmega, *]; try rfl) rfl ?_
    exact .mk rfl (by (repeat (first | (with_reducible first | exact Below.refl _ _ | assumption | refine Later.out _ ?_ | refine bel_alloc ?_ _ | refine bel_drew ?_ | refine bel_drewN ?_ _ | refine bel_set ?_ ?_ _ | refine After.out _ ?_ ?_) | (dsimp only; omega) | omega | (simp only [World.size_alloc, World.size_setCell, World.size_drew]; omega))))
  obtain ⟨hB, i, j, rfl, rfl, hi, hj⟩ := viewC_two hK
  have e1 : dsN R V (i : Int) (j : Int) = arTo R (fun k => othB (atV V i) (atV V j) k) R.length := by unfold dsN; rw [if_pos hK]; rfl
  rw [e1, hK]
  rw [hK] at CC
  have h6 := mapB_len (viewsB_map hB)
  have CA := Lib.hid (fun (g5 g6 g7 : Nat) (w : World) (h5 : w.cell? ⟨g5, 0, none⟩ = some (.slice b V.length d)) (h6' : w.cell? ⟨g6, 0, none⟩ = some (.int .i64 i)) (h7 : w.cell? ⟨g7, 0, none⟩ = some (.int .i64 j)) (hg5 : g5 < w.heap.size) (hg6 : g6 < w.heap.size) (hg7 : g7 < w.heap.size) (hr : RingsR w a R) (hr' : ViewsR w b V) =>
    areaOf_any 81 #[] #[.pointer (some ⟨g5, 0, none⟩), .pointer (some ⟨g6, 0, none⟩), .pointer (some ⟨g7, 0, none⟩)] (fun k => othB (atV V i) (atV V j) k) R a R.length c w enters_dist rfl h6 (mapB_rings (viewsB_map hB)) hr (tells_dist (V := V) (x := i) (y := j) (g5 := g5) (g6 := g6) (g7 := g7) (n := R.length) (viewsB_ok hB) hi hj h5 h6' h7 hg5 hg6 hg7 hr'))
  generalize arTo R (fun k => othB (atV V i) (atV V j) k) R.length = N at *
  have hW := Lib.hid (show (((w.alloc (.cells #[.slice b V.length d] 31)).alloc (.cells #[.int .i64 i] 2)).alloc (.cells #[.int .i64 j] 2)).cell? ⟨w.heap.size, 0, none⟩ = some (.slice b V.length d) ∧ (((w.alloc (.cells #[.slice b V.length d] 31)).alloc (.cells #[.int .i64 i] 2)).alloc (.cells #[.int .i64 j] 2)).cell? ⟨w.heap.size + 1, 0, none⟩ = some (.int .i64 i) ∧ (((w.alloc (.cells #[.slice b V.length d] 31)).alloc (.cells #[.int .i64 i] 2)).alloc (.cells #[.int .i64 j] 2)).cell? ⟨w.heap.size + 1 + 1, 0, none⟩ = some (.int .i64 j) from by
    refine ⟨?_, ?_, ?_⟩ <;> simp [go_sem, ↓IntWalk.iteOmega])
  clear e1 hB hK ok ok' hcm
  go_enter Tryz.func33, Tryz.ntmps33
  go_wp2_with fail
  with_reducible refine (CC.out _ _ (hr.out.bel (by (repeat (first | (with_reducible first | exact Below.refl _ _ | assumption | refine Later.out _ ?_ | refine bel_alloc ?_ _ | refine bel_drew ?_ | refine bel_drewN ?_ _ | refine bel_set ?_ ?_ _ | refine After.out _ ?_ ?_) | (dsimp only; omega) | omega | (simp only [World.size_alloc, World.size_setCell, World.size_drew]; omega))))) (hr'.out.bel (by (repeat (first | (with_reducible first | exact Below.refl _ _ | assumption | refine Later.out _ ?_ | refine bel_alloc ?_ _ | refine bel_drew ?_ | refine bel_drewN ?_ _ | refine bel_set ?_ ?_ _ | refine After.out _ ?_ ?_) | (dsimp only; omega) | omega | (simp only [World.size_alloc, World.size_setCell, World.size_drew]; omega))))) (Row.madeAt (by simp only [World.size_alloc]; try rfl) rfl)).mono ?_
  rintro e w' ⟨rfl, y1, rfl⟩
  have hs1 := y1.bel.size
  simp only [World.size_alloc] at hs1
  go_wp2_with fail
  have hbb := y1.out (((Below.refl (((w.alloc (.cells #[.slice b V.length d] 31)).alloc (.cells #[.int .i64 i] 2)).alloc (.cells #[.int .i64 j] 2)).heap.size (((w.alloc (.cells #[.slice b V.length d] 31)).alloc (.cells #[.int .i64 i] 2)).alloc (.cells #[.int .i64 j] 2))).alloc (by simp only [World.size_alloc]; omega) _))
  simp only [World.size_alloc] at hbb
  obtain ⟨k1, k2, k3⟩ := hW.out
  with_reducible refine (CA.out w.heap.size (w.heap.size + 1) (w.heap.size + 1 + 1) _ ((hbb.cell (p := ⟨w.heap.size, 0, none⟩) (by dsimp only; omega)).trans k1) ((hbb.cell (p := ⟨w.heap.size + 1, 0, none⟩) (by dsimp only; omega)).trans k2) ((hbb.cell (p := ⟨w.heap.size + 1 + 1, 0, none⟩) (by dsimp only; omega)).trans k3) (by omega) (by omega) (by omega) (hr.out.bel (by (repeat (first | (with_reducible first | exact Below.refl _ _ | assumption | refine Later.out _ ?_ | refine bel_alloc ?_ _ | refine bel_drew ?_ | refine bel_drewN ?_ _ | refine bel_set ?_ ?_ _ | refine After.out _ ?_ ?_) | (dsimp only; omega) | omega | (simp only [World.size_alloc, World.size_setCell, World.size_drew]; omega))))) (hr'.out.bel (by (repeat (first | (with_reducible first | exact Below.refl _ _ | assumption | refine Later.out _ ?_ | refine bel_alloc ?_ _ | refine bel_drew ?_ | refine bel_drewN ?_ _ | refine bel_set ?_ ?_ _ | refine After.out _ ?_ ?_) | (dsimp only; omega) | omega | (simp only [World.size_alloc, World.size_setCell, World.size_drew]; omega)))))).mono ?_
  rintro e w' ⟨rfl, y2, rfl⟩
  clear hbb k1 k2 k3
  go_wp2_with fail
  refine bodyPost_ret (by simp [results, Tryz.results33, go_sem, ↓IntWalk.iteOmega, *]; try rfl) rfl ?_
  exact .mk rfl (by (repeat (first | (with_reducible first | exact Below.refl _ _ | assumption | refine Later.out _ ?_ | refine bel_alloc ?_ _ | refine bel_drew ?_ | refine bel_drewN ?_ _ | refine bel_set ?_ ?_ _ | refine After.out _ ?_ ?_) | (dsimp only; omega) | omega | (simp only [World.size_alloc, World.size_setCell, World.size_drew]; omega))))
end Go.Proofs.YtklcaphkfdlipaaGreatDoor

import Derived.Test.YtfjlilpebhiogaaDoorMaskB
import Derived.Test.YtfjlilpebhiogaaDoorAfter
/- Marks over slices of bools, empty masks. -/
set_option linter.unusedSimpArgs false
set_option linter.unusedVariables false
namespace Go.Proofs.YtfjlilpebhiogaaDoor
open Go.RowKit
def markB (k : Int) (j : Nat) : Bool := (k + j) % 3 == 0
def markCells (k : Int) (n : Nat) : List Value := (List.range n).map fun j => .bool (markB k j)
def markPart (xs : List Value) (k : Int) (j : Nat) : List Value := markCells k j ++ xs.drop j
theorem markCells_get {k : Int} {n j : Nat} (h : j < n) : (markCells k n)[j]? = some (.bool (markB k j)) := by simp [markCells, h]
theorem length_markCells (k : Int) (n : Nat) : (markCells k n).length = n := by simp [markCells]
theorem markPart_zero (xs : List Value) (k : Int) : markPart xs k 0 = xs := by simp [markPart, markCells]
theorem markPart_full (xs : List Value) (k : Int) (n : Nat) (h : xs.length = n) : markPart xs k n = markCells k n := by simp [markPart, h, List.drop_eq_nil_of_le]
theorem markPart_step (xs : List Value) (k : Int) (j : Nat) (h : j < xs.length) : (markPart xs k j).set j (.bool (markB k j)) = markPart xs k (j + 1) := by
  unfold markPart
  rw [List.set_append_right _ _ (by simp [markCells]), length_markCells, Nat.sub_self, List.drop_eq_getElem_cons h, List.set_cons_zero]
  simp [markCells, List.range_succ]
set_option maxHeartbeats 400000 in
theorem markBoolS_any (a : Option Addr) (n c lo hi : Nat) (k : Int) (xs : List Value) (w : World) (h : Owns w lo hi 4 1 n a c xs) (hm : n ≤ 1048576) (hk : 0 ≤ k) (hk' : k ≤ 1099511627776) :
    Calls Tryd.prog 34 #[.slice a n c, .int .i64 k] w (RetMark w lo hi 4 n a c (markCells k n) (.int .i64 (k + n))) := by
  have hl : xs.length = n := by have := h.own.1; omega
  have HO := Lib.hid h
  have HL := Lib.hid hl
  clear h hl
  go_enter Tryd.func34, Tryd.ntmps34
  go_wp2
  go_loopw [1, 5] (fun kk i wr => ∃ j : Nat, j ≤ n ∧ i = .int .i64 j ∧ kk = .int .i64 (k + j) ∧ Between lo hi w wr ∧ Owns wr lo hi 4 1 n a c (markPart xs k j)) (fun _ i _ => n - (intOf i).toNat)
  case atStart => exact ⟨0, Nat.zero_le _, rfl, by simp, Between.refl _ _ _, by rw [markPart_zero]; exact HO.out⟩
  case round =>
    obtain ⟨j, hj, rfl, rfl, hb, ho⟩ := hrel
    by_cases hlt : j < n
    · obtain ⟨g, rfl, g1, g2, hc, hf⟩ := ho.at_ (j := j) (by omega)
      have hs := ho.set (j := j) (.bool (markB k j))
      rw [markPart_step xs k j (by rw [HL.out]; exact hlt)] at hs
      obtain ⟨u, hu⟩ : ∃ u, (markPart xs k j)[j]? = some u := ⟨_, List.getElem?_eq_getElem (by have := ho.own.1; omega)⟩
      rw [hu] at hc
      have HS := Lib.hid hs
      have HB := Lib.hid hb
      clear hs hb ho hu
      go_wp2
      go_roundw
      case rel => exact ⟨j + 1, by omega, by go_num, by go_num, HB.out.set g1 g2 _, HS.out⟩
      case measure => simp [intOf]; omega
    · obtain rfl : j = n := by omega
      rw [markPart_full _ _ _ HL.out] at ho
      have HB := Lib.hid hb
      have HO := Lib.hid ho
      clear hb ho
      go_wp2
      go_ret
      exact ⟨rfl, ⟨_, HB.out⟩, rfl, HO.out⟩
set_option maxHeartbeats 400000 in
theorem heldBoolS_any (a : Option Addr) (n c : Nat) (k : Int) (w : World) (h : Row w a (markCells k n)) (hm : n ≤ 1048576) (hk : 0 ≤ k) (hk' : k ≤ 1099511627776) :
    Calls Tryd.prog 35 #[.slice a n c, .int .i64 k] w (Ret w (.int .i64 (k + n))) := by
  have HO := Lib.hid h
  clear h
  go_enter Tryd.func35, Tryd.ntmps35
  go_wp2
  go_loopw [1, 5] (fun kk i wr => ∃ j : Nat, j ≤ n ∧ i = .int .i64 j ∧ kk = .int .i64 (k + j) ∧ Below w.heap.size w wr) (fun _ i _ => n - (intOf i).toNat)
  case atStart => exact ⟨0, Nat.zero_le _, rfl, by simp, Below.refl _ _⟩
  case round =>
    obtain ⟨j, hj, rfl, rfl, hb⟩ := hrel
    have HB := Lib.hid hb
    by_cases hlt : j < n
    · obtain ⟨b, o, rfl, hc⟩ := (HO.out.bel hb) j _ (markCells_get hlt)
      unfold markB at hc
      clear hb
      go_wp2
      go_roundw
      case rel => exact ⟨j + 1, by omega, by go_num, by go_num, HB.out⟩
      case measure => simp [intOf]; omega
    · obtain rfl : j = n := by omega
      clear hb
      go_wp2
      go_ret
      exact .mk rfl HB.out
section
variable (x y W H : Int) (a : Option Addr) (n n' c lo hi : Nat) (k : Int) (xs : List Value) (w : World)
set_option maxHeartbeats 400000 in
theorem markMask_any (h : Owns w lo hi 4 1 n a c xs) (hm : n ≤ 1048576) (hk : 0 ≤ k) (hk' : k ≤ 1099511627776) (hlh : hi ≤ w.heap.size) :
    Calls Tryd.prog 12 #[.agg #[.int .i64 x, .int .i64 y, .int .i64 W, .int .i64 H, .slice a n c], .int .i64 k] w (RetMark w lo hi 4 n a c (markCells k n) (.int .i64 (k + n))) := by
  have HO := Lib.hid h
  clear h
  go_enter Tryd.func12, Tryd.ntmps12
  go_wp2_with (go_at_call 34; refine (markBoolS_any a n c lo hi k xs _ (HO.out.bel (bel_alloc (Below.refl _ _) _) hlh) hm hk hk').mono ?_; rintro e w' ⟨rfl, z, rfl, ho⟩; have HZ := Lib.hid ho; clear ho)
  go_ret
  exact ⟨rfl, ⟨_, ((Between.refl _ _ _).later (bel_alloc (Below.refl _ _) _)).trans z.btw⟩, rfl, HZ.out⟩
set_option maxHeartbeats 400000 in
theorem heldMask_any (h : Row w a (markCells k n)) (hm : n ≤ 1048576) (hk : 0 ≤ k) (hk' : k ≤ 1099511627776) :
    Calls Tryd.prog 13 #[.agg #[.int .i64 x, .int .i64 y, .int .i64 W, .int .i64 H, .slice a n c], .int .i64 k] w (Ret w (.int .i64 (k + n))) := by
  have HO := Lib.hid h
  have hkn : 0 ≤ k + n := by omega
  clear h
  go_enter Tryd.func13, Tryd.ntmps13
  go_wp2_with (first | (go_at_call 35; first | ((with_reducible refine (Calls.later (heldBoolS_any _ _ _ _ _ (HO.out.bel (by (repeat (first | (with_reducible exact Below.refl _ _) | (with_reducible assumption) | (with_reducible refine Later.out _ ?_) | (with_reducible refine bel_alloc ?_ _) | (with_reducible refine bel_drew ?_) | (with_reducible refine bel_drewN ?_ _) | (with_reducible refine bel_set ?_ ?_ _) | (with_reducible refine After.out _ ?_ ?_) | (dsimp only; omega) | omega | (simp only [World.size_alloc, World.size_setCell, World.size_drew]; omega))))) hm hk hk')).mono ?_); rintro e w' ⟨rfl, xl, rfl⟩; have hsz := xl.bel.size; (try simp only [World.size_alloc, World.size_setCell, World.size_drew] at hsz); (try have hz0 : w.heap.size < xl.w.heap.size := (by omega)); (try have hz1 : w.heap.size + 1 < xl.w.heap.size := (by omega)); (try have hz2 : w.heap.size + 1 + 1 < xl.w.heap.size := (by omega))) | ((with_reducible refine (heldBoolS_any _ _ _ _ _ (HO.out.bel (by (repeat (first | (with_reducible exact Below.refl _ _) | (with_reducible assumption) | (with_reducible refine Later.out _ ?_) | (with_reducible refine bel_alloc ?_ _) | (with_reducible refine bel_drew ?_) | (with_reducible refine bel_drewN ?_ _) | (with_reducible refine bel_set ?_ ?_ _) | (with_reducible refine After.out _ ?_ ?_) | (dsimp only; omega) | omega | (simp only [World.size_alloc, World.size_setCell, World.size_drew]; omega))))) hm hk hk').mono ?_); rintro e w' ⟨rfl, xl, rfl⟩; have hsz := xl.bel.size; (try simp only [World.size_alloc, World.size_setCell, World.size_drew] at hsz); (try have hz0 : w.heap.size < xl.w.heap.size := (by omega)); (try have hz1 : w.heap.size + 1 < xl.w.heap.size := (by omega)); (try have hz2 : w.heap.size + 1 + 1 < xl.w.heap.size := (by omega)))))
  go_ret
  refine .mk rfl ?_
  (repeat (first | (with_reducible exact Below.refl _ _) | (with_reducible assumption) | (with_reducible refine Later.out _ ?_) | (with_reducible refine bel_alloc ?_ _) | (with_reducible refine bel_drew ?_) | (with_reducible refine bel_drewN ?_ _) | (with_reducible refine bel_set ?_ ?_ _) | (with_reducible refine After.out _ ?_ ?_) | (dsimp only; omega) | omega | (simp only [World.size_alloc, World.size_setCell, World.size_drew]; omega)))
set_option maxHeartbeats 400000 in
theorem sEmpty_any (hn : W * H = n) (hm : n ≤ 1048576) :
    Calls Tryd.prog 28 #[.agg #[.int .i64 x, .int .i64 y, .int .i64 W, .int .i64 H, .slice a n' c]] w (RetOwn w 4 1 n (List.replicate n (.bool false)) fun v => .agg #[.int .i64 x, .int .i64 y, .int .i64 W, .int .i64 H, v]) := by
  have hmk := run_make_row' (P := Tryd.prog) 24 4 (.bool false) 1 Tryd.underlying24 info_bool rfl .i64 .i64 n (by omega) (by omega)
  go_enter Tryd.func28, Tryd.ntmps28
  go_wp2
  have l1 : -9223372036854775808 ≤ W * H := by omega
  have l2 : W * H ≤ 9223372036854775807 := by omega
  refine wp_region_plan [(0, true), (1, true), (2, true), (3, true), (4, true), (5, true), (6, true), (7, true), (8, true), (9, true), (10, true), (11, false), (12, true), (13, false)] (C := LaterBC (w.heap.size + 1) _) (by kernel_rfl) (by kernel_rfl) (by kernel_rfl) rfl (fun _ _ d _ _ h => by cases d <;> exact h) (LaterBC.mk ((Below.refl _ _).drew)) ?_
  first | (refine plan_quiet nth0 rfl ?_; intro KP hKP; go_big_quiet_op; go_big_quiet_on) | (refine plan_skip_q nth0 rfl rfl ?_; simp only [Act.put, List.setIfInBounds_toArray, List.set_cons_zero, List.set_cons_succ])
  first | (refine plan_quiet nth1 rfl ?_; intro KP hKP; go_big_quiet_op; go_big_quiet_on) | (refine plan_skip_q nth1 rfl rfl ?_; simp only [Act.put, List.setIfInBounds_toArray, List.set_cons_zero, List.set_cons_succ])
  first | (refine plan_quiet nth2 rfl ?_; intro KP hKP; go_big_quiet_op; go_big_quiet_on) | (refine plan_skip_q nth2 rfl rfl ?_; simp only [Act.put, List.setIfInBounds_toArray, List.set_cons_zero, List.set_cons_succ])
  first | (refine plan_quiet nth3 rfl ?_; intro KP hKP; go_big_quiet_op; go_big_quiet_on) | (refine plan_skip_q nth3 rfl rfl ?_; simp only [Act.put, List.setIfInBounds_toArray, List.set_cons_zero, List.set_cons_succ])
  first | (refine plan_quiet nth4 rfl ?_; intro KP hKP; go_big_quiet_op; go_big_quiet_on) | (refine plan_skip_q nth4 rfl rfl ?_; simp only [Act.put, List.setIfInBounds_toArray, List.set_cons_zero, List.set_cons_succ])
  first | (refine plan_quiet nth5 rfl ?_; intro KP hKP; go_big_quiet_op; go_big_quiet_on) | (refine plan_skip_q nth5 rfl rfl ?_; simp only [Act.put, List.setIfInBounds_toArray, List.set_cons_zero, List.set_cons_succ])
  first | (refine plan_quiet nth6 rfl ?_; intro KP hKP; go_big_quiet_op; go_big_quiet_on) | (refine plan_skip_q nth6 rfl rfl ?_; simp only [Act.put, List.setIfInBounds_toArray, List.set_cons_zero, List.set_cons_succ])
  first | (refine plan_quiet nth7 rfl ?_; intro KP hKP; go_big_quiet_op; go_big_quiet_on) | (refine plan_skip_q nth7 rfl rfl ?_; simp only [Act.put, List.setIfInBounds_toArray, List.set_cons_zero, List.set_cons_succ])
  first | (refine plan_quiet nth8 rfl ?_; intro KP hKP; go_big_quiet_op; go_big_quiet_on) | (refine plan_skip_q nth8 rfl rfl ?_; simp only [Act.put, List.setIfInBounds_toArray, List.set_cons_zero, List.set_cons_succ])
  first | (refine plan_quiet nth9 rfl ?_; intro KP hKP; go_big_quiet_op; go_big_quiet_on) | (refine plan_skip_q nth9 rfl rfl ?_; simp only [Act.put, List.setIfInBounds_toArray, List.set_cons_zero, List.set_cons_succ])
  first | (refine plan_quiet nth10 rfl ?_; intro KP hKP; go_big_quiet_op; go_big_quiet_on) | (refine plan_skip_q nth10 rfl rfl ?_; simp only [Act.put, List.setIfInBounds_toArray, List.set_cons_zero, List.set_cons_succ])
  first | (refine plan_loud nth11 rfl ?_; intro KP hKP; go_wp2_with fail; refine hKP _ _ (LaterBC.mk (by exact below_common ((Below.refl _ _).alloc (by simp only [World.size_alloc]; omega) _) (by (repeat (first | (with_reducible exact Below.refl _ _) | (with_reducible refine Below.drew ?_) | (with_reducible refine Below.alloc ?_ ?_ _) | (with_reducible refine Below.setCell ?_ ?_ _) | (with_reducible assumption) | (simp only [World.size_alloc, World.size_setCell, World.size_drew]; omega) | (dsimp only; omega) | omega))) (by simp only [World.size_alloc, World.size_setCell, World.size_drew]; omega))) ?_; clear hKP KP) | (refine plan_skip nth11 rfl rfl (LaterBC.mk (by exact below_common ((Below.refl _ _).alloc (by simp only [World.size_alloc]; omega) _) (by (repeat (first | (with_reducible exact Below.refl _ _) | (with_reducible refine Below.drew ?_) | (with_reducible refine Below.alloc ?_ ?_ _) | (with_reducible refine Below.setCell ?_ ?_ _) | (with_reducible assumption) | (simp only [World.size_alloc, World.size_setCell, World.size_drew]; omega) | (dsimp only; omega) | omega))) (by simp only [World.size_alloc, World.size_setCell, World.size_drew]; omega))) ?_; simp only [Act.put, List.setIfInBounds_toArray, List.set_cons_zero, List.set_cons_succ])
  first | (refine plan_quiet nth12 rfl ?_; intro KP hKP; go_big_quiet_op; go_big_quiet_on) | (refine plan_skip_q nth12 rfl rfl ?_; simp only [Act.put, List.setIfInBounds_toArray, List.set_cons_zero, List.set_cons_succ])
  first | (refine plan_loud nth13 rfl ?_; intro KP hKP; go_wp2_with fail; refine hKP _ _ (LaterBC.mk (by exact below_common ((Below.refl _ _).alloc (by simp only [World.size_alloc]; omega) _) (by (repeat (first | (with_reducible exact Below.refl _ _) | (with_reducible refine Below.drew ?_) | (with_reducible refine Below.alloc ?_ ?_ _) | (with_reducible refine Below.setCell ?_ ?_ _) | (with_reducible assumption) | (simp only [World.size_alloc, World.size_setCell, World.size_drew]; omega) | (dsimp only; omega) | omega))) (by simp only [World.size_alloc, World.size_setCell, World.size_drew]; omega))) ?_; clear hKP KP) | (refine plan_skip nth13 rfl rfl (LaterBC.mk (by exact below_common ((Below.refl _ _).alloc (by simp only [World.size_alloc]; omega) _) (by (repeat (first | (with_reducible exact Below.refl _ _) | (with_reducible refine Below.drew ?_) | (with_reducible refine Below.alloc ?_ ?_ _) | (with_reducible refine Below.setCell ?_ ?_ _) | (with_reducible assumption) | (simp only [World.size_alloc, World.size_setCell, World.size_drew]; omega) | (dsimp only; omega) | omega))) (by simp only [World.size_alloc, World.size_setCell, World.size_drew]; omega))) ?_; simp only [Act.put, List.setIfInBounds_toArray, List.set_cons_zero, List.set_cons_succ])
  refine plan_nil ?_
  go_wp2
  refine bodyPost_ret (by simp [results, Tryd.results28, go_sem, ↓IntWalk.iteOmega, *]; try rfl) rfl ?_
  refine RetOwn.mk _ rfl ?_ ?_
  · refine World.ownsRow.drew ?_
    have h := World.ownsRow_lit (base := w.heap.size) (e := 4) (size := 1) ((w.alloc (.cells #[.int .i64 x, .int .i64 y, .int .i64 W, .int .i64 H, .slice a n' c] 32)).alloc (.cells #[.int .i64 x, .int .i64 y, .int .i64 W, .int .i64 H, .slice (some ⟨w.heap.size + 1 + 1, 0, none⟩) n n] 32)) (madeCells #[Value.bool false] n) n (by simp only [World.size_alloc]; omega) (by unfold maxLen; omega) (by simp [size_madeCells])
    rw [toList_madeCells_one] at h
    simpa only [World.size_alloc] using h
  · (repeat (first | (with_reducible exact Below.refl _ _) | (with_reducible assumption) | (with_reducible refine Later.out _ ?_) | (with_reducible refine bel_alloc ?_ _) | (with_reducible refine bel_drew ?_) | (with_reducible refine bel_drewN ?_ _) | (with_reducible refine bel_set ?_ ?_ _) | (with_reducible refine After.out _ ?_ ?_) | (dsimp only; omega) | omega | (simp only [World.size_alloc, World.size_setCell, World.size_drew]; omega)))
end
end Go.Proofs.YtfjlilpebhiogaaDoor

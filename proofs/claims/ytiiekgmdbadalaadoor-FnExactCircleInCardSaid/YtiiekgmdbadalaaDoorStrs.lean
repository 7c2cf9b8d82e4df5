import Derived.Test.YtiiekgmdbadalaaDoorMark
import Derived.Test.YtiiekgmdbadalaaDoorPar
/- Slices of texts: comparison and marks. -/
set_option linter.unusedSimpArgs false
set_option linter.unusedVariables false
namespace Go.Proofs.YtiiekgmdbadalaaDoor
open Go.RowKit
set_option maxHeartbeats 1000000 in
theorem eqStringS_same (O : List ByteArray) (a a' : Option Addr) (n c n' c' : Nat) (w : World) (hn : O.length = n) (hn' : O.length = n') (hm : n ≤ 1048576) (hr : Row w a (strCells O)) (hr' : Row w a' (strCells O)) :
    Calls Tryd.prog 50 #[.slice a n c, .slice a' n' c'] w (Ret w (.bool true)) := by
  subst hn
  subst hn'
  replace hr := Lib.hid hr
  replace hr' := Lib.hid hr'
  go_enter Tryd.func50, Tryd.ntmps50
  go_wp2_with fail
  go_loopw [5] (fun i wr => ∃ k : Nat, k ≤ O.length ∧ i = .int .i64 k ∧ ∃ z : Later w, wr = z.w) (fun i _ => O.length - (intOf i).toNat)
  case atStart => exact ⟨0, Nat.zero_le _, rfl, ⟨_, Below.refl _ _⟩, rfl⟩
  case round =>
    obtain ⟨k, hk, rfl, z, rfl⟩ := hrel
    by_cases hlt : k < O.length
    · obtain ⟨b, o, rfl, hb, q⟩ := hr.out.str hlt
      obtain ⟨b', o', rfl, hb', q'⟩ := hr'.out.str hlt
      have hi1 : (k : Int) < (O.length : Int) := by omega
      have hzz := z.bel.size
      go_wp2_with fail
      go_quiet (fail)
      go_wp2_with fail
      go_roundw
      case rel => exact ⟨k + 1, by omega, by go_num, LaterC.mk (by (repeat (first | (with_reducible exact Below.refl _ _) | (with_reducible assumption) | (with_reducible refine Later.out _ ?_) | (with_reducible refine bel_alloc ?_ _) | (with_reducible refine bel_drew ?_) | (with_reducible refine bel_drewN ?_ _) | (with_reducible refine bel_set ?_ ?_ _) | (with_reducible refine After.out _ ?_ ?_) | (dsimp only; omega) | omega | (simp only [World.size_alloc, World.size_setCell, World.size_drew]; omega))))⟩
      case measure => first | (simp [intOf]; done) | (simp [intOf]; omega) | omega
    · obtain rfl : k = O.length := by omega
      go_wp2_with fail
      go_ret
      exact .mk rfl (by (repeat (first | (with_reducible exact Below.refl _ _) | (with_reducible assumption) | (with_reducible refine Later.out _ ?_) | (with_reducible refine bel_alloc ?_ _) | (with_reducible refine bel_drew ?_) | (with_reducible refine bel_drewN ?_ _) | (with_reducible refine bel_set ?_ ?_ _) | (with_reducible refine After.out _ ?_ ?_) | (dsimp only; omega) | omega | (simp only [World.size_alloc, World.size_setCell, World.size_drew]; omega))))
def markSs (k : Int) (n : Nat) : List Value := (List.range n).map fun (j : Nat) => Value.string (mT (k + (j : Int)))
def markSPart (xs : List Value) (k : Int) (j : Nat) : List Value := markSs k j ++ xs.drop j
theorem markSs_get {k : Int} {n j : Nat} (h : j < n) : (markSs k n)[j]? = some (.string (mT (k + j))) := by simp [markSs, h]
theorem length_markSs (k : Int) (n : Nat) : (markSs k n).length = n := by simp [markSs]
theorem markSPart_zero (xs : List Value) (k : Int) : markSPart xs k 0 = xs := by simp [markSPart, markSs]
theorem markSPart_full (xs : List Value) (k : Int) (n : Nat) (h : xs.length = n) : markSPart xs k n = markSs k n := by simp [markSPart, h, List.drop_eq_nil_of_le]
theorem markSPart_step (xs : List Value) (k : Int) (j : Nat) (h : j < xs.length) : (markSPart xs k j).set j (.string (mT (k + j))) = markSPart xs k (j + 1) := by
  unfold markSPart
  rw [List.set_append_right _ _ (by simp [markSs]), length_markSs, Nat.sub_self, List.drop_eq_getElem_cons h, List.set_cons_zero]
  simp [markSs, List.range_succ]
set_option maxRecDepth 8000 in
set_option maxHeartbeats 2000000 in
theorem markStringS_any (a : Option Addr) (n c lo hi : Nat) (k : Int) (xs : List Value) (w : World) (h : Owns w lo hi 9 1 n a c xs) (hlo : hi ≤ w.heap.size) (hm : n ≤ 1048577) (hk : 0 < k) (hk' : k ≤ 549755813888) :
    Calls Tryd.prog 51 #[.slice a n c, .int .i64 k] w (RetMark w lo hi 9 n a c (markSs k n) (.int .i64 (k + n))) := by
  have hl : xs.length = n := by have := h.own.1; omega
  have HO := Lib.hid h
  have HL := Lib.hid hl
  clear h hl
  go_enter Tryd.func51, Tryd.ntmps51
  go_wp2_with fail
  go_loopw [1, 5] (fun kk i wr => ∃ j : Nat, j ≤ n ∧ i = .int .i64 j ∧ kk = .int .i64 (k + j) ∧ Between lo hi w wr ∧ Owns wr lo hi 9 1 n a c (markSPart xs k j)) (fun _ i _ => n - (intOf i).toNat)
  case atStart => exact ⟨0, Nat.zero_le _, rfl, by simp, Between.refl _ _ _, by rw [markSPart_zero]; exact HO.out⟩
  case round =>
    obtain ⟨j, hj, rfl, rfl, hb, ho⟩ := hrel
    by_cases hlt : j < n
    · have hxl := HL.out
      obtain ⟨g, rfl, g1, g2, hc, hf⟩ := ho.at_ (j := j) (by omega)
      obtain ⟨u, hu⟩ : ∃ u, (markSPart xs k j)[j]? = some u := ⟨_, List.getElem?_eq_getElem (by have := ho.own.1; omega)⟩
      rw [hu] at hc
      obtain ⟨z, rfl⟩ := AfterC.mk hb
      have hzs := z.btw.size
      have hgz : g < z.w.heap.size := by omega
      have hst := markSPart_step xs k j (by omega)
      replace hst := Lib.hid hst
      have HS := Lib.hid ho
      clear hb ho hu
      have hp1 : 0 < k + (j : Int) := by omega
      have hp2 : k + (j : Int) < 1099511627776 := by omega
      go_wp2_with fail
      with_reducible refine (mText_any (k + (j : Int)) _ hp1 hp2).mono ?_
      rintro e w' ⟨rfl, y1, rfl⟩
      have hsy1 := y1.bel.size
      (try simp only [World.size_alloc, World.size_setCell, World.size_drew] at hsy1)
      have lt1 : g < y1.w.heap.size := by omega
      go_wp2_with fail
      have O1 := (HS.out.bel (B := z.w.heap.size) y1.bel (by omega)).set (j := j) (.string (mT (k + (j : Int))))
      rw [hst.out] at O1
      replace O1 := Lib.hid O1
      go_roundw
      case rel => exact ⟨j + 1, by omega, by go_num, by go_num, by (repeat (first | (with_reducible exact Between.refl _ _ _) | (with_reducible refine Between.drew ?_) | (with_reducible refine Between.drewN ?_ _) | (with_reducible refine Between.set ?_ ?_ ?_ _) | (with_reducible refine btw_later _ ?_) | (with_reducible refine btw_alloc ?_ _) | (with_reducible refine btw_after _ ?_) | (with_reducible assumption) | (dsimp only; omega) | omega)), O1.out⟩
      case measure => simp [intOf]; omega
    · obtain rfl : j = n := by omega
      rw [markSPart_full _ _ _ HL.out] at ho
      have HB := Lib.hid hb
      have HO := Lib.hid ho
      clear hb ho
      go_wp2_with fail
      go_ret
      exact ⟨rfl, ⟨_, HB.out⟩, rfl, HO.out⟩
set_option maxRecDepth 8000 in
set_option maxHeartbeats 2000000 in
theorem heldStringS_any (a : Option Addr) (n c : Nat) (k : Int) (w : World) (h : Row w a (markSs k n)) (hm : n ≤ 1048577) (hk : 0 < k) (hk' : k ≤ 549755813888) :
    Calls Tryd.prog 52 #[.slice a n c, .int .i64 k] w (Ret w (.int .i64 (k + n))) := by
  have HO := Lib.hid h
  clear h
  go_enter Tryd.func52, Tryd.ntmps52
  go_wp2_with fail
  go_loopw [1, 5] (fun kk i wr => ∃ j : Nat, j ≤ n ∧ i = .int .i64 j ∧ kk = .int .i64 (k + j) ∧ ∃ z : Later w, wr = z.w) (fun _ i _ => n - (intOf i).toNat)
  case atStart => exact ⟨0, Nat.zero_le _, rfl, by simp, ⟨_, Below.refl _ _⟩, rfl⟩
  case round =>
    obtain ⟨j, hj, rfl, rfl, z, rfl⟩ := hrel
    have hzz := z.bel.size
    by_cases hlt : j < n
    · obtain ⟨b, o, rfl, hc⟩ := HO.out j _ (markSs_get hlt)
      have hb := World.block_lt_of_cell? w _ hc
      simp only at hb
      have hp1 : 0 < k + (j : Int) := by omega
      have hp2 : k + (j : Int) < 1099511627776 := by omega
      go_wp2_with fail
      refine wp_region_plan [(0, true), (1, true), (2, true), (3, true), (4, true), (5, false), (6, true)] (C := LaterC _) (by kernel_rfl) (by kernel_rfl) (by kernel_rfl) rfl (fun _ _ d _ _ h => by cases d <;> exact h) (LaterC.mk ((Below.refl _ _).drew)) ?_
      first | (refine plan_quiet nth0 rfl ?_; intro KP hKP; go_big_quiet_op; go_big_quiet_on) | (refine plan_skip_q nth0 rfl rfl ?_; simp only [Act.put, List.setIfInBounds_toArray, List.set_cons_zero, List.set_cons_succ])
      first | (refine plan_quiet nth1 rfl ?_; intro KP hKP; go_big_quiet_op; go_big_quiet_on) | (refine plan_skip_q nth1 rfl rfl ?_; simp only [Act.put, List.setIfInBounds_toArray, List.set_cons_zero, List.set_cons_succ])
      first | (refine plan_quiet nth2 rfl ?_; intro KP hKP; go_big_quiet_op; go_big_quiet_on) | (refine plan_skip_q nth2 rfl rfl ?_; simp only [Act.put, List.setIfInBounds_toArray, List.set_cons_zero, List.set_cons_succ])
      first | (refine plan_quiet nth3 rfl ?_; intro KP hKP; go_big_quiet_op; go_big_quiet_on) | (refine plan_skip_q nth3 rfl rfl ?_; simp only [Act.put, List.setIfInBounds_toArray, List.set_cons_zero, List.set_cons_succ])
      first | (refine plan_quiet nth4 rfl ?_; intro KP hKP; go_big_quiet_op; go_big_quiet_on) | (refine plan_skip_q nth4 rfl rfl ?_; simp only [Act.put, List.setIfInBounds_toArray, List.set_cons_zero, List.set_cons_succ])
      first | (refine plan_loud nth5 rfl ?_; intro KP hKP; go_wp2_with (first | (go_at_call 81; first | ((with_reducible refine (Calls.later (mText_any (k + (j : Int)) _ hp1 hp2)).mono ?_); rintro e w' ⟨rfl, xl, rfl⟩; have hsz := xl.bel.size; (try simp only [World.size_alloc, World.size_setCell, World.size_drew] at hsz); (try have hz0 : w.heap.size < xl.w.heap.size := (by omega)); (try have hz1 : w.heap.size + 1 < xl.w.heap.size := (by omega)); (try have hz2 : w.heap.size + 1 + 1 < xl.w.heap.size := (by omega))) | ((with_reducible refine (mText_any (k + (j : Int)) _ hp1 hp2).mono ?_); rintro e w' ⟨rfl, xl, rfl⟩; have hsz := xl.bel.size; (try simp only [World.size_alloc, World.size_setCell, World.size_drew] at hsz); (try have hz0 : w.heap.size < xl.w.heap.size := (by omega)); (try have hz1 : w.heap.size + 1 < xl.w.heap.size := (by omega)); (try have hz2 : w.heap.size + 1 + 1 < xl.w.heap.size := (by omega))))); refine hKP _ _ (LaterC.mk (by (repeat (first | (with_reducible exact Below.refl _ _) | (with_reducible assumption) | (with_reducible refine Later.out _ ?_) | (with_reducible refine bel_alloc ?_ _) | (with_reducible refine bel_drew ?_) | (with_reducible refine bel_drewN ?_ _) | (with_reducible refine bel_set ?_ ?_ _) | (with_reducible refine After.out _ ?_ ?_) | (dsimp only; omega) | omega | (simp only [World.size_alloc, World.size_setCell, World.size_drew]; omega))))) ?_; clear hKP KP) | (refine plan_skip nth5 rfl rfl (LaterC.mk (by (repeat (first | (with_reducible exact Below.refl _ _) | (with_reducible assumption) | (with_reducible refine Later.out _ ?_) | (with_reducible refine bel_alloc ?_ _) | (with_reducible refine bel_drew ?_) | (with_reducible refine bel_drewN ?_ _) | (with_reducible refine bel_set ?_ ?_ _) | (with_reducible refine After.out _ ?_ ?_) | (dsimp only; omega) | omega | (simp only [World.size_alloc, World.size_setCell, World.size_drew]; omega))))) ?_; simp only [Act.put, List.setIfInBounds_toArray, List.set_cons_zero, List.set_cons_succ])
      first | (refine plan_quiet nth6 rfl ?_; intro KP hKP; go_big_quiet_op; go_big_quiet_on) | (refine plan_skip_q nth6 rfl rfl ?_; simp only [Act.put, List.setIfInBounds_toArray, List.set_cons_zero, List.set_cons_succ])
      refine plan_nil ?_
      go_wp2_with fail
      go_roundw
      case rel => exact ⟨j + 1, by omega, by go_num, by go_num, LaterC.mk (by (repeat (first | (with_reducible exact Below.refl _ _) | (with_reducible assumption) | (with_reducible refine Later.out _ ?_) | (with_reducible refine bel_alloc ?_ _) | (with_reducible refine bel_drew ?_) | (with_reducible refine bel_drewN ?_ _) | (with_reducible refine bel_set ?_ ?_ _) | (with_reducible refine After.out _ ?_ ?_) | (dsimp only; omega) | omega | (simp only [World.size_alloc, World.size_setCell, World.size_drew]; omega))))⟩
      case measure => simp [intOf]; omega
    · obtain rfl : j = n := by omega
      go_wp2_with fail
      go_ret
      exact .mk rfl (by (repeat (first | (with_reducible exact Below.refl _ _) | (with_reducible assumption) | (with_reducible refine Later.out _ ?_) | (with_reducible refine bel_alloc ?_ _) | (with_reducible refine bel_drew ?_) | (with_reducible refine bel_drewN ?_ _) | (with_reducible refine bel_set ?_ ?_ _) | (with_reducible refine After.out _ ?_ ?_) | (dsimp only; omega) | omega | (simp only [World.size_alloc, World.size_setCell, World.size_drew]; omega))))
end Go.Proofs.YtiiekgmdbadalaaDoor

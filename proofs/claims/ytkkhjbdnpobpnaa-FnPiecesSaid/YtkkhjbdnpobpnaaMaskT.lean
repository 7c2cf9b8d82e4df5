import Derived.Test.YtkkhjbdnpobpnaaMaskU
set_option linter.unusedSimpArgs false
set_option linter.unusedVariables false
namespace Go.Proofs.Ytkkhjbdnpobpnaa
open Go.RowKit
/-- Two lists joined cell by cell. -/
def joinL (f : Bool → Bool → Bool) (l l' : List Bool) : List Bool := List.zipWith f l l'
theorem length_joinL (f : Bool → Bool → Bool) (l l' : List Bool) (h : l.length = l'.length) : (joinL f l l').length = l.length := by simp [joinL, h]
theorem joinL_get (f : Bool → Bool → Bool) (l l' : List Bool) (j : Nat) (h : j < l.length) (h' : j < l'.length) : (joinL f l l')[j]? = some (f l[j] l'[j]) := by
  simp [joinL, List.getElem?_zipWith, h, h']
theorem own_lift {w : World} {base e s n g c : Nat} {xs : List Value} (h : w.ownsRow base e s (.slice (some ⟨g, 0, none⟩) n c) n xs) : w.ownsRow g e s (.slice (some ⟨g, 0, none⟩) n c) n xs := by
  refine ⟨h.1, ?_⟩
  rcases h.2 with ⟨h2, _⟩ | ⟨g', cap, cur, hv, hg, r⟩
  · simp at h2
  · have : g = g' := by injection hv with h1 h2 h3; injection h1 with h1; injection h1
    subst this
    exact .inr ⟨g, cap, cur, hv, Nat.le_refl _, r⟩
def fillPart (L : List Bool) (n k : Nat) : List Value := boolCells (L.take k) ++ List.replicate (n - k) (Value.bool false)
theorem fillPart_zero (L : List Bool) (n : Nat) : fillPart L n 0 = List.replicate n (.bool false) := by simp [fillPart, boolCells]
theorem fillPart_full (L : List Bool) (n : Nat) (h : L.length = n) : fillPart L n n = boolCells L := by subst h; simp [fillPart]
theorem fillPart_step (L : List Bool) (n k : Nat) (b : Bool) (hl : L.length = n) (h : L[k]? = some b) : (fillPart L n k).set k (.bool b) = fillPart L n (k + 1) := by
  subst hl
  obtain ⟨hk, hb⟩ := List.getElem?_eq_some_iff.1 h
  subst hb
  exact boolPart_step L k hk
theorem fillPart_old (L : List Bool) (n k : Nat) (hl : L.length = n) (h : k < n) : (fillPart L n k)[k]? = some (.bool false) := by
  subst hl
  exact boolPart_old L k h

set_option maxHeartbeats 1000000 in
theorem dif_filled (x y W H : Int) (b0 b1 b2 n c n' c' : Nat) (a a' : Option Addr) (l l' : List Bool) (ra : Option Addr) (rc : Nat) (w : World) (h : Cap w 40 b0 b1 b2 n c n' c' a a' l l') (hn : n = n') (hpos : 0 < n) (hm : n ≤ 1048576) :
    Calls Try.prog 55 #[.agg #[.int .i64 x, .int .i64 y, .int .i64 W, .int .i64 H, .slice ra n rc], .func (.func 66) #[] #[.pointer (some ⟨b0, 0, none⟩), .pointer (some ⟨b1, 0, none⟩), .pointer (some ⟨b2, 0, none⟩)]] w
      (RetOwn w 4 1 n (boolCells (joinL op_dif l l')) fun v => .agg #[.int .i64 x, .int .i64 y, .int .i64 W, .int .i64 H, v]) := by
  subst hn
  have hll : l.length = n := h.e1
  have hll' : l'.length = n := h.e2
  have hJ : (joinL op_dif l l').length = n := (length_joinL _ _ _ (hll.trans hll'.symm)).trans hll
  have HJ := Lib.hid hJ
  have Hll := Lib.hid hll
  have Hll' := Lib.hid hll'
  clear hJ hll hll'
  have hC := Lib.hid h
  clear h
  go_enter Try.func55, Try.ntmps55
  go_wp2_with (go_at_call 45; refine (empty_any x y W H ra n rc _ hm).mono ?_; rintro e w' ⟨a1, c1, rfl, hown, xl, rfl⟩; have HO := Lib.hid (Owns.of hown); clear hown; have hsz := xl.bel.size; (try simp only [World.size_alloc, World.size_setCell, World.size_drew] at hsz); (try have hz0 : w.heap.size < xl.w.heap.size := (by omega)); (try have hz1 : w.heap.size + 1 < xl.w.heap.size := (by omega)); (try have hz2 : w.heap.size + 1 + 1 < xl.w.heap.size := (by omega)))
  obtain ⟨g, rfl, g1, g2, -, -⟩ := HO.out.at_ (j := 0) (by omega)
  (try simp only [World.size_alloc] at g1)
  go_loopw [6, 12] (fun i j wr => ∃ k : Nat, k ≤ n ∧ j = .int .i64 k ∧ Between g (g + 1) (xl.w.alloc (.cells #[.int .i64 x, .int .i64 y, .int .i64 W, .int .i64 H, .slice (some ⟨g, 0, none⟩) n c1] 28)) wr ∧ Owns wr g (g + 1) 4 1 n (some ⟨g, 0, none⟩) c1 (fillPart (joinL op_dif l l') n k)) (fun _ j _ => n - (intOf j).toNat)
  case atStart =>
    refine ⟨0, Nat.zero_le _, rfl, Between.refl _ _ _, ?_⟩
    rw [fillPart_zero]
    exact ⟨(World.ownsRow.alloc (own_lift HO.out.own) _), fun p hp => by injection hp with hp; subst hp; simp⟩
  case round =>
    obtain ⟨k, hk, rfl, hb, ho⟩ := hrel
    obtain ⟨z, rfl⟩ := AfterC.mk hb
    clear hb
    have hzs := z.btw.size
    (try simp only [World.size_alloc] at hzs)
    by_cases hlt : k < n
    · have hc := ho.own.cellAt k (by omega)
      rw [fillPart_old _ _ _ HJ.out hlt] at hc
      have hf := ho.own.frozenAt k
      have hk1 : k < l.length := by rw [Hll.out]; exact hlt
      have hk2 : k < l'.length := by rw [Hll'.out]; exact hlt
      have hst := Lib.hid (fillPart_step (joinL op_dif l l') n k _ HJ.out (joinL_get op_dif l l' k hk1 hk2))
      have HP := Lib.hid ho
      have hlt' : (k : Int) < (n : Int) := by omega
      clear ho
      go_wp2
      refine wp_region_plan [(0, true), (1, true), (2, true), (3, true), (4, true), (5, false), (6, true), (7, false)] (C := AfterC g (g + 1) _) (by kernel_rfl) (by kernel_rfl) (by kernel_rfl) rfl (fun _ _ d _ _ h => by cases d <;> exact h) (AfterC.mk ((Between.refl _ _ _).drew)) ?_
      first | (refine plan_quiet nth0 rfl ?_; intro KP hKP; go_big_quiet_op; go_big_quiet_on) | (refine plan_skip_q nth0 rfl rfl ?_; simp only [Act.put, List.setIfInBounds_toArray, List.set_cons_zero, List.set_cons_succ])
      first | (refine plan_quiet nth1 rfl ?_; intro KP hKP; go_big_quiet_op; go_big_quiet_on) | (refine plan_skip_q nth1 rfl rfl ?_; simp only [Act.put, List.setIfInBounds_toArray, List.set_cons_zero, List.set_cons_succ])
      first | (refine plan_quiet nth2 rfl ?_; intro KP hKP; go_big_quiet_op; go_big_quiet_on) | (refine plan_skip_q nth2 rfl rfl ?_; simp only [Act.put, List.setIfInBounds_toArray, List.set_cons_zero, List.set_cons_succ])
      first | (refine plan_quiet nth3 rfl ?_; intro KP hKP; go_big_quiet_op; go_big_quiet_on) | (refine plan_skip_q nth3 rfl rfl ?_; simp only [Act.put, List.setIfInBounds_toArray, List.set_cons_zero, List.set_cons_succ])
      first | (refine plan_quiet nth4 rfl ?_; intro KP hKP; go_big_quiet_op; go_big_quiet_on) | (refine plan_skip_q nth4 rfl rfl ?_; simp only [Act.put, List.setIfInBounds_toArray, List.set_cons_zero, List.set_cons_succ])
      first | (refine plan_loud nth5 rfl ?_; intro KP hKP; go_wp2_with (first | (go_at_call 66; refine (dif_cell k b0 b1 b2 n c n c' a a' l l' _ (hC.out.bel (by (repeat (first | (with_reducible exact Below.refl _ _) | (with_reducible assumption) | (with_reducible refine Later.out _ ?_) | (with_reducible refine bel_alloc ?_ _) | (with_reducible refine bel_drew ?_) | (with_reducible refine bel_drewN ?_ _) | (with_reducible refine bel_set ?_ ?_ _) | (with_reducible refine After.out _ ?_ ?_) | (dsimp only; omega) | omega | (simp only [World.size_alloc, World.size_setCell, World.size_drew]; omega))))) hk1 hk2 hm hm).mono ?_; rintro e w' ⟨rfl, yl, rfl⟩; have hys := yl.bel.size; simp only [World.size_drew] at hys)); refine hKP _ _ (AfterC.mk (by (repeat (first | (with_reducible exact Between.refl _ _ _) | (with_reducible refine Between.drew ?_) | (with_reducible refine Between.drewN ?_ _) | (with_reducible refine Between.set ?_ ?_ ?_ _) | (with_reducible refine btw_later _ ?_) | (with_reducible refine btw_alloc ?_ _) | (with_reducible refine btw_after _ ?_) | (with_reducible assumption) | (dsimp only; omega) | omega)))) ?_; clear hKP KP) | (refine plan_skip nth5 rfl rfl (AfterC.mk (by (repeat (first | (with_reducible exact Between.refl _ _ _) | (with_reducible refine Between.drew ?_) | (with_reducible refine Between.drewN ?_ _) | (with_reducible refine Between.set ?_ ?_ ?_ _) | (with_reducible refine btw_later _ ?_) | (with_reducible refine btw_alloc ?_ _) | (with_reducible refine btw_after _ ?_) | (with_reducible assumption) | (dsimp only; omega) | omega)))) ?_; simp only [Act.put, List.setIfInBounds_toArray, List.set_cons_zero, List.set_cons_succ])
      first | (refine plan_quiet nth6 rfl ?_; intro KP hKP; go_big_quiet_op; go_big_quiet_on) | (refine plan_skip_q nth6 rfl rfl ?_; simp only [Act.put, List.setIfInBounds_toArray, List.set_cons_zero, List.set_cons_succ])
      first | (refine plan_loud nth7 rfl ?_; intro KP hKP; go_wp2_with (first | (go_at_call 66; refine (dif_cell k b0 b1 b2 n c n c' a a' l l' _ (hC.out.bel (by (repeat (first | (with_reducible exact Below.refl _ _) | (with_reducible assumption) | (with_reducible refine Later.out _ ?_) | (with_reducible refine bel_alloc ?_ _) | (with_reducible refine bel_drew ?_) | (with_reducible refine bel_drewN ?_ _) | (with_reducible refine bel_set ?_ ?_ _) | (with_reducible refine After.out _ ?_ ?_) | (dsimp only; omega) | omega | (simp only [World.size_alloc, World.size_setCell, World.size_drew]; omega))))) hk1 hk2 hm hm).mono ?_; rintro e w' ⟨rfl, yl, rfl⟩; have hys := yl.bel.size; simp only [World.size_drew] at hys)); refine hKP _ _ (AfterC.mk (by (repeat (first | (with_reducible exact Between.refl _ _ _) | (with_reducible refine Between.drew ?_) | (with_reducible refine Between.drewN ?_ _) | (with_reducible refine Between.set ?_ ?_ ?_ _) | (with_reducible refine btw_later _ ?_) | (with_reducible refine btw_alloc ?_ _) | (with_reducible refine btw_after _ ?_) | (with_reducible assumption) | (dsimp only; omega) | omega)))) ?_; clear hKP KP) | (refine plan_skip nth7 rfl rfl (AfterC.mk (by (repeat (first | (with_reducible exact Between.refl _ _ _) | (with_reducible refine Between.drew ?_) | (with_reducible refine Between.drewN ?_ _) | (with_reducible refine Between.set ?_ ?_ ?_ _) | (with_reducible refine btw_later _ ?_) | (with_reducible refine btw_alloc ?_ _) | (with_reducible refine btw_after _ ?_) | (with_reducible assumption) | (dsimp only; omega) | omega)))) ?_; simp only [Act.put, List.setIfInBounds_toArray, List.set_cons_zero, List.set_cons_succ])
      refine plan_nil ?_
      go_wp2
      go_roundw
      case rel =>
        refine ⟨k + 1, by omega, by go_num, ?_, ?_⟩
        · (repeat (first | (with_reducible exact Between.refl _ _ _) | (with_reducible refine Between.drew ?_) | (with_reducible refine Between.drewN ?_ _) | (with_reducible refine Between.set ?_ ?_ ?_ _) | (with_reducible refine btw_later _ ?_) | (with_reducible refine btw_alloc ?_ _) | (with_reducible refine btw_after _ ?_) | (with_reducible assumption) | (dsimp only; omega) | omega))
        · have h1 := ((HP.out.drewN 1).bel yl.bel (by simp only [World.size_drew]; omega)).set (j := k) (.bool (op_dif l[k] l'[k]))
          rw [hst.out] at h1
          exact h1
      case measure => simp [intOf]; omega
    · obtain rfl : k = n := by omega
      rw [fillPart_full _ _ HJ.out] at ho
      have HP := Lib.hid ho
      clear ho
      go_wp2
      refine bodyPost_ret (by simp [results, Try.results55, go_sem, ↓IntWalk.iteOmega, *]; try rfl) rfl ?_
      refine RetOwn.mk _ rfl ?_ ?_
      · (refine own_mono (base := ?ob1) ?oh1 ?os1; (case oh1 => ((repeat (with_reducible refine own_set ?_ ?_ _)); (with_reducible exact HP.out.own); all_goals (first | (dsimp only; omega) | omega | (simp only [World.size_alloc, World.size_setCell, World.size_drew]; omega)))); (case os1 => (first | (dsimp only; omega) | omega | (simp only [World.size_alloc, World.size_setCell, World.size_drew]; omega))))
      · (repeat (first | (with_reducible exact Below.refl _ _) | (with_reducible assumption) | (with_reducible refine Later.out _ ?_) | (with_reducible refine bel_alloc ?_ _) | (with_reducible refine bel_drew ?_) | (with_reducible refine bel_drewN ?_ _) | (with_reducible refine bel_set ?_ ?_ _) | (with_reducible refine After.out _ ?_ ?_) | (dsimp only; omega) | omega | (simp only [World.size_alloc, World.size_setCell, World.size_drew]; omega)))
end Go.Proofs.Ytkkhjbdnpobpnaa

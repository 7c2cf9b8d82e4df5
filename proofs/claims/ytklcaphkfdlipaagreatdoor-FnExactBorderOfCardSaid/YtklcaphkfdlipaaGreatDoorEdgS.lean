import Derived.Test.YtklcaphkfdlipaaGreatDoorEdgW
import Derived.Test.YtklcaphkfdlipaaGreatDoorFitW
import Derived.Test.YtklcaphkfdlipaaGreatDoorPackVa
/- Slices of edges: comparison and marks for the laws; an edge among edges, both sides. -/
set_option linter.unusedSimpArgs false
set_option linter.unusedVariables false
namespace Go.Proofs.YtklcaphkfdlipaaGreatDoor
open Go.RowKit
set_option maxHeartbeats 1000000 in
theorem eqEdge_same (e : Ed) (w : World) : Calls Tryz.prog 72 #[.agg #[.int .i64 e.p.x, .int .i64 e.p.y, .int .i64 e.q.x, .int .i64 e.q.y], .agg #[.int .i64 e.p.x, .int .i64 e.p.y, .int .i64 e.q.x, .int .i64 e.q.y]] w (Ret w (.bool true)) := by
  go_enter Tryz.func72, Tryz.ntmps72
  go_wp2_with fail
  with_reducible refine (eqPoint_same e.p.x e.p.y _).mono ?_
  rintro e w' ⟨rfl, y1, rfl⟩
  have hsy1 := y1.bel.size
  (try simp only [World.size_alloc, World.size_setCell, World.size_drew] at hsy1)
  have l0 : w.heap.size < y1.w.heap.size := by omega
  have l1 : w.heap.size + 1 < y1.w.heap.size := by omega
  go_wp2_with fail
  with_reducible refine (eqPoint_same e.q.x e.q.y _).mono ?_
  rintro e w' ⟨rfl, y2, rfl⟩
  have hsy2 := y2.bel.size
  (try simp only [World.size_alloc, World.size_setCell, World.size_drew] at hsy2)
  go_wp2_with fail
  go_ret
  exact .mk rfl (by (repeat (first | (with_reducible exact Below.refl _ _) | (with_reducible assumption) | (with_reducible refine Later.out _ ?_) | (with_reducible refine bel_alloc ?_ _) | (with_reducible refine bel_drew ?_) | (with_reducible refine bel_drewN ?_ _) | (with_reducible refine bel_set ?_ ?_ _) | (with_reducible refine After.out _ ?_ ?_) | (dsimp only; omega) | omega | (simp only [World.size_alloc, World.size_setCell, World.size_drew]; omega))))
set_option maxHeartbeats 1000000 in
theorem eqEdgeS_same (L : List Ed) (a a' : Option Addr) (n c n' c' : Nat) (w : World) (hn : L.length = n) (hn' : L.length = n') (hm : n ≤ 1048576) (hr : Row w a (edsCells L)) (hr' : Row w a' (edsCells L)) :
    Calls Tryz.prog 23 #[.slice a n c, .slice a' n' c'] w (Ret w (.bool true)) := by
  subst hn
  subst hn'
  replace hr := Lib.hid hr
  replace hr' := Lib.hid hr'
  go_enter Tryz.func23, Tryz.ntmps23
  go_wp2_with fail
  go_loopw [5] (fun i wr => ∃ k : Nat, k ≤ L.length ∧ i = .int .i64 k ∧ ∃ z : Later w, wr = z.w) (fun i _ => L.length - (intOf i).toNat)
  case atStart => exact ⟨0, Nat.zero_le _, rfl, ⟨_, Below.refl _ _⟩, rfl⟩
  case round =>
    obtain ⟨k, hk, rfl, z, rfl⟩ := hrel
    by_cases hlt : k < L.length
    · obtain ⟨b, o, rfl, hb, q0, q1, q2, q3⟩ := hr.out.ed hlt
      obtain ⟨b', o', rfl, hb', s0, s1, s2, s3⟩ := hr'.out.ed hlt
      have hi1 : (k : Int) < (L.length : Int) := by omega
      have hzz := z.bel.size
      have hbz : b < z.w.heap.size := by omega
      have hbz' : b' < z.w.heap.size := by omega
      generalize L[k] = e at *
      go_wp2_with fail
      refine wp_region_plan [(0, true), (1, true), (2, true), (3, true), (4, true), (5, true), (6, true), (7, true), (8, false), (9, true)] (C := LaterC _) (by kernel_rfl) (by kernel_rfl) (by kernel_rfl) rfl (fun _ _ d _ _ h => by cases d <;> exact h) (LaterC.mk ((Below.refl _ _).drew)) ?_
      first | (refine plan_quiet nth0 rfl ?_; intro KP hKP; go_big_quiet_op; go_big_quiet_on) | (refine plan_skip_q nth0 rfl rfl ?_; simp only [Act.put, List.setIfInBounds_toArray, List.set_cons_zero, List.set_cons_succ])
      first | (refine plan_quiet nth1 rfl ?_; intro KP hKP; go_big_quiet_op; go_big_quiet_on) | (refine plan_skip_q nth1 rfl rfl ?_; simp only [Act.put, List.setIfInBounds_toArray, List.set_cons_zero, List.set_cons_succ])
      first | (refine plan_quiet nth2 rfl ?_; intro KP hKP; go_big_quiet_op; go_big_quiet_on) | (refine plan_skip_q nth2 rfl rfl ?_; simp only [Act.put, List.setIfInBounds_toArray, List.set_cons_zero, List.set_cons_succ])
      first | (refine plan_quiet nth3 rfl ?_; intro KP hKP; go_big_quiet_op; go_big_quiet_on) | (refine plan_skip_q nth3 rfl rfl ?_; simp only [Act.put, List.setIfInBounds_toArray, List.set_cons_zero, List.set_cons_succ])
      first | (refine plan_quiet nth4 rfl ?_; intro KP hKP; go_big_quiet_op; go_big_quiet_on) | (refine plan_skip_q nth4 rfl rfl ?_; simp only [Act.put, List.setIfInBounds_toArray, List.set_cons_zero, List.set_cons_succ])
      first | (refine plan_quiet nth5 rfl ?_; intro KP hKP; go_big_quiet_op; go_big_quiet_on) | (refine plan_skip_q nth5 rfl rfl ?_; simp only [Act.put, List.setIfInBounds_toArray, List.set_cons_zero, List.set_cons_succ])
      first | (refine plan_quiet nth6 rfl ?_; intro KP hKP; go_big_quiet_op; go_big_quiet_on) | (refine plan_skip_q nth6 rfl rfl ?_; simp only [Act.put, List.setIfInBounds_toArray, List.set_cons_zero, List.set_cons_succ])
      first | (refine plan_quiet nth7 rfl ?_; intro KP hKP; go_big_quiet_op; go_big_quiet_on) | (refine plan_skip_q nth7 rfl rfl ?_; simp only [Act.put, List.setIfInBounds_toArray, List.set_cons_zero, List.set_cons_succ])
      first | (refine plan_loud nth8 rfl ?_; intro KP hKP; go_wp2_with (first | (go_at_call 72; first | ((with_reducible refine (Calls.later (eqEdge_same e _)).mono ?_); rintro e w' ⟨rfl, xl, rfl⟩; have hsz := xl.bel.size; (try simp only [World.size_alloc, World.size_setCell, World.size_drew] at hsz); (try have hz0 : w.heap.size < xl.w.heap.size := (by omega)); (try have hz1 : w.heap.size + 1 < xl.w.heap.size := (by omega)); (try have hz2 : w.heap.size + 1 + 1 < xl.w.heap.size := (by omega))) | ((with_reducible refine (eqEdge_same e _).mono ?_); rintro e w' ⟨rfl, xl, rfl⟩; have hsz := xl.bel.size; (try simp only [World.size_alloc, World.size_setCell, World.size_drew] at hsz); (try have hz0 : w.heap.size < xl.w.heap.size := (by omega)); (try have hz1 : w.heap.size + 1 < xl.w.heap.size := (by omega)); (try have hz2 : w.heap.size + 1 + 1 < xl.w.heap.size := (by omega))))); refine hKP _ _ (LaterC.mk (by (repeat (first | (with_reducible exact Below.refl _ _) | (with_reducible assumption) | (with_reducible refine Later.out _ ?_) | (with_reducible refine bel_alloc ?_ _) | (with_reducible refine bel_drew ?_) | (with_reducible refine bel_drewN ?_ _) | (with_reducible refine bel_set ?_ ?_ _) | (with_reducible refine After.out _ ?_ ?_) | (dsimp only; omega) | omega | (simp only [World.size_alloc, World.size_setCell, World.size_drew]; omega))))) ?_; clear hKP KP) | (refine plan_skip nth8 rfl rfl (LaterC.mk (by (repeat (first | (with_reducible exact Below.refl _ _) | (with_reducible assumption) | (with_reducible refine Later.out _ ?_) | (with_reducible refine bel_alloc ?_ _) | (with_reducible refine bel_drew ?_) | (with_reducible refine bel_drewN ?_ _) | (with_reducible refine bel_set ?_ ?_ _) | (with_reducible refine After.out _ ?_ ?_) | (dsimp only; omega) | omega | (simp only [World.size_alloc, World.size_setCell, World.size_drew]; omega))))) ?_; simp only [Act.put, List.setIfInBounds_toArray, List.set_cons_zero, List.set_cons_succ])
      first | (refine plan_quiet nth9 rfl ?_; intro KP hKP; go_big_quiet_op; go_big_quiet_on) | (refine plan_skip_q nth9 rfl rfl ?_; simp only [Act.put, List.setIfInBounds_toArray, List.set_cons_zero, List.set_cons_succ])
      refine plan_nil ?_
      go_wp2_with fail
      go_roundw
      case rel => exact ⟨k + 1, by omega, by go_num, ⟨_, by (repeat (first | (with_reducible exact Below.refl _ _) | (with_reducible assumption) | (with_reducible refine Later.out _ ?_) | (with_reducible refine bel_alloc ?_ _) | (with_reducible refine bel_drew ?_) | (with_reducible refine bel_drewN ?_ _) | (with_reducible refine bel_set ?_ ?_ _) | (with_reducible refine After.out _ ?_ ?_) | (dsimp only; omega) | omega | (simp only [World.size_alloc, World.size_setCell, World.size_drew]; omega)))⟩, rfl⟩
      case measure => first | (simp [intOf]; done) | (simp [intOf]; omega) | omega
    · obtain rfl : k = L.length := by omega
      go_wp2_with fail
      go_ret
      exact .mk rfl (by (repeat (first | (with_reducible exact Below.refl _ _) | (with_reducible assumption) | (with_reducible refine Later.out _ ?_) | (with_reducible refine bel_alloc ?_ _) | (with_reducible refine bel_drew ?_) | (with_reducible refine bel_drewN ?_ _) | (with_reducible refine bel_set ?_ ?_ _) | (with_reducible refine After.out _ ?_ ?_) | (dsimp only; omega) | omega | (simp only [World.size_alloc, World.size_setCell, World.size_drew]; omega))))
/-- The call wrote over a slice of the caller's own, four cells an element. -/
def RetMark4 (w : World) (lo hi E n : Nat) (a : Option Addr) (c : Nat) (cells : List Value) (v : Value) (e : Ending) (w' : World) : Prop :=
  e = .returned v ∧ ∃ z : After w lo hi, w' = z.w ∧ Owns z.w lo hi E 4 n a c cells
set_option maxRecDepth 4000 in
set_option maxHeartbeats 2000000 in
theorem markEdgeS_any (a : Option Addr) (n c lo hi : Nat) (xs : List Value) (w : World) (h : Owns w lo hi 96 4 n a c xs) (hh : hi ≤ w.heap.size) (hm : n ≤ 262144) :
    Calls Tryz.prog 24 #[.slice a n c, .int .i64 1] w (RetMark4 w lo hi 96 n a c (markInts 1 (n * 4)) (.int .i64 (1 + 4 * n))) := by
  have hl : xs.length = n * 4 := by have := h.own.1; omega
  have HO := Lib.hid h
  have HL := Lib.hid hl
  clear h hl
  go_enter Tryz.func24, Tryz.ntmps24
  go_wp2_with fail
  go_loopw [1, 5] (fun kk i wr => ∃ j : Nat, j ≤ n ∧ i = .int .i64 j ∧ kk = .int .i64 (1 + 4 * j) ∧ Between lo hi w wr ∧ Owns wr lo hi 96 4 n a c (markIPart xs 1 (j * 4))) (fun _ i _ => n - (intOf i).toNat)
  case atStart => exact ⟨0, Nat.zero_le _, rfl, by simp, Between.refl _ _ _, by rw [Nat.zero_mul, markIPart_zero]; exact HO.out⟩
  case round =>
    obtain ⟨j, hj, rfl, rfl, hb, ho⟩ := hrel
    by_cases hlt : j < n
    · have hxl := HL.out
      obtain ⟨z, rfl⟩ := AfterC.mk hb
      have hzs := z.btw.size
      obtain ⟨g, rfl, g1, g2, hc0, hf0⟩ := ho.at_ (j := j * 4) (by omega)
      have hol := ho.own.1
      have hgz : g < z.w.heap.size := by omega
      have cellx : ∀ i, i < 4 → (∃ u, z.w.cell? ⟨g, j * 4 + i, none⟩ = some u) ∧ z.w.frozen? ⟨g, j * 4 + i, none⟩ = false := fun i hi => ⟨⟨_, (ho.own.cellAt (j * 4 + i) (by omega)).trans (List.getElem?_eq_getElem (by omega))⟩, ho.own.frozenAt _⟩
      obtain ⟨⟨u0, d0⟩, e0⟩ := cellx 0 (by omega)
      obtain ⟨⟨u1, d1⟩, e1⟩ := cellx 1 (by omega)
      obtain ⟨⟨u2, d2⟩, e2⟩ := cellx 2 (by omega)
      obtain ⟨⟨u3, d3⟩, e3⟩ := cellx 3 (by omega)
      rw [Nat.add_zero] at d0 e0
      have hst := (((ho.set (j := j * 4) (.int .i64 (1 + 4 * (j : Int)))).set (j := j * 4 + 1) (.int .i64 (1 + 4 * (j : Int) + 1))).set (j := j * 4 + 2) (.int .i64 (1 + 4 * (j : Int) + 1 + 1))).set (j := j * 4 + 3) (.int .i64 (1 + 4 * (j : Int) + 1 + 1 + 1))
      have s0 := markIPart_step xs 1 (j * 4) (by omega)
      have s1 := markIPart_step xs 1 (j * 4 + 1) (by omega)
      have s2 := markIPart_step xs 1 (j * 4 + 2) (by omega)
      have s3 := markIPart_step xs 1 (j * 4 + 3) (by omega)
      rw [show (1 : Int) + ((j * 4 : Nat) : Int) = 1 + 4 * (j : Int) by omega] at s0
      rw [show (1 : Int) + ((j * 4 + 1 : Nat) : Int) = 1 + 4 * (j : Int) + 1 by omega] at s1
      rw [show (1 : Int) + ((j * 4 + 2 : Nat) : Int) = 1 + 4 * (j : Int) + 1 + 1 by omega] at s2
      rw [show (1 : Int) + ((j * 4 + 3 : Nat) : Int) = 1 + 4 * (j : Int) + 1 + 1 + 1 by omega] at s3
      rw [s0, s1, s2, s3, show j * 4 + 3 + 1 = (j + 1) * 4 by omega] at hst
      replace hst := Lib.hid hst
      have hbz := Lib.hid z.btw
      clear s0 s1 s2 s3 ho hb cellx hc0 hf0 hol hxl
      go_wp2_with fail
      go_roundw
      case rel => exact ⟨j + 1, by omega, by go_num, by go_num, (((hbz.out.set (p := ⟨g, j * 4, none⟩) g1 g2 _).set (p := ⟨g, j * 4 + 1, none⟩) g1 g2 _).set (p := ⟨g, j * 4 + 2, none⟩) g1 g2 _).set (p := ⟨g, j * 4 + 3, none⟩) g1 g2 _, hst.out⟩
      case measure => simp [intOf]; omega
    · obtain rfl : j = n := by omega
      rw [markIPart_full _ _ _ HL.out] at ho
      have HB := Lib.hid hb
      have HO := Lib.hid ho
      clear hb ho
      go_wp2_with fail
      go_ret
      exact ⟨rfl, ⟨_, HB.out⟩, rfl, HO.out⟩
set_option maxRecDepth 4000 in
set_option maxHeartbeats 2000000 in
theorem heldEdgeS_any (a : Option Addr) (n c : Nat) (w : World) (h : Row w a (markInts 1 (n * 4))) (hm : n ≤ 262144) :
    Calls Tryz.prog 25 #[.slice a n c, .int .i64 1] w (Ret w (.int .i64 (1 + 4 * n))) := by
  have HO := Lib.hid h
  clear h
  go_enter Tryz.func25, Tryz.ntmps25
  go_wp2_with fail
  go_loopw [1, 5] (fun kk i wr => ∃ j : Nat, j ≤ n ∧ i = .int .i64 j ∧ kk = .int .i64 (1 + 4 * j) ∧ ∃ z : Later w, wr = z.w) (fun _ i _ => n - (intOf i).toNat)
  case atStart => exact ⟨0, Nat.zero_le _, rfl, by simp, ⟨_, Below.refl _ _⟩, rfl⟩
  case round =>
    obtain ⟨j, hj, rfl, rfl, z, rfl⟩ := hrel
    have hzz := z.bel.size
    by_cases hlt : j < n
    · obtain ⟨b, o, rfl, c0⟩ := HO.out (j * 4) _ (markInts_get (by omega))
      obtain ⟨b', o', he, c1⟩ := HO.out (j * 4 + 1) _ (markInts_get (by omega))
      cases he
      obtain ⟨b', o', he, c2⟩ := HO.out (j * 4 + 2) _ (markInts_get (by omega))
      cases he
      obtain ⟨b', o', he, c3⟩ := HO.out (j * 4 + 3) _ (markInts_get (by omega))
      cases he
      have hb := World.block_lt_of_cell? w _ c0
      simp only at hb
      have hbz : b < z.w.heap.size := by omega
      rw [show (1 : Int) + ((j * 4 : Nat) : Int) = 1 + 4 * (j : Int) by omega] at c0
      rw [show (1 : Int) + ((j * 4 + 1 : Nat) : Int) = 1 + 4 * (j : Int) + 1 by omega, ← Nat.add_assoc] at c1
      rw [show (1 : Int) + ((j * 4 + 2 : Nat) : Int) = 1 + 4 * (j : Int) + 1 + 1 by omega, ← Nat.add_assoc] at c2
      rw [show (1 : Int) + ((j * 4 + 3 : Nat) : Int) = 1 + 4 * (j : Int) + 1 + 1 + 1 by omega, ← Nat.add_assoc] at c3
      have hi1 : (j : Int) < (n : Int) := by omega
      go_wp2_with fail
      repeat (first | (go_quiet (fail); go_wp2_with fail))
      go_roundw
      case rel => exact ⟨j + 1, by omega, by go_num, by go_num, LaterC.mk (by (repeat (first | (with_reducible exact Below.refl _ _) | (with_reducible assumption) | (with_reducible refine Later.out _ ?_) | (with_reducible refine bel_alloc ?_ _) | (with_reducible refine bel_drew ?_) | (with_reducible refine bel_drewN ?_ _) | (with_reducible refine bel_set ?_ ?_ _) | (with_reducible refine After.out _ ?_ ?_) | (dsimp only; omega) | omega | (simp only [World.size_alloc, World.size_setCell, World.size_drew]; omega))))⟩
      case measure => simp [intOf]; omega
    · obtain rfl : j = n := by omega
      go_wp2_with fail
      go_ret
      exact .mk rfl (by (repeat (first | (with_reducible exact Below.refl _ _) | (with_reducible assumption) | (with_reducible refine Later.out _ ?_) | (with_reducible refine bel_alloc ?_ _) | (with_reducible refine bel_drew ?_) | (with_reducible refine bel_drewN ?_ _) | (with_reducible refine bel_set ?_ ?_ _) | (with_reducible refine After.out _ ?_ ?_) | (dsimp only; omega) | omega | (simp only [World.size_alloc, World.size_setCell, World.size_drew]; omega))))
/-! ### An edge among edges -/
def amongE (L : List Ed) (e : Ed) : Bool := L.any fun f => edEqB e f
theorem edEqB_comm (e f : Ed) : edEqB e f = edEqB f e := by
  refine bool_eq ?_
  rw [edEqB_iff, edEqB_iff]
  exact ⟨fun h => ⟨h.1.symm, h.2.symm⟩, fun h => ⟨h.1.symm, h.2.symm⟩⟩
theorem amongE_yes {L : List Ed} {e : Ed} {k : Nat} (hk : k < L.length) (h : edEqB e L[k] = true) : amongE L e = true := List.any_eq_true.2 ⟨_, List.getElem_mem hk, h⟩
theorem amongE_no {L : List Ed} {e : Ed} (h : ∀ k (hk : k < L.length), edEqB e L[k] = false) : amongE L e = false := by
  unfold amongE
  rw [List.any_eq_false]
  intro x hx
  obtain ⟨k, hk, rfl⟩ := List.mem_iff_getElem.1 hx
  rw [h k hk]; decide
set_option maxHeartbeats 2000000 in
theorem indexE_any (e : Ed) (L : List Ed) (a : Option Addr) (n c : Nat) (w : World) (hn : L.length = n) (hm : n ≤ 1048576) (hr : Row w a (edsCells L)) :
    Calls Tryz.prog 115 #[.slice a n c, .agg #[.int .i64 e.p.x, .int .i64 e.p.y, .int .i64 e.q.x, .int .i64 e.q.y]] w (fun r w' => ∃ i : Int, decide (0 ≤ i) = amongE L e ∧ Ret w (.int .i64 i) r w') := by
  subst hn
  replace hr := Lib.hid hr
  go_enter Tryz.func115, Tryz.ntmps115
  go_wp2_with fail
  go_loopw [8] (fun i wr => ∃ k : Nat, k ≤ L.length ∧ i = .int .i64 k ∧ (∀ j (hj : j < L.length), j < k → edEqB e L[j] = false) ∧ ∃ z : Later (w.alloc (.cells #[.int .i64 e.p.x, .int .i64 e.p.y, .int .i64 e.q.x, .int .i64 e.q.y] 96)), wr = z.w) (fun i _ => L.length - (intOf i).toNat)
  case atStart => exact ⟨0, Nat.zero_le _, rfl, fun j _ h => absurd h (by omega), ⟨_, Below.refl _ _⟩, rfl⟩
  case round =>
    obtain ⟨k, hk, rfl, hall, z, rfl⟩ := hrel
    replace hall := Lib.hid hall
    have hzz := z.bel.size
    simp only [World.size_alloc] at hzz
    by_cases hlt : k < L.length
    · obtain ⟨b, o, rfl, hb, q0, q1, q2, q3⟩ := hr.out.ed hlt
      have hi1 : (k : Int) < (L.length : Int) := by omega
      have hq := fun w => eqEd_run e L[k] w
      have Y := Lib.hid (fun h => amongE_yes (L := L) (e := e) hlt h)
      have N := Lib.hid (fun (h : edEqB e L[k] = false) => (show ∀ j (hj : j < L.length), j < k + 1 → edEqB e L[j] = false from fun j hj hjk => by
        rcases Nat.lt_or_ge j k with h1 | h1
        · exact hall.out j hj h1
        · obtain rfl : j = k := by omega
          exact h))
      have hbz : b < z.w.heap.size := by omega
      have hbn : b < w.heap.size := by omega
      generalize edEqB e L[k] = v at *
      generalize L[k] = f at *
      cases v
      · have X := Lib.hid (N.out rfl)
        clear N Y
        go_wp2_with fail
        refine wp_region_later (by kernel_rfl) (by kernel_rfl) ?_
        repeat (go_big_quiet_step (fail))
        refine wpQuiet_nil ?_
        rintro _ ⟨xq, rfl⟩
        go_wp2_with fail
        go_roundw
        case rel => exact ⟨k + 1, by omega, by go_num, X.out, ⟨_, by (repeat (first | (with_reducible exact Below.refl _ _) | (with_reducible assumption) | (with_reducible refine Later.out _ ?_) | (with_reducible refine bel_alloc ?_ _) | (with_reducible refine bel_drew ?_) | (with_reducible refine bel_drewN ?_ _) | (with_reducible refine bel_set ?_ ?_ _) | (with_reducible refine After.out _ ?_ ?_) | (dsimp only; omega) | omega | (simp only [World.size_alloc, World.size_setCell, World.size_drew]; omega)))⟩, rfl⟩
        case measure => first | (simp [intOf]; done) | (simp [intOf]; omega) | omega
      · have X := Lib.hid (Y.out rfl)
        clear N Y
        go_wp2_with fail
        refine wp_region_later (by kernel_rfl) (by kernel_rfl) ?_
        repeat (go_big_quiet_step (fail))
        refine wpQuiet_nil ?_
        rintro _ ⟨xq, rfl⟩
        go_wp2_with fail
        go_ret
        exact ⟨k, by rw [X.out]; simp, .mk rfl (by (repeat (first | (with_reducible exact Below.refl _ _) | (with_reducible assumption) | (with_reducible refine Later.out _ ?_) | (with_reducible refine bel_alloc ?_ _) | (with_reducible refine bel_drew ?_) | (with_reducible refine bel_drewN ?_ _) | (with_reducible refine bel_set ?_ ?_ _) | (with_reducible refine After.out _ ?_ ?_) | (dsimp only; omega) | omega | (simp only [World.size_alloc, World.size_setCell, World.size_drew]; omega))))⟩
    · obtain rfl : k = L.length := by omega
      have X := Lib.hid (amongE_no (L := L) (e := e) fun j hj => hall.out j hj hj)
      go_wp2_with fail
      go_ret
      exact ⟨-1, by rw [X.out]; rfl, .mk rfl (by (repeat (first | (with_reducible exact Below.refl _ _) | (with_reducible assumption) | (with_reducible refine Later.out _ ?_) | (with_reducible refine bel_alloc ?_ _) | (with_reducible refine bel_drew ?_) | (with_reducible refine bel_drewN ?_ _) | (with_reducible refine bel_set ?_ ?_ _) | (with_reducible refine After.out _ ?_ ?_) | (dsimp only; omega) | omega | (simp only [World.size_alloc, World.size_setCell, World.size_drew]; omega))))⟩
set_option maxHeartbeats 1000000 in
theorem containsE_any (e : Ed) (L : List Ed) (a : Option Addr) (n c : Nat) (w : World) (hn : L.length = n) (hm : n ≤ 1048576) (hr : Row w a (edsCells L)) :
    Calls Tryz.prog 70 #[.slice a n c, .agg #[.int .i64 e.p.x, .int .i64 e.p.y, .int .i64 e.q.x, .int .i64 e.q.y]] w (Ret w (.bool (amongE L e))) := by
  have CI := Lib.hid (fun (w : World) (hr : Row w a (edsCells L)) => indexE_any e L a n c w hn hm hr)
  replace hr := Lib.hid hr
  generalize amongE L e = B at *
  clear hn hm
  go_enter Tryz.func70, Tryz.ntmps70
  go_wp2_with fail
  with_reducible refine (CI.out _ (hr.out.bel (by (repeat (first | (with_reducible exact Below.refl _ _) | (with_reducible assumption) | (with_reducible refine Later.out _ ?_) | (with_reducible refine bel_alloc ?_ _) | (with_reducible refine bel_drew ?_) | (with_reducible refine bel_drewN ?_ _) | (with_reducible refine bel_set ?_ ?_ _) | (with_reducible refine After.out _ ?_ ?_) | (dsimp only; omega) | omega | (simp only [World.size_alloc, World.size_setCell, World.size_drew]; omega)))))).mono ?_
  rintro r w' ⟨i, hi, rfl, y1, rfl⟩
  replace hi := Lib.hid hi
  go_wp2_with fail
  go_ret
  exact .mk (by rw [← hi.out]; rfl) (by (repeat (first | (with_reducible exact Below.refl _ _) | (with_reducible assumption) | (with_reducible refine Later.out _ ?_) | (with_reducible refine bel_alloc ?_ _) | (with_reducible refine bel_drew ?_) | (with_reducible refine bel_drewN ?_ _) | (with_reducible refine bel_set ?_ ?_ _) | (with_reducible refine After.out _ ?_ ?_) | (dsimp only; omega) | omega | (simp only [World.size_alloc, World.size_setCell, World.size_drew]; omega))))
set_option maxHeartbeats 2000000 in
theorem has_any (e : Ed) (L : List Ed) (a : Option Addr) (n c : Nat) (w : World) (hn : L.length = n) (hm : n ≤ 1048576) (hr : Row w a (edsCells L)) :
    Calls Tryz.prog 68 #[.slice a n c, .agg #[.int .i64 e.p.x, .int .i64 e.p.y, .int .i64 e.q.x, .int .i64 e.q.y]] w (Ret w (.bool (amongE L e))) := by
  subst hn
  replace hr := Lib.hid hr
  go_enter Tryz.func68, Tryz.ntmps68
  go_wp2_with fail
  go_loopw [5] (fun i wr => ∃ k : Nat, k ≤ L.length ∧ i = .int .i64 k ∧ (∀ j (hj : j < L.length), j < k → edEqB e L[j] = false) ∧ ∃ z : Later (w.alloc (.cells #[.int .i64 e.p.x, .int .i64 e.p.y, .int .i64 e.q.x, .int .i64 e.q.y] 96)), wr = z.w) (fun i _ => L.length - (intOf i).toNat)
  case atStart => exact ⟨0, Nat.zero_le _, rfl, fun j _ h => absurd h (by omega), ⟨_, Below.refl _ _⟩, rfl⟩
  case round =>
    obtain ⟨k, hk, rfl, hall, z, rfl⟩ := hrel
    replace hall := Lib.hid hall
    have hzz := z.bel.size
    simp only [World.size_alloc] at hzz
    by_cases hlt : k < L.length
    · obtain ⟨b, o, rfl, hb, q0, q1, q2, q3⟩ := hr.out.ed hlt
      have hi1 : (k : Int) < (L.length : Int) := by omega
      have hq := fun w => eqEd_run L[k] e w
      rw [edEqB_comm L[k] e] at hq
      have Y := Lib.hid (fun h => amongE_yes (L := L) (e := e) hlt h)
      have N := Lib.hid (fun (h : edEqB e L[k] = false) => (show ∀ j (hj : j < L.length), j < k + 1 → edEqB e L[j] = false from fun j hj hjk => by
        rcases Nat.lt_or_ge j k with h1 | h1
        · exact hall.out j hj h1
        · obtain rfl : j = k := by omega
          exact h))
      have hbz : b < z.w.heap.size := by omega
      have hbn : b < w.heap.size := by omega
      generalize edEqB e L[k] = v at *
      generalize L[k] = f at *
      cases v
      · have X := Lib.hid (N.out rfl)
        clear N Y
        go_wp2_with fail
        refine wp_region_later (by kernel_rfl) (by kernel_rfl) ?_
        repeat (go_big_quiet_step (fail))
        refine wpQuiet_nil ?_
        rintro _ ⟨xq, rfl⟩
        go_wp2_with fail
        go_roundw
        case rel => exact ⟨k + 1, by omega, by go_num, X.out, ⟨_, by (repeat (first | (with_reducible exact Below.refl _ _) | (with_reducible assumption) | (with_reducible refine Later.out _ ?_) | (with_reducible refine bel_alloc ?_ _) | (with_reducible refine bel_drew ?_) | (with_reducible refine bel_drewN ?_ _) | (with_reducible refine bel_set ?_ ?_ _) | (with_reducible refine After.out _ ?_ ?_) | (dsimp only; omega) | omega | (simp only [World.size_alloc, World.size_setCell, World.size_drew]; omega)))⟩, rfl⟩
        case measure => first | (simp [intOf]; done) | (simp [intOf]; omega) | omega
      · have X := Lib.hid (Y.out rfl)
        clear N Y
        go_wp2_with fail
        refine wp_region_later (by kernel_rfl) (by kernel_rfl) ?_
        repeat (go_big_quiet_step (fail))
        refine wpQuiet_nil ?_
        rintro _ ⟨xq, rfl⟩
        go_wp2_with fail
        go_ret
        exact .mk (by rw [X.out]; rfl) (by (repeat (first | (with_reducible exact Below.refl _ _) | (with_reducible assumption) | (with_reducible refine Later.out _ ?_) | (with_reducible refine bel_alloc ?_ _) | (with_reducible refine bel_drew ?_) | (with_reducible refine bel_drewN ?_ _) | (with_reducible refine bel_set ?_ ?_ _) | (with_reducible refine After.out _ ?_ ?_) | (dsimp only; omega) | omega | (simp only [World.size_alloc, World.size_setCell, World.size_drew]; omega))))
    · obtain rfl : k = L.length := by omega
      have X := Lib.hid (amongE_no (L := L) (e := e) fun j hj => hall.out j hj hj)
      go_wp2_with fail
      go_ret
      exact .mk (by rw [X.out]; rfl) (by (repeat (first | (with_reducible exact Below.refl _ _) | (with_reducible assumption) | (with_reducible refine Later.out _ ?_) | (with_reducible refine bel_alloc ?_ _) | (with_reducible refine bel_drew ?_) | (with_reducible refine bel_drewN ?_ _) | (with_reducible refine bel_set ?_ ?_ _) | (with_reducible refine After.out _ ?_ ?_) | (dsimp only; omega) | omega | (simp only [World.size_alloc, World.size_setCell, World.size_drew]; omega))))
end Go.Proofs.YtklcaphkfdlipaaGreatDoor

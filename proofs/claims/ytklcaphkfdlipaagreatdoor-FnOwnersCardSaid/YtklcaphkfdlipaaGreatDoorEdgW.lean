import Derived.Test.YtklcaphkfdlipaaGreatDoorPackVa
import Derived.Test.YtklcaphkfdlipaaGreatDoorNrmW
/- The edges of a ring, both sides. -/
set_option linter.unusedSimpArgs false
set_option linter.unusedVariables false
namespace Go.Proofs.YtklcaphkfdlipaaGreatDoor
open Go.RowKit
def edCells (e : Ed) : List Value := [.int .i64 e.p.x, .int .i64 e.p.y, .int .i64 e.q.x, .int .i64 e.q.y]
def edsCells (L : List Ed) : List Value := L.flatMap edCells
theorem edsCells_append (L M : List Ed) : edsCells (L ++ M) = edsCells L ++ edsCells M := by simp [edsCells]
theorem length_edsCells (L : List Ed) : (edsCells L).length = L.length * 4 := by
  induction L with
  | nil => rfl
  | cons p L ih =>
    have : edsCells (p :: L) = edCells p ++ edsCells L := rfl
    rw [this, List.length_append, ih]
    simp [edCells]
    omega
theorem eds_get {L : List Ed} {k i : Nat} {v : Value} (h : k < L.length) (hi : (edCells L[k])[i]? = some v) : (edsCells L)[k * 4 + i]? = some v := by
  induction L generalizing k with
  | nil => simp at h
  | cons p L ih =>
    have e : edsCells (p :: L) = edCells p ++ edsCells L := rfl
    have hl : (edCells p).length = 4 := rfl
    rw [e]
    cases k with
    | zero =>
      have := (List.getElem?_eq_some_iff.1 hi).1
      rw [List.getElem?_append_left (by simpa using this), Nat.zero_mul, Nat.zero_add]
      simpa using hi
    | succ k =>
      rw [List.getElem?_append_right (by omega), show (k + 1) * 4 + i - (edCells p).length = k * 4 + i by omega]
      exact ih (by simpa using h) (by simpa using hi)
theorem Row.ed {w : World} {a : Option Addr} {L : List Ed} (h : Row w a (edsCells L)) {k : Nat} (hk : k < L.length) : ∃ b o, a = some ⟨b, o, Option.none⟩ ∧ b < w.heap.size ∧ w.cell? ⟨b, o + k * 4, Option.none⟩ = some (.int .i64 L[k].p.x) ∧ w.cell? ⟨b, o + k * 4 + 1, Option.none⟩ = some (.int .i64 L[k].p.y) ∧ w.cell? ⟨b, o + k * 4 + 2, Option.none⟩ = some (.int .i64 L[k].q.x) ∧ w.cell? ⟨b, o + k * 4 + 3, Option.none⟩ = some (.int .i64 L[k].q.y) := by
  obtain ⟨b, o, rfl, c0⟩ := h (k * 4 + 0) _ (eds_get hk (i := 0) rfl)
  obtain ⟨b', o', he, c1⟩ := h (k * 4 + 1) _ (eds_get hk (i := 1) rfl)
  cases he
  obtain ⟨b', o', he, c2⟩ := h (k * 4 + 2) _ (eds_get hk (i := 2) rfl)
  cases he
  obtain ⟨b', o', he, c3⟩ := h (k * 4 + 3) _ (eds_get hk (i := 3) rfl)
  cases he
  exact ⟨b, o, rfl, World.block_lt_of_cell? w _ c0, by simpa using c0, by rw [Nat.add_assoc]; exact c1, by rw [Nat.add_assoc]; exact c2, by rw [Nat.add_assoc]; exact c3⟩
theorem one_ed (e : Ed) : ∀ u ∈ edCells e, u.oneCell' = true := by intro u hu; simp [edCells] at hu; rcases hu with rfl | rfl | rfl | rfl <;> rfl
theorem one_eds (L : List Ed) : ∀ u ∈ edsCells L, u.oneCell' = true := by
  intro u hu
  simp only [edsCells, List.mem_flatMap] at hu
  obtain ⟨p, _, hp⟩ := hu
  exact one_ed p u hp
theorem info_edge : (Tryz.prog.info? 96).map (fun i => (i.zero, i.size, i.bytes)) = some (some (.agg #[.int .i64 0, .int .i64 0, .int .i64 0, .int .i64 0]), 4, 32) := by kernel_rfl
theorem info_edge' : ∃ i, Tryz.prog.info? 96 = some i ∧ i.zero = some (.agg #[.int .i64 0, .int .i64 0, .int .i64 0, .int .i64 0]) ∧ i.size = 4 ∧ i.bytes = 32 := by
  obtain ⟨i, h1, h2⟩ := Option.map_eq_some_iff.1 info_edge
  simp only [Prod.mk.injEq] at h2
  exact ⟨i, h1, h2.1, h2.2.1, h2.2.2⟩
theorem edg_at {L : List Pt} {k : Nat} (h : k < L.length) : (edg L).take (k + 1) = (edg L).take k ++ [⟨cor (nrm L) k, cor (nrm L) (k + 1)⟩] := by
  rw [List.take_succ_eq_append_getElem (by rw [edg_len]; exact h)]
  simp [edg]
set_option maxRecDepth 8000 in
set_option maxHeartbeats 8000000 in
theorem edgesOf_any (L : List Pt) (a : Option Addr) (n c : Nat) (w : World) (hn : L.length = n) (hR : ringB L = true) (hr : Row w a (ptsCells L)) :
    Calls Tryz.prog 69 #[.slice a n c] w (RetOwn w 96 4 n (edsCells (edg L)) id) := by
  subst hn
  obtain ⟨h3, h12⟩ := ringB_sizes hR
  obtain ⟨ii, j1, j2, j3, j4⟩ := info_edge'
  have Jii := Lib.hid (And.intro j1 (And.intro j2 (And.intro j3 j4)))
  have CN := Lib.hid (fun (w : World) (hr : Row w a (ptsCells L)) => normal_any L a L.length c w rfl hR hr)
  have hnl := nrm_len L
  have hat := Lib.hid (fun (k : Nat) (h : k < L.length) => edg_at h)
  have hall := Lib.hid (show (edg L).take L.length = edg L by rw [List.take_of_length_le (by rw [edg_len]; omega)])
  have hlen := Lib.hid (fun (k : Nat) (h : k ≤ L.length) => (show ((edg L).take k).length = k by rw [List.length_take, edg_len]; omega))
  generalize edg L = E at *
  generalize nrm L = N at *
  have CC := Lib.hid (fun (i : Nat) (v : Int) (a : Option Addr) (c : Nat) (w : World) (hz : v = (i : Int)) (hi : i ≤ 4194304) (hr : Row w a (ptsCells N)) => corner_z (a := a) (n := L.length) (c := c) (w := w) hz hnl (by omega) (by omega) hi hr)
  replace hr := Lib.hid hr
  clear hR j1 j2 j3 j4
  go_enter Tryz.func69, Tryz.ntmps69
  go_wp2_with fail
  with_reducible refine (CN.out _ (hr.out.bel bb)).mono ?_
  rintro e w' ⟨a1, c1, rfl, hown, y1, rfl⟩
  have hsy1 := y1.bel.size
  (try simp only [World.size_alloc, World.size_setCell, World.size_drew] at hsy1)
  have O1 := Lib.hid (Owns.of hown)
  clear hown
  go_wp2_with fail
  go_loopw [4, 11] (fun t4 t11 wr => ∃ (k : Nat) (a6 : Option Addr) (c6 : Nat), k ≤ L.length ∧ t11 = .int .i64 k ∧ t4 = .slice a6 k c6 ∧ wr.ownsRow y1.w.heap.size 96 4 (.slice a6 k c6) k (edsCells (E.take k)) ∧ ∃ z : Later y1.w, wr = z.w) (fun _ t11 _ => L.length - (intOf t11).toNat)
  case atStart => exact ⟨0, _, _, Nat.zero_le _, rfl, rfl, World.ownsRow_nil _ _ _ _, LaterC.mk bb⟩
  case round =>
    obtain ⟨k, a6, c6, hk, rfl, rfl, hown, z2, rfl⟩ := hrel
    have hz2 := z2.bel.size
    replace hown := Lib.hid hown
    by_cases hlt : k < L.length
    · have hk1 : (k : Int) < (L.length : Int) := by omega
      obtain ⟨b, o, rfl, hbb, p0, p1⟩ := O1.out.row.pt (k := k) (by omega)
      rw [← cor_lt (by omega)] at p0 p1
      have X := hat.out k hlt
      have hlk := hlen.out k (by omega)
      have hcl := length_edsCells (E.take k)
      have hCk := Lib.hid (fun (v : Int) (w : World) (hz : v = ((k + 1 : Nat) : Int)) (hr : Row w (some ⟨b, o, Option.none⟩) (ptsCells N)) => CC.out (k + 1) v _ c1 w hz (by omega) hr)
      generalize cor N k = P at *
      generalize cor N (k + 1) = Q at *
      replace X := Lib.hid X
      obtain ⟨p, p', hp1, hp2, hp3, hpo, -⟩ := own_tight (Owns.of hown.out) (by omega)
      replace hpo := Lib.hid hpo
      go_wp2_with fail
      refine wp_region_plan2 [(0, true), (1, true), (2, true), (3, true), (4, true), (5, false), (6, true), (7, false), (8, false), (9, true)] (C := AfterC p p' _) (by kernel_rfl) (by kernel_rfl) (by kernel_rfl) rfl (fun _ _ d _ _ h => by cases d <;> exact h) (AfterC.mk ((Between.refl _ _ _).drew)) ?_
      first | (refine plan_quiet nth0 rfl ?_; intro KP hKP; go_big_quiet_op; go_big_quiet_on) | (refine plan_skip_q nth0 rfl rfl ?_; simp only [Act.put, List.setIfInBounds_toArray, List.set_cons_zero, List.set_cons_succ])
      first | (refine plan_quiet nth1 rfl ?_; intro KP hKP; go_big_quiet_op; go_big_quiet_on) | (refine plan_skip_q nth1 rfl rfl ?_; simp only [Act.put, List.setIfInBounds_toArray, List.set_cons_zero, List.set_cons_succ])
      first | (refine plan_quiet nth2 rfl ?_; intro KP hKP; go_big_quiet_op; go_big_quiet_on) | (refine plan_skip_q nth2 rfl rfl ?_; simp only [Act.put, List.setIfInBounds_toArray, List.set_cons_zero, List.set_cons_succ])
      first | (refine plan_quiet nth3 rfl ?_; intro KP hKP; go_big_quiet_op; go_big_quiet_on) | (refine plan_skip_q nth3 rfl rfl ?_; simp only [Act.put, List.setIfInBounds_toArray, List.set_cons_zero, List.set_cons_succ])
      first | (refine plan_quiet nth4 rfl ?_; intro KP hKP; go_big_quiet_op; go_big_quiet_on) | (refine plan_skip_q nth4 rfl rfl ?_; simp only [Act.put, List.setIfInBounds_toArray, List.set_cons_zero, List.set_cons_succ])
      first | (refine plan_loud nth5 rfl ?_; intro KP hKP; go_wp2_with (first | (go_at_call 114; first | ((with_reducible refine (Calls.later (hCk.out _ _ (by omega) (O1.out.row.bel bb))).mono ?_); rintro e w' ⟨rfl, xl, rfl⟩; have hsz := xl.bel.size; (try simp only [World.size_alloc, World.size_setCell, World.size_drew] at hsz); (try have hz0 : w.heap.size < xl.w.heap.size := (by omega)); (try have hz1 : w.heap.size + 1 < xl.w.heap.size := (by omega)); (try have hz2 : w.heap.size + 1 + 1 < xl.w.heap.size := (by omega))) | ((with_reducible refine (hCk.out _ _ (by omega) (O1.out.row.bel bb)).mono ?_); rintro e w' ⟨rfl, xl, rfl⟩; have hsz := xl.bel.size; (try simp only [World.size_alloc, World.size_setCell, World.size_drew] at hsz); (try have hz0 : w.heap.size < xl.w.heap.size := (by omega)); (try have hz1 : w.heap.size + 1 < xl.w.heap.size := (by omega)); (try have hz2 : w.heap.size + 1 + 1 < xl.w.heap.size := (by omega))))); refine hKP _ _ (AfterC.mk (by (repeat (first | (with_reducible exact Between.refl _ _ _) | (with_reducible refine Between.drew ?_) | (with_reducible refine Between.drewN ?_ _) | (with_reducible refine Between.set ?_ ?_ ?_ _) | (with_reducible refine btw_later _ ?_) | (with_reducible refine btw_alloc ?_ _) | (with_reducible refine btw_after _ ?_) | (with_reducible assumption) | (dsimp only; omega) | omega)))) ?_; clear hKP KP) | (refine plan_skip nth5 rfl rfl (AfterC.mk (by (repeat (first | (with_reducible exact Between.refl _ _ _) | (with_reducible refine Between.drew ?_) | (with_reducible refine Between.drewN ?_ _) | (with_reducible refine Between.set ?_ ?_ ?_ _) | (with_reducible refine btw_later _ ?_) | (with_reducible refine btw_alloc ?_ _) | (with_reducible refine btw_after _ ?_) | (with_reducible assumption) | (dsimp only; omega) | omega)))) ?_; simp only [Act.put, List.setIfInBounds_toArray, List.set_cons_zero, List.set_cons_succ])
      first | (refine plan_quiet nth6 rfl ?_; intro KP hKP; go_big_quiet_op; go_big_quiet_on) | (refine plan_skip_q nth6 rfl rfl ?_; simp only [Act.put, List.setIfInBounds_toArray, List.set_cons_zero, List.set_cons_succ])
      first | (refine plan_loud nth7 rfl ?_; intro KP hKP; go_wp2_with (first | (go_at_call 114; first | ((with_reducible refine (Calls.later (hCk.out _ _ (by omega) (O1.out.row.bel bb))).mono ?_); rintro e w' ⟨rfl, xl, rfl⟩; have hsz := xl.bel.size; (try simp only [World.size_alloc, World.size_setCell, World.size_drew] at hsz); (try have hz0 : w.heap.size < xl.w.heap.size := (by omega)); (try have hz1 : w.heap.size + 1 < xl.w.heap.size := (by omega)); (try have hz2 : w.heap.size + 1 + 1 < xl.w.heap.size := (by omega))) | ((with_reducible refine (hCk.out _ _ (by omega) (O1.out.row.bel bb)).mono ?_); rintro e w' ⟨rfl, xl, rfl⟩; have hsz := xl.bel.size; (try simp only [World.size_alloc, World.size_setCell, World.size_drew] at hsz); (try have hz0 : w.heap.size < xl.w.heap.size := (by omega)); (try have hz1 : w.heap.size + 1 < xl.w.heap.size := (by omega)); (try have hz2 : w.heap.size + 1 + 1 < xl.w.heap.size := (by omega))))); refine hKP _ _ (AfterC.mk (by (repeat (first | (with_reducible exact Between.refl _ _ _) | (with_reducible refine Between.drew ?_) | (with_reducible refine Between.drewN ?_ _) | (with_reducible refine Between.set ?_ ?_ ?_ _) | (with_reducible refine btw_later _ ?_) | (with_reducible refine btw_alloc ?_ _) | (with_reducible refine btw_after _ ?_) | (with_reducible assumption) | (dsimp only; omega) | omega)))) ?_; clear hKP KP) | (refine plan_skip nth7 rfl rfl (AfterC.mk (by (repeat (first | (with_reducible exact Between.refl _ _ _) | (with_reducible refine Between.drew ?_) | (with_reducible refine Between.drewN ?_ _) | (with_reducible refine Between.set ?_ ?_ ?_ _) | (with_reducible refine btw_later _ ?_) | (with_reducible refine btw_alloc ?_ _) | (with_reducible refine btw_after _ ?_) | (with_reducible assumption) | (dsimp only; omega) | omega)))) ?_; simp only [Act.put, List.setIfInBounds_toArray, List.set_cons_zero, List.set_cons_succ])
      refine plan_loud nth8 rfl ?_
      intro KP hKP
      ((refine oper_append_apart _ _ _ _ rfl 96 ii _ 4 32 Tryz.underlying40 Jii.out.1 Jii.out.2.1 Jii.out.2.2.1 Jii.out.2.2.2 rfl (by decide) (p) (p') ?qb1 _ _ _ (edsCells (E.take k)) rfl ?qb2 ?qb8 _ _ _ (edCells ⟨P, Q⟩) rfl ?qb3 ?qb4 ?qb5 ?qb6 ?qb7 ?_); (case qb1 => (first | (dsimp only; omega) | omega | (simp only [World.size_alloc, World.size_setCell, World.size_drew]; omega))); (case qb2 => exact own_bel hpo.out.own bb); (case qb8 => exact hpo.out.lt); (case qb3 => (first | rfl | (simp [boolCells]; done) | (simp [intCells]; done) | (simp; done) | (first | omega | (simp only [List.length_append, List.length_cons, List.length_nil]; omega)))); (case qb4 => exact Row.made _ _ _); (case qb5 => exact one_ed _); (case qb6 => (unfold maxLen; (first | omega | (simp only [List.length_append, List.length_cons, List.length_nil]; omega)))); (case qb7 => (first | omega | (simp only [List.length_append, List.length_cons, List.length_nil]; omega))); intro a9 c9 x9 hown9 hat9; clear hat9; replace hown9 := Lib.hid hown9)
      refine hKP _ _ (AfterC.mk (by (repeat (first | (with_reducible exact Between.refl _ _ _) | (with_reducible refine Between.drew ?_) | (with_reducible refine Between.drewN ?_ _) | (with_reducible refine Between.set ?_ ?_ ?_ _) | (with_reducible refine btw_later _ ?_) | (with_reducible refine btw_alloc ?_ _) | (with_reducible refine btw_after _ ?_) | (with_reducible assumption) | (dsimp only; omega) | omega)))) ?_
      clear hKP KP
      simp only [Act.put, List.setIfInBounds_toArray, List.set_cons_zero, List.set_cons_succ]
      refine plan_quiet nth9 rfl ?_
      intro KP hKP
      go_big_quiet_op
      go_big_quiet_on
      refine plan_nil ?_
      go_wp2_with fail
      go_roundw
      case rel => exact ⟨k + 1, a9, c9, by omega, by go_num, rfl, by rw [X.out, edsCells_append, show edsCells [⟨P, Q⟩] = edCells ⟨P, Q⟩ by simp [edsCells]]; exact own_mono hown9.out hp1, LaterC.mk bb⟩
      case measure => first | (simp [intOf]; done) | (simp [intOf]; omega) | omega
    · obtain rfl : k = L.length := by omega
      have hown8 := hown.out
      rw [hall.out] at hown8
      replace hown8 := Lib.hid hown8
      go_wp2_with fail
      go_ret
      exact RetOwn.mk _ rfl (own_mono hown8.out (by omega)) (z2.out y1.bel)
set_option maxRecDepth 8000 in
set_option maxHeartbeats 8000000 in
theorem sEdges_any (L : List Pt) (a : Option Addr) (n c : Nat) (w : World) (hn : L.length = n) (h0 : 0 < n) (hm : n ≤ 1000) (hb : PtsB L) (hr : Row w a (ptsCells L)) :
    Calls Tryz.prog 67 #[.slice a n c] w (RetOwn w 96 4 n (edsCells (edg L)) id) := by
  subst hn
  obtain ⟨ii, j1, j2, j3, j4⟩ := info_edge'
  have Jii := Lib.hid (And.intro j1 (And.intro j2 (And.intro j3 j4)))
  have CN := Lib.hid (fun (w : World) (hr : Row w a (ptsCells L)) => sNormal_any L a L.length c w rfl h0 hm hb hr)
  have hnl := nrm_len L
  have hat := Lib.hid (fun (k : Nat) (h : k < L.length) => edg_at h)
  have hall := Lib.hid (show (edg L).take L.length = edg L by rw [List.take_of_length_le (by rw [edg_len]; omega)])
  have hlen := Lib.hid (fun (k : Nat) (h : k ≤ L.length) => (show ((edg L).take k).length = k by rw [List.length_take, edg_len]; omega))
  have hlit := Lib.hid (fun (W : World) => World.ownsRow_lit (base := W.heap.size) (e := 96) (size := 4) W #[] 0 (Nat.le_refl _) (by unfold maxLen; omega) rfl)
  generalize edg L = E at *
  generalize nrm L = N at *
  have CC := Lib.hid (fun (i : Nat) (v : Int) (a : Option Addr) (c : Nat) (w : World) (hz : v = (i : Int)) (hi : i ≤ 4194304) (hr : Row w a (ptsCells N)) => l16At_z (a := a) (n := L.length) (c := c) (w := w) hz hnl h0 (by omega) hi hr)
  replace hr := Lib.hid hr
  clear hb j1 j2 j3 j4
  go_enter Tryz.func67, Tryz.ntmps67
  go_wp2_with fail
  with_reducible refine (CN.out _ (hr.out.bel bb)).mono ?_
  rintro e w' ⟨a1, c1, rfl, hown, y1, rfl⟩
  have hsy1 := y1.bel.size
  (try simp only [World.size_alloc, World.size_setCell, World.size_drew] at hsy1)
  have O1 := Lib.hid (Owns.of hown)
  clear hown
  go_wp2_with fail
  go_loopw [4, 5] (fun t4 t11 wr => ∃ (k : Nat) (a6 : Option Addr) (c6 : Nat), k ≤ L.length ∧ t11 = .int .i64 k ∧ t4 = .slice a6 k c6 ∧ wr.ownsRow y1.w.heap.size 96 4 (.slice a6 k c6) k (edsCells (E.take k)) ∧ ∃ z : Later y1.w, wr = z.w) (fun _ t11 _ => L.length - (intOf t11).toNat)
  case atStart => exact ⟨0, _, _, Nat.zero_le _, rfl, rfl, hlit.out _, LaterC.mk bb⟩
  case round =>
    obtain ⟨k, a6, c6, hk, rfl, rfl, hown, z2, rfl⟩ := hrel
    have hz2 := z2.bel.size
    replace hown := Lib.hid hown
    by_cases hlt : k < L.length
    · have hk1 : (k : Int) < (L.length : Int) := by omega
      obtain ⟨b, o, rfl, hbb, q0, q1⟩ := O1.out.row.pt (k := k) (by omega)
      rw [← cor_lt (by omega)] at q0 q1
      have X := hat.out k hlt
      have hlk := hlen.out k (by omega)
      have hcl := length_edsCells (E.take k)
      have hCk := Lib.hid (fun (v : Int) (w : World) (hz : v = ((k + 1 : Nat) : Int)) (hr : Row w (some ⟨b, o, Option.none⟩) (ptsCells N)) => CC.out (k + 1) v _ c1 w hz (by omega) hr)
      generalize cor N k = P at *
      generalize cor N (k + 1) = Q at *
      replace X := Lib.hid X
      obtain ⟨p, p', hp1, hp2, hp3, hpo, -⟩ := own_tight (Owns.of hown.out) (by omega)
      replace hpo := Lib.hid hpo
      have hwr : IntKind.i64.wrap ((k : Int) + 1) = (k : Int) + 1 := IntWalk.i64_in _ (by omega)
      have hbp : b < p := by omega
      have hbz : b < z2.w.heap.size := by omega
      go_wp2_with fail
      refine wp_region_plan2 [(0, true), (1, true), (2, true), (3, true), (4, true), (5, true), (6, true), (7, true), (8, false), (9, true), (10, false), (11, false), (12, true)] (C := AfterC p p' _) (by kernel_rfl) (by kernel_rfl) (by kernel_rfl) rfl (fun _ _ d _ _ h => by cases d <;> exact h) (AfterC.mk ((Between.refl _ _ _).drew)) ?_
      first | (refine plan_quiet nth0 rfl ?_; intro KP hKP; go_big_quiet_op; go_big_quiet_on) | (refine plan_skip_q nth0 rfl rfl ?_; simp only [Act.put, List.setIfInBounds_toArray, List.set_cons_zero, List.set_cons_succ])
      first | (refine plan_quiet nth1 rfl ?_; intro KP hKP; go_big_quiet_op; go_big_quiet_on) | (refine plan_skip_q nth1 rfl rfl ?_; simp only [Act.put, List.setIfInBounds_toArray, List.set_cons_zero, List.set_cons_succ])
      first | (refine plan_quiet nth2 rfl ?_; intro KP hKP; go_big_quiet_op; go_big_quiet_on) | (refine plan_skip_q nth2 rfl rfl ?_; simp only [Act.put, List.setIfInBounds_toArray, List.set_cons_zero, List.set_cons_succ])
      first | (refine plan_quiet nth3 rfl ?_; intro KP hKP; go_big_quiet_op; go_big_quiet_on) | (refine plan_skip_q nth3 rfl rfl ?_; simp only [Act.put, List.setIfInBounds_toArray, List.set_cons_zero, List.set_cons_succ])
      first | (refine plan_quiet nth4 rfl ?_; intro KP hKP; go_big_quiet_op; go_big_quiet_on) | (refine plan_skip_q nth4 rfl rfl ?_; simp only [Act.put, List.setIfInBounds_toArray, List.set_cons_zero, List.set_cons_succ])
      first | (refine plan_quiet nth5 rfl ?_; intro KP hKP; go_big_quiet_op; go_big_quiet_on) | (refine plan_skip_q nth5 rfl rfl ?_; simp only [Act.put, List.setIfInBounds_toArray, List.set_cons_zero, List.set_cons_succ])
      first | (refine plan_quiet nth6 rfl ?_; intro KP hKP; go_big_quiet_op; go_big_quiet_on) | (refine plan_skip_q nth6 rfl rfl ?_; simp only [Act.put, List.setIfInBounds_toArray, List.set_cons_zero, List.set_cons_succ])
      first | (refine plan_quiet nth7 rfl ?_; intro KP hKP; go_big_quiet_op; go_big_quiet_on) | (refine plan_skip_q nth7 rfl rfl ?_; simp only [Act.put, List.setIfInBounds_toArray, List.set_cons_zero, List.set_cons_succ])
      first | (refine plan_loud nth8 rfl ?_; intro KP hKP; go_wp2_with (first | (go_at_call 112; first | ((with_reducible refine (Calls.later (hCk.out _ _ (by omega) (O1.out.row.bel bb))).mono ?_); rintro e w' ⟨rfl, xl, rfl⟩; have hsz := xl.bel.size; (try simp only [World.size_alloc, World.size_setCell, World.size_drew] at hsz); (try have hz0 : w.heap.size < xl.w.heap.size := (by omega)); (try have hz1 : w.heap.size + 1 < xl.w.heap.size := (by omega)); (try have hz2 : w.heap.size + 1 + 1 < xl.w.heap.size := (by omega))) | ((with_reducible refine (hCk.out _ _ (by omega) (O1.out.row.bel bb)).mono ?_); rintro e w' ⟨rfl, xl, rfl⟩; have hsz := xl.bel.size; (try simp only [World.size_alloc, World.size_setCell, World.size_drew] at hsz); (try have hz0 : w.heap.size < xl.w.heap.size := (by omega)); (try have hz1 : w.heap.size + 1 < xl.w.heap.size := (by omega)); (try have hz2 : w.heap.size + 1 + 1 < xl.w.heap.size := (by omega))))); refine hKP _ _ (AfterC.mk (by (repeat (first | (with_reducible exact Between.refl _ _ _) | (with_reducible refine Between.drew ?_) | (with_reducible refine Between.drewN ?_ _) | (with_reducible refine Between.set ?_ ?_ ?_ _) | (with_reducible refine btw_later _ ?_) | (with_reducible refine btw_alloc ?_ _) | (with_reducible refine btw_after _ ?_) | (with_reducible assumption) | (dsimp only; omega) | omega)))) ?_; clear hKP KP) | (refine plan_skip nth8 rfl rfl (AfterC.mk (by (repeat (first | (with_reducible exact Between.refl _ _ _) | (with_reducible refine Between.drew ?_) | (with_reducible refine Between.drewN ?_ _) | (with_reducible refine Between.set ?_ ?_ ?_ _) | (with_reducible refine btw_later _ ?_) | (with_reducible refine btw_alloc ?_ _) | (with_reducible refine btw_after _ ?_) | (with_reducible assumption) | (dsimp only; omega) | omega)))) ?_; simp only [Act.put, List.setIfInBounds_toArray, List.set_cons_zero, List.set_cons_succ])
      first | (refine plan_quiet nth9 rfl ?_; intro KP hKP; go_big_quiet_op; go_big_quiet_on) | (refine plan_skip_q nth9 rfl rfl ?_; simp only [Act.put, List.setIfInBounds_toArray, List.set_cons_zero, List.set_cons_succ])
      first | (refine plan_loud nth10 rfl ?_; intro KP hKP; go_wp2_with (first | (go_at_call 112; first | ((with_reducible refine (Calls.later (hCk.out _ _ (by omega) (O1.out.row.bel bb))).mono ?_); rintro e w' ⟨rfl, xl, rfl⟩; have hsz := xl.bel.size; (try simp only [World.size_alloc, World.size_setCell, World.size_drew] at hsz); (try have hz0 : w.heap.size < xl.w.heap.size := (by omega)); (try have hz1 : w.heap.size + 1 < xl.w.heap.size := (by omega)); (try have hz2 : w.heap.size + 1 + 1 < xl.w.heap.size := (by omega))) | ((with_reducible refine (hCk.out _ _ (by omega) (O1.out.row.bel bb)).mono ?_); rintro e w' ⟨rfl, xl, rfl⟩; have hsz := xl.bel.size; (try simp only [World.size_alloc, World.size_setCell, World.size_drew] at hsz); (try have hz0 : w.heap.size < xl.w.heap.size := (by omega)); (try have hz1 : w.heap.size + 1 < xl.w.heap.size := (by omega)); (try have hz2 : w.heap.size + 1 + 1 < xl.w.heap.size := (by omega))))); refine hKP _ _ (AfterC.mk (by (repeat (first | (with_reducible exact Between.refl _ _ _) | (with_reducible refine Between.drew ?_) | (with_reducible refine Between.drewN ?_ _) | (with_reducible refine Between.set ?_ ?_ ?_ _) | (with_reducible refine btw_later _ ?_) | (with_reducible refine btw_alloc ?_ _) | (with_reducible refine btw_after _ ?_) | (with_reducible assumption) | (dsimp only; omega) | omega)))) ?_; clear hKP KP) | (refine plan_skip nth10 rfl rfl (AfterC.mk (by (repeat (first | (with_reducible exact Between.refl _ _ _) | (with_reducible refine Between.drew ?_) | (with_reducible refine Between.drewN ?_ _) | (with_reducible refine Between.set ?_ ?_ ?_ _) | (with_reducible refine btw_later _ ?_) | (with_reducible refine btw_alloc ?_ _) | (with_reducible refine btw_after _ ?_) | (with_reducible assumption) | (dsimp only; omega) | omega)))) ?_; simp only [Act.put, List.setIfInBounds_toArray, List.set_cons_zero, List.set_cons_succ])
      refine plan_loud nth11 rfl ?_
      intro KP hKP
      ((refine oper_append_apart _ _ _ _ rfl 96 ii _ 4 32 Tryz.underlying40 Jii.out.1 Jii.out.2.1 Jii.out.2.2.1 Jii.out.2.2.2 rfl (by decide) (p) (p') ?qb17 _ _ _ (edsCells (E.take k)) rfl ?qb18 ?qb24 _ _ _ (edCells ⟨P, Q⟩) rfl ?qb19 ?qb20 ?qb21 ?qb22 ?qb23 ?_); (case qb17 => (first | (dsimp only; omega) | omega | (simp only [World.size_alloc, World.size_setCell, World.size_drew]; omega))); (case qb18 => exact own_bel hpo.out.own bb); (case qb24 => exact hpo.out.lt); (case qb19 => (first | rfl | (simp [boolCells]; done) | (simp [intCells]; done) | (simp; done) | (first | omega | (simp only [List.length_append, List.length_cons, List.length_nil]; omega)))); (case qb20 => exact Row.made _ _ _); (case qb21 => exact one_ed _); (case qb22 => (unfold maxLen; (first | omega | (simp only [List.length_append, List.length_cons, List.length_nil]; omega)))); (case qb23 => (first | omega | (simp only [List.length_append, List.length_cons, List.length_nil]; omega))); intro a9 c9 x9 hown9 hat9; clear hat9; replace hown9 := Lib.hid hown9)
      refine hKP _ _ (AfterC.mk (by (repeat (first | (with_reducible exact Between.refl _ _ _) | (with_reducible refine Between.drew ?_) | (with_reducible refine Between.drewN ?_ _) | (with_reducible refine Between.set ?_ ?_ ?_ _) | (with_reducible refine btw_later _ ?_) | (with_reducible refine btw_alloc ?_ _) | (with_reducible refine btw_after _ ?_) | (with_reducible assumption) | (dsimp only; omega) | omega)))) ?_
      clear hKP KP
      simp only [Act.put, List.setIfInBounds_toArray, List.set_cons_zero, List.set_cons_succ]
      refine plan_quiet nth12 rfl ?_
      intro KP hKP
      go_big_quiet_op
      go_big_quiet_on
      refine plan_nil ?_
      go_wp2_with fail
      go_roundw
      case rel => exact ⟨k + 1, a9, c9, by omega, by go_num, rfl, by rw [X.out, edsCells_append, show edsCells [⟨P, Q⟩] = edCells ⟨P, Q⟩ by simp [edsCells]]; exact own_mono hown9.out hp1, LaterC.mk bb⟩
      case measure => first | (simp [intOf]; done) | (simp [intOf]; omega) | omega
    · obtain rfl : k = L.length := by omega
      have hown8 := hown.out
      rw [hall.out] at hown8
      replace hown8 := Lib.hid hown8
      go_wp2_with fail
      go_ret
      exact RetOwn.mk _ rfl (own_mono hown8.out (by omega)) (z2.out y1.bel)
end Go.Proofs.YtklcaphkfdlipaaGreatDoor

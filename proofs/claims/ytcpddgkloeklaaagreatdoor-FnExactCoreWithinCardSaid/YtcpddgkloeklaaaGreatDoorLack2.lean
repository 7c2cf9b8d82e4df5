import Derived.Test.YtcpddgkloeklaaaGreatDoorLack
/- A list without one of its elements: both sides. -/
set_option linter.unusedSimpArgs false
set_option linter.unusedVariables false
namespace Go.Proofs.YtcpddgkloeklaaaGreatDoor
open Go.RowKit
theorem Row.int_take {w : World} {a : Option Addr} {S : List Int} (h : Row w a (intCells S)) (k : Nat) : Row w a (intCells (S.take k)) := h.sub fun j v hj => by
  have hj2 := (List.getElem?_eq_some_iff.1 hj).1
  rw [length_intCells, List.length_take] at hj2
  rw [show intCells (S.take k) = (intCells S).take k by simp [intCells, List.map_take], List.getElem?_take, if_pos (by omega)] at hj
  exact hj
theorem Row.int_drop {w : World} {b o : Nat} {S : List Int} (h : Row w (some ⟨b, o, none⟩) (intCells S)) (k : Nat) : Row w (some ⟨b, o + k, none⟩) (intCells (S.drop k)) := fun j v hj => by
  rw [show intCells (S.drop k) = (intCells S).drop k by simp [intCells, List.map_drop], List.getElem?_drop] at hj
  obtain ⟨b', o', he, hc⟩ := h (k + j) v hj
  cases he
  exact ⟨b, o + k, rfl, by rw [Nat.add_assoc]; exact hc⟩
theorem Rows2.two {W : World} {e : TypeId} {a1 a2 : Option Addr} {n1 n2 c1 c2 : Nat} {l1 l2 : List Int} (h1 : Row W a1 (intCells l1)) (h2 : Row W a2 (intCells l2)) (e1 : l1.length = n1) (e2 : l2.length = n2) :
    Rows2 (W.alloc (.cells #[.slice a1 n1 c1, .slice a2 n2 c2] e)) (some ⟨W.heap.size, 0, none⟩) [l1, l2] := by
  subst e1 e2
  have hb : Below W.heap.size W (W.alloc (.cells #[.slice a1 l1.length c1, .slice a2 l2.length c2] e)) := (Below.refl _ _).alloc (Nat.le_refl _) _
  refine ⟨[.slice a1 l1.length c1, .slice a2 l2.length c2], rfl, Row.made _ _ _, fun i hi => ?_⟩
  match i, hi with
  | 0, _ => exact ⟨a1, c1, rfl, h1.bel hb⟩
  | 1, _ => exact ⟨a2, c2, rfl, h2.bel hb⟩
  | k + 2, h => simp at h; omega
theorem flat_two (l1 l2 : List Int) : flatS [l1, l2] 2 = l1 ++ l2 := by simp [flatS]
theorem erase_split (S : List Int) (i : Nat) : S.take i ++ S.drop (i + 1) = S.eraseIdx i := (List.eraseIdx_eq_take_drop_succ S i).symm
set_option maxRecDepth 8000 in
set_option maxHeartbeats 2000000 in
theorem lacking_any (S : List Int) (i : Nat) (a : Option Addr) (n c : Nat) (w : World) (hn : S.length = n) (hi : i < n) (hm : n ≤ 1000) (hcap : n ≤ c) (hr : Row w a (intCells S)) :
    Calls Tryz.prog 67 #[.slice a n c, .int .i64 i] w (RetOwn w 2 1 (S.eraseIdx i).length (intCells (S.eraseIdx i)) id) := by
  subst hn
  obtain ⟨b, o, rfl, hb, hc⟩ := hr.int hi
  have hi1 : (i : Int) < (S.length : Int) := by omega
  by_cases hc1 : c = i + 1
  · subst hc1
    have hR := Lib.hid (Rows2.two (W := w) (e := 23) (c1 := i + 1) (c2 := 0) (a2 := some ⟨b, o, none⟩) (hr.int_take i) (l2 := S.drop (i + 1)) (by rw [List.drop_eq_nil_of_le (by omega)]; exact Row.nil _ _) (n1 := i) (n2 := 0) (by simp; omega) (by simp; omega))
    have CC := Lib.hid (fun a c w hr => concat_any [S.take i, S.drop (i + 1)] a 2 c 1000 w rfl (by omega) (by intro l hl; simp at hl; rcases hl with rfl | rfl <;> simp <;> omega) (by omega) hr)
    have hF := Lib.hid (show flatS [S.take i, S.drop (i + 1)] 2 = S.eraseIdx i by rw [flat_two, erase_split])
    rw [hF.out] at CC
    clear hr hc
    go_enter Tryz.func67, Tryz.ntmps67
    go_wp2_with fail
    refine wp_region_plan [(0, true), (1, true), (2, true), (3, true), (4, true), (5, true), (6, true), (7, false), (8, false), (9, true)] (C := LaterC _) (by kernel_rfl) (by kernel_rfl) (by kernel_rfl) rfl (fun _ _ d _ _ h => by cases d <;> exact h) (LaterC.mk ((Below.refl _ _).drew)) ?_
    refine plan_quiet nth0 rfl ?_
    intro KP hKP
    go_big_quiet_op
    go_big_quiet_on
    refine plan_quiet nth1 rfl ?_
    intro KP hKP
    go_big_quiet_op
    go_big_quiet_on
    refine plan_quiet nth2 rfl ?_
    intro KP hKP
    go_big_quiet_op
    go_big_quiet_on
    refine plan_quiet nth3 rfl ?_
    intro KP hKP
    go_big_quiet_op
    go_big_quiet_on
    refine plan_quiet nth4 rfl ?_
    intro KP hKP
    go_big_quiet_op
    go_big_quiet_on
    refine plan_quiet nth5 rfl ?_
    intro KP hKP
    go_big_quiet_op
    go_big_quiet_on
    refine plan_quiet nth6 rfl ?_
    intro KP hKP
    go_big_quiet_op
    go_big_quiet_on
    refine plan_loud nth7 rfl ?_
    intro KP hKP
    go_wp2_with fail
    refine hKP _ _ (LaterC.mk (by (repeat (first | (with_reducible exact Below.refl _ _) | (with_reducible assumption) | (with_reducible refine Later.out _ ?_) | (with_reducible refine bel_alloc ?_ _) | (with_reducible refine bel_drew ?_) | (with_reducible refine bel_drewN ?_ _) | (with_reducible refine bel_set ?_ ?_ _) | (with_reducible refine After.out _ ?_ ?_) | (dsimp only; omega) | omega | (simp only [World.size_alloc, World.size_setCell, World.size_drew]; omega))))) ?_
    clear hKP KP
    refine plan_loud nth8 rfl ?_
    intro KP hKP
    go_wp2_with fail
    with_reducible refine (CC.out _ _ _ (hR.out.bel ?hbx)).mono ?_
    case hbx => (first | exact bel_drew (Below.refl _ _) | exact Below.refl _ _)
    rintro e w' ⟨a1, c1, rfl, hown, x1, rfl⟩
    have hs1 := x1.bel.size
    (try simp only [World.size_alloc, World.size_setCell, World.size_drew] at hs1)
    have HO1 := Lib.hid (Owns.of hown)
    clear hown
    go_wp2_with fail
    refine hKP _ _ (LaterC.mk (by (repeat (first | (with_reducible exact Below.refl _ _) | (with_reducible assumption) | (with_reducible refine Later.out _ ?_) | (with_reducible refine bel_alloc ?_ _) | (with_reducible refine bel_drew ?_) | (with_reducible refine bel_drewN ?_ _) | (with_reducible refine bel_set ?_ ?_ _) | (with_reducible refine After.out _ ?_ ?_) | (dsimp only; omega) | omega | (simp only [World.size_alloc, World.size_setCell, World.size_drew]; omega))))) ?_
    clear hKP KP
    refine plan_quiet nth9 rfl ?_
    intro KP hKP
    go_big_quiet_op
    go_big_quiet_on
    refine plan_nil ?_
    go_wp2_with fail
    go_ret
    refine RetOwn.mk _ rfl (own_mono HO1.out.own ?_) ?_
    · ((try simp only [World.size_alloc, World.size_setCell, World.size_drew]); omega)
    · (repeat (first | (with_reducible exact Below.refl _ _) | (with_reducible assumption) | (with_reducible refine Later.out _ ?_) | (with_reducible refine bel_alloc ?_ _) | (with_reducible refine bel_drew ?_) | (with_reducible refine bel_drewN ?_ _) | (with_reducible refine bel_set ?_ ?_ _) | (with_reducible refine After.out _ ?_ ?_) | (dsimp only; omega) | omega | (simp only [World.size_alloc, World.size_setCell, World.size_drew]; omega)))
  · have hlt : i + 1 < c := by omega
    have hR := Lib.hid (Rows2.two (W := w) (e := 23) (c1 := c) (c2 := c - (i + 1)) (hr.int_take i) (hr.int_drop (i + 1)) (n1 := i) (n2 := S.length - (i + 1)) (by simp; omega) (by simp))
    have CC := Lib.hid (fun a c w hr => concat_any [S.take i, S.drop (i + 1)] a 2 c 1000 w rfl (by omega) (by intro l hl; simp at hl; rcases hl with rfl | rfl <;> simp <;> omega) (by omega) hr)
    have hF := Lib.hid (show flatS [S.take i, S.drop (i + 1)] 2 = S.eraseIdx i by rw [flat_two, erase_split])
    rw [hF.out] at CC
    clear hr hc
    go_enter Tryz.func67, Tryz.ntmps67
    go_wp2_with fail
    refine wp_region_plan [(0, true), (1, true), (2, true), (3, true), (4, true), (5, true), (6, true), (7, false), (8, false), (9, true)] (C := LaterC _) (by kernel_rfl) (by kernel_rfl) (by kernel_rfl) rfl (fun _ _ d _ _ h => by cases d <;> exact h) (LaterC.mk ((Below.refl _ _).drew)) ?_
    refine plan_quiet nth0 rfl ?_
    intro KP hKP
    go_big_quiet_op
    go_big_quiet_on
    refine plan_quiet nth1 rfl ?_
    intro KP hKP
    go_big_quiet_op
    go_big_quiet_on
    refine plan_quiet nth2 rfl ?_
    intro KP hKP
    go_big_quiet_op
    go_big_quiet_on
    refine plan_quiet nth3 rfl ?_
    intro KP hKP
    go_big_quiet_op
    go_big_quiet_on
    refine plan_quiet nth4 rfl ?_
    intro KP hKP
    go_big_quiet_op
    go_big_quiet_on
    refine plan_quiet nth5 rfl ?_
    intro KP hKP
    go_big_quiet_op
    go_big_quiet_on
    refine plan_quiet nth6 rfl ?_
    intro KP hKP
    go_big_quiet_op
    go_big_quiet_on
    refine plan_loud nth7 rfl ?_
    intro KP hKP
    go_wp2_with fail
    refine hKP _ _ (LaterC.mk (by (repeat (first | (with_reducible exact Below.refl _ _) | (with_reducible assumption) | (with_reducible refine Later.out _ ?_) | (with_reducible refine bel_alloc ?_ _) | (with_reducible refine bel_drew ?_) | (with_reducible refine bel_drewN ?_ _) | (with_reducible refine bel_set ?_ ?_ _) | (with_reducible refine After.out _ ?_ ?_) | (dsimp only; omega) | omega | (simp only [World.size_alloc, World.size_setCell, World.size_drew]; omega))))) ?_
    clear hKP KP
    refine plan_loud nth8 rfl ?_
    intro KP hKP
    go_wp2_with fail
    with_reducible refine (CC.out _ _ _ (hR.out.bel ?hbx)).mono ?_
    case hbx => (first | exact bel_drew (Below.refl _ _) | exact Below.refl _ _)
    rintro e w' ⟨a1, c1, rfl, hown, x1, rfl⟩
    have hs1 := x1.bel.size
    (try simp only [World.size_alloc, World.size_setCell, World.size_drew] at hs1)
    have HO1 := Lib.hid (Owns.of hown)
    clear hown
    go_wp2_with fail
    refine hKP _ _ (LaterC.mk (by (repeat (first | (with_reducible exact Below.refl _ _) | (with_reducible assumption) | (with_reducible refine Later.out _ ?_) | (with_reducible refine bel_alloc ?_ _) | (with_reducible refine bel_drew ?_) | (with_reducible refine bel_drewN ?_ _) | (with_reducible refine bel_set ?_ ?_ _) | (with_reducible refine After.out _ ?_ ?_) | (dsimp only; omega) | omega | (simp only [World.size_alloc, World.size_setCell, World.size_drew]; omega))))) ?_
    clear hKP KP
    refine plan_quiet nth9 rfl ?_
    intro KP hKP
    go_big_quiet_op
    go_big_quiet_on
    refine plan_nil ?_
    go_wp2_with fail
    go_ret
    refine RetOwn.mk _ rfl (own_mono HO1.out.own ?_) ?_
    · ((try simp only [World.size_alloc, World.size_setCell, World.size_drew]); omega)
    · (repeat (first | (with_reducible exact Below.refl _ _) | (with_reducible assumption) | (with_reducible refine Later.out _ ?_) | (with_reducible refine bel_alloc ?_ _) | (with_reducible refine bel_drew ?_) | (with_reducible refine bel_drewN ?_ _) | (with_reducible refine bel_set ?_ ?_ _) | (with_reducible refine After.out _ ?_ ?_) | (dsimp only; omega) | omega | (simp only [World.size_alloc, World.size_setCell, World.size_drew]; omega)))
set_option maxRecDepth 8000 in
set_option maxHeartbeats 2000000 in
theorem sWithout_any (S : List Int) (i : Nat) (a : Option Addr) (n c : Nat) (w : World) (hn : S.length = n) (hi : i < n) (hm : n ≤ 1000) (hcap : n ≤ c) (hr : Row w a (intCells S)) :
    Calls Tryz.prog 63 #[.slice a n c, .int .i64 i] w (RetOwn w 2 1 (S.eraseIdx i).length (intCells (S.eraseIdx i)) id) := by
  subst hn
  obtain ⟨ii, j1, j2, j3, j4⟩ := info_i64'
  have Jii := Lib.hid (And.intro j1 (And.intro j2 (And.intro j3 j4)))
  clear j1 j2 j3 j4
  obtain ⟨b, o, rfl, hb, hc⟩ := hr.int hi
  have hi1 : (i : Int) < (S.length : Int) := by omega
  have hl1 : (intCells (S.take i)).length = i := by rw [length_intCells, List.length_take]; omega
  have hl2 : (intCells (S.drop (i + 1))).length = S.length - (i + 1) := by rw [length_intCells, List.length_drop]
  have hC := Lib.hid (show intCells (S.eraseIdx i) = intCells (S.take i) ++ intCells (S.drop (i + 1)) by rw [← intCells_append, erase_split])
  have hr1 := Lib.hid (hr.int_take i)
  by_cases hc1 : c = i + 1
  · subst hc1
    have hr2 := Lib.hid (show Row w (some ⟨b, o, none⟩) (intCells (S.drop (i + 1))) by rw [List.drop_eq_nil_of_le (by omega)]; exact Row.nil _ _)
    have hz : S.length - (i + 1) = 0 := by omega
    rw [hz] at hl2
    rw [show (S.eraseIdx i).length = i + 0 by rw [← erase_split, List.length_append, List.length_take, List.length_drop]; omega]
    clear hr hc
    go_enter Tryz.func63, Tryz.ntmps63
    go_wp2_with fail
    refine wp_region_plan [(1, true), (2, true), (3, true), (5, true), (6, true), (7, true), (8, true), (0, false), (4, false), (9, false), (10, true)] (C := LaterC _) (by kernel_rfl) (by kernel_rfl) (by kernel_rfl) rfl (fun _ _ d _ _ h => by cases d <;> exact h) (LaterC.mk ((Below.refl _ _).drew)) ?_
    refine plan_quiet nth1 rfl ?_
    intro KP hKP
    go_big_quiet_op
    go_big_quiet_on
    refine plan_quiet nth2 rfl ?_
    intro KP hKP
    go_big_quiet_op
    go_big_quiet_on
    refine plan_quiet nth3 rfl ?_
    intro KP hKP
    go_big_quiet_op
    go_big_quiet_on
    refine plan_quiet nth5 rfl ?_
    intro KP hKP
    go_big_quiet_op
    go_big_quiet_on
    refine plan_quiet nth6 rfl ?_
    intro KP hKP
    go_big_quiet_op
    go_big_quiet_on
    refine plan_quiet nth7 rfl ?_
    intro KP hKP
    go_big_quiet_op
    go_big_quiet_on
    refine plan_quiet nth8 rfl ?_
    intro KP hKP
    go_big_quiet_op
    go_big_quiet_on
    refine plan_loud nth0 rfl ?_
    intro KP hKP
    go_wp2_with fail
    refine hKP _ _ (LaterC.mk (by (repeat (first | (with_reducible exact Below.refl _ _) | (with_reducible assumption) | (with_reducible refine Later.out _ ?_) | (with_reducible refine bel_alloc ?_ _) | (with_reducible refine bel_drew ?_) | (with_reducible refine bel_drewN ?_ _) | (with_reducible refine bel_set ?_ ?_ _) | (with_reducible refine After.out _ ?_ ?_) | (dsimp only; omega) | omega | (simp only [World.size_alloc, World.size_setCell, World.size_drew]; omega))))) ?_
    clear hKP KP
    refine plan_loud nth4 rfl ?_
    intro KP hKP
    ((refine oper_append_at _ _ _ _ rfl 2 ii _ 1 8 Tryz.underlying23 Jii.out.1 Jii.out.2.1 Jii.out.2.2.1 Jii.out.2.2.2 rfl (by decide) _ _ rfl ?qc15 ?qc16 _ _ _ (intCells (S.take i)) rfl ?qc17 ?qc18 ?qc19 ?qc20 ?qc21 ?_); (case qc15 => (first | (dsimp only; omega) | omega | (simp only [World.size_alloc, World.size_setCell, World.size_drew]; omega))); (case qc16 => (exact lit0_at (W := w) (by first | rfl | omega | (simp only [World.size_alloc, World.size_setCell, World.size_drew]; done) | (simp only [World.size_alloc, World.size_setCell, World.size_drew]; omega)) (by first | rfl | omega | (simp only [World.size_alloc, World.size_setCell, World.size_drew]; done) | (simp only [World.size_alloc, World.size_setCell, World.size_drew]; omega)) (by (repeat (first | (with_reducible exact Below.refl _ _) | (with_reducible assumption) | (with_reducible refine Later.out _ ?_) | (with_reducible refine bel_alloc ?_ _) | (with_reducible refine bel_drew ?_) | (with_reducible refine bel_drewN ?_ _) | (with_reducible refine bel_set ?_ ?_ _) | (with_reducible refine After.out _ ?_ ?_) | (dsimp only; omega) | omega | (simp only [World.size_alloc, World.size_setCell, World.size_drew]; omega)))))); (case qc17 => (first | rfl | (simp; done) | (first | omega | (simp only [List.length_append, List.length_cons, List.length_nil]; omega)))); (case qc18 => exact hr1.out.bel (by (repeat (first | (with_reducible exact Below.refl _ _) | (with_reducible assumption) | (with_reducible refine Later.out _ ?_) | (with_reducible refine bel_alloc ?_ _) | (with_reducible refine bel_drew ?_) | (with_reducible refine bel_drewN ?_ _) | (with_reducible refine bel_set ?_ ?_ _) | (with_reducible refine After.out _ ?_ ?_) | (dsimp only; omega) | omega | (simp only [World.size_alloc, World.size_setCell, World.size_drew]; omega))))); (case qc19 => exact one_ints _); (case qc20 => (unfold maxLen; (first | omega | (simp only [List.length_append, List.length_cons, List.length_nil]; omega)))); (case qc21 => (first | omega | (simp only [List.length_append, List.length_cons, List.length_nil]; omega))); intro a8 c8 x8 hown8; replace hown8 := Lib.hid (own_mono (base' := w.heap.size) hown8 (by first | rfl | omega | (simp only [World.size_alloc, World.size_setCell, World.size_drew]; done) | (simp only [World.size_alloc, World.size_setCell, World.size_drew]; omega))); have hsx8 := x8.btw.size; (try simp only [World.size_alloc, World.size_setCell, World.size_drew] at hsx8))
    refine hKP _ _ (LaterC.mk (by (repeat (first | (with_reducible exact Below.refl _ _) | (with_reducible assumption) | (with_reducible refine Later.out _ ?_) | (with_reducible refine bel_alloc ?_ _) | (with_reducible refine bel_drew ?_) | (with_reducible refine bel_drewN ?_ _) | (with_reducible refine bel_set ?_ ?_ _) | (with_reducible refine After.out _ ?_ ?_) | (dsimp only; omega) | omega | (simp only [World.size_alloc, World.size_setCell, World.size_drew]; omega))))) ?_
    clear hKP KP
    refine plan_loud nth9 rfl ?_
    intro KP hKP
    ((refine oper_append_later _ _ _ _ rfl 2 ii _ 1 8 Tryz.underlying23 Jii.out.1 Jii.out.2.1 Jii.out.2.2.1 Jii.out.2.2.2 rfl (by decide) (w) ?qa1 _ _ _ (intCells (S.take i)) rfl ?qa2 _ _ _ (intCells (S.drop (i + 1))) rfl ?qa3 ?qa4 ?qa5 ?qa6 ?qa7 ?_); (case qa1 => (repeat (first | (with_reducible exact Below.refl _ _) | (with_reducible assumption) | (with_reducible refine Later.out _ ?_) | (with_reducible refine bel_alloc ?_ _) | (with_reducible refine bel_drew ?_) | (with_reducible refine bel_drewN ?_ _) | (with_reducible refine bel_set ?_ ?_ _) | (with_reducible refine After.out _ ?_ ?_) | (dsimp only; omega) | omega | (simp only [World.size_alloc, World.size_setCell, World.size_drew]; omega)))); (case qa2 => exact own_bel hown8.out (by (repeat (first | (with_reducible exact Below.refl _ _) | (with_reducible assumption) | (with_reducible refine Later.out _ ?_) | (with_reducible refine bel_alloc ?_ _) | (with_reducible refine bel_drew ?_) | (with_reducible refine bel_drewN ?_ _) | (with_reducible refine bel_set ?_ ?_ _) | (with_reducible refine After.out _ ?_ ?_) | (dsimp only; omega) | omega | (simp only [World.size_alloc, World.size_setCell, World.size_drew]; omega))))); (case qa3 => (first | rfl | (simp [boolCells]; done) | (simp [intCells]; done) | (simp; done) | (first | omega | (simp only [List.length_append, List.length_cons, List.length_nil]; omega)))); (case qa4 => exact hr2.out.bel (by (repeat (first | (with_reducible exact Below.refl _ _) | (with_reducible assumption) | (with_reducible refine Later.out _ ?_) | (with_reducible refine bel_alloc ?_ _) | (with_reducible refine bel_drew ?_) | (with_reducible refine bel_drewN ?_ _) | (with_reducible refine bel_set ?_ ?_ _) | (with_reducible refine After.out _ ?_ ?_) | (dsimp only; omega) | omega | (simp only [World.size_alloc, World.size_setCell, World.size_drew]; omega))))); (case qa5 => exact one_ints _); (case qa6 => (unfold maxLen; (first | omega | (simp only [List.length_append, List.length_cons, List.length_nil]; omega)))); (case qa7 => (first | omega | (simp only [List.length_append, List.length_cons, List.length_nil]; omega))); intro a9 c9 x9 hown9; replace hown9 := Lib.hid hown9)
    refine hKP _ _ (LaterC.mk (by (repeat (first | (with_reducible exact Below.refl _ _) | (with_reducible assumption) | (with_reducible refine Later.out _ ?_) | (with_reducible refine bel_alloc ?_ _) | (with_reducible refine bel_drew ?_) | (with_reducible refine bel_drewN ?_ _) | (with_reducible refine bel_set ?_ ?_ _) | (with_reducible refine After.out _ ?_ ?_) | (dsimp only; omega) | omega | (simp only [World.size_alloc, World.size_setCell, World.size_drew]; omega))))) ?_
    clear hKP KP
    simp only [Act.put, List.setIfInBounds_toArray, List.set_cons_zero, List.set_cons_succ]
    refine plan_quiet nth10 rfl ?_
    intro KP hKP
    go_big_quiet_op
    go_big_quiet_on
    refine plan_nil ?_
    go_wp2_with fail
    go_ret
    refine RetOwn.mk _ rfl ?_ ?_
    · rw [hC.out]; exact own_bel hown9.out (by (repeat (first | (with_reducible exact Below.refl _ _) | (with_reducible assumption) | (with_reducible refine Later.out _ ?_) | (with_reducible refine bel_alloc ?_ _) | (with_reducible refine bel_drew ?_) | (with_reducible refine bel_drewN ?_ _) | (with_reducible refine bel_set ?_ ?_ _) | (with_reducible refine After.out _ ?_ ?_) | (dsimp only; omega) | omega | (simp only [World.size_alloc, World.size_setCell, World.size_drew]; omega))))
    · (repeat (first | (with_reducible exact Below.refl _ _) | (with_reducible assumption) | (with_reducible refine Later.out _ ?_) | (with_reducible refine bel_alloc ?_ _) | (with_reducible refine bel_drew ?_) | (with_reducible refine bel_drewN ?_ _) | (with_reducible refine bel_set ?_ ?_ _) | (with_reducible refine After.out _ ?_ ?_) | (dsimp only; omega) | omega | (simp only [World.size_alloc, World.size_setCell, World.size_drew]; omega)))
  · have hlt : i + 1 < c := by omega
    have hr2 := Lib.hid (hr.int_drop (i + 1))
    rw [show (S.eraseIdx i).length = i + (S.length - (i + 1)) by rw [← erase_split, List.length_append, List.length_take, List.length_drop]; omega]
    clear hr hc
    go_enter Tryz.func63, Tryz.ntmps63
    go_wp2_with fail
    refine wp_region_plan [(1, true), (2, true), (3, true), (5, true), (6, true), (7, true), (8, true), (0, false), (4, false), (9, false), (10, true)] (C := LaterC _) (by kernel_rfl) (by kernel_rfl) (by kernel_rfl) rfl (fun _ _ d _ _ h => by cases d <;> exact h) (LaterC.mk ((Below.refl _ _).drew)) ?_
    refine plan_quiet nth1 rfl ?_
    intro KP hKP
    go_big_quiet_op
    go_big_quiet_on
    refine plan_quiet nth2 rfl ?_
    intro KP hKP
    go_big_quiet_op
    go_big_quiet_on
    refine plan_quiet nth3 rfl ?_
    intro KP hKP
    go_big_quiet_op
    go_big_quiet_on
    refine plan_quiet nth5 rfl ?_
    intro KP hKP
    go_big_quiet_op
    go_big_quiet_on
    refine plan_quiet nth6 rfl ?_
    intro KP hKP
    go_big_quiet_op
    go_big_quiet_on
    refine plan_quiet nth7 rfl ?_
    intro KP hKP
    go_big_quiet_op
    go_big_quiet_on
    refine plan_quiet nth8 rfl ?_
    intro KP hKP
    go_big_quiet_op
    go_big_quiet_on
    refine plan_loud nth0 rfl ?_
    intro KP hKP
    go_wp2_with fail
    refine hKP _ _ (LaterC.mk (by (repeat (first | (with_reducible exact Below.refl _ _) | (with_reducible assumption) | (with_reducible refine Later.out _ ?_) | (with_reducible refine bel_alloc ?_ _) | (with_reducible refine bel_drew ?_) | (with_reducible refine bel_drewN ?_ _) | (with_reducible refine bel_set ?_ ?_ _) | (with_reducible refine After.out _ ?_ ?_) | (dsimp only; omega) | omega | (simp only [World.size_alloc, World.size_setCell, World.size_drew]; omega))))) ?_
    clear hKP KP
    refine plan_loud nth4 rfl ?_
    intro KP hKP
    ((refine oper_append_at _ _ _ _ rfl 2 ii _ 1 8 Tryz.underlying23 Jii.out.1 Jii.out.2.1 Jii.out.2.2.1 Jii.out.2.2.2 rfl (by decide) _ _ rfl ?qc22 ?qc23 _ _ _ (intCells (S.take i)) rfl ?qc24 ?qc25 ?qc26 ?qc27 ?qc28 ?_); (case qc22 => (first | (dsimp only; omega) | omega | (simp only [World.size_alloc, World.size_setCell, World.size_drew]; omega))); (case qc23 => (exact lit0_at (W := w) (by first | rfl | omega | (simp only [World.size_alloc, World.size_setCell, World.size_drew]; done) | (simp only [World.size_alloc, World.size_setCell, World.size_drew]; omega)) (by first | rfl | omega | (simp only [World.size_alloc, World.size_setCell, World.size_drew]; done) | (simp only [World.size_alloc, World.size_setCell, World.size_drew]; omega)) (by (repeat (first | (with_reducible exact Below.refl _ _) | (with_reducible assumption) | (with_reducible refine Later.out _ ?_) | (with_reducible refine bel_alloc ?_ _) | (with_reducible refine bel_drew ?_) | (with_reducible refine bel_drewN ?_ _) | (with_reducible refine bel_set ?_ ?_ _) | (with_reducible refine After.out _ ?_ ?_) | (dsimp only; omega) | omega | (simp only [World.size_alloc, World.size_setCell, World.size_drew]; omega)))))); (case qc24 => (first | rfl | (simp; done) | (first | omega | (simp only [List.length_append, List.length_cons, List.length_nil]; omega)))); (case qc25 => exact hr1.out.bel (by (repeat (first | (with_reducible exact Below.refl _ _) | (with_reducible assumption) | (with_reducible refine Later.out _ ?_) | (with_reducible refine bel_alloc ?_ _) | (with_reducible refine bel_drew ?_) | (with_reducible refine bel_drewN ?_ _) | (with_reducible refine bel_set ?_ ?_ _) | (with_reducible refine After.out _ ?_ ?_) | (dsimp only; omega) | omega | (simp only [World.size_alloc, World.size_setCell, World.size_drew]; omega))))); (case qc26 => exact one_ints _); (case qc27 => (unfold maxLen; (first | omega | (simp only [List.length_append, List.length_cons, List.length_nil]; omega)))); (case qc28 => (first | omega | (simp only [List.length_append, List.length_cons, List.length_nil]; omega))); intro a8 c8 x8 hown8; replace hown8 := Lib.hid (own_mono (base' := w.heap.size) hown8 (by first | rfl | omega | (simp only [World.size_alloc, World.size_setCell, World.size_drew]; done) | (simp only [World.size_alloc, World.size_setCell, World.size_drew]; omega))); have hsx8 := x8.btw.size; (try simp only [World.size_alloc, World.size_setCell, World.size_drew] at hsx8))
    refine hKP _ _ (LaterC.mk (by (repeat (first | (with_reducible exact Below.refl _ _) | (with_reducible assumption) | (with_reducible refine Later.out _ ?_) | (with_reducible refine bel_alloc ?_ _) | (with_reducible refine bel_drew ?_) | (with_reducible refine bel_drewN ?_ _) | (with_reducible refine bel_set ?_ ?_ _) | (with_reducible refine After.out _ ?_ ?_) | (dsimp only; omega) | omega | (simp only [World.size_alloc, World.size_setCell, World.size_drew]; omega))))) ?_
    clear hKP KP
    refine plan_loud nth9 rfl ?_
    intro KP hKP
    ((refine oper_append_later _ _ _ _ rfl 2 ii _ 1 8 Tryz.underlying23 Jii.out.1 Jii.out.2.1 Jii.out.2.2.1 Jii.out.2.2.2 rfl (by decide) (w) ?qa8 _ _ _ (intCells (S.take i)) rfl ?qa9 _ _ _ (intCells (S.drop (i + 1))) rfl ?qa10 ?qa11 ?qa12 ?qa13 ?qa14 ?_); (case qa8 => (repeat (first | (with_reducible exact Below.refl _ _) | (with_reducible assumption) | (with_reducible refine Later.out _ ?_) | (with_reducible refine bel_alloc ?_ _) | (with_reducible refine bel_drew ?_) | (with_reducible refine bel_drewN ?_ _) | (with_reducible refine bel_set ?_ ?_ _) | (with_reducible refine After.out _ ?_ ?_) | (dsimp only; omega) | omega | (simp only [World.size_alloc, World.size_setCell, World.size_drew]; omega)))); (case qa9 => exact own_bel hown8.out (by (repeat (first | (with_reducible exact Below.refl _ _) | (with_reducible assumption) | (with_reducible refine Later.out _ ?_) | (with_reducible refine bel_alloc ?_ _) | (with_reducible refine bel_drew ?_) | (with_reducible refine bel_drewN ?_ _) | (with_reducible refine bel_set ?_ ?_ _) | (with_reducible refine After.out _ ?_ ?_) | (dsimp only; omega) | omega | (simp only [World.size_alloc, World.size_setCell, World.size_drew]; omega))))); (case qa10 => (first | rfl | (simp [boolCells]; done) | (simp [intCells]; done) | (simp; done) | (first | omega | (simp only [List.length_append, List.length_cons, List.length_nil]; omega)))); (case qa11 => exact hr2.out.bel (by (repeat (first | (with_reducible exact Below.refl _ _) | (with_reducible assumption) | (with_reducible refine Later.out _ ?_) | (with_reducible refine bel_alloc ?_ _) | (with_reducible refine bel_drew ?_) | (with_reducible refine bel_drewN ?_ _) | (with_reducible refine bel_set ?_ ?_ _) | (with_reducible refine After.out _ ?_ ?_) | (dsimp only; omega) | omega | (simp only [World.size_alloc, World.size_setCell, World.size_drew]; omega))))); (case qa12 => exact one_ints _); (case qa13 => (unfold maxLen; (first | omega | (simp only [List.length_append, List.length_cons, List.length_nil]; omega)))); (case qa14 => (first | omega | (simp only [List.length_append, List.length_cons, List.length_nil]; omega))); intro a9 c9 x9 hown9; replace hown9 := Lib.hid hown9)
    refine hKP _ _ (LaterC.mk (by (repeat (first | (with_reducible exact Below.refl _ _) | (with_reducible assumption) | (with_reducible refine Later.out _ ?_) | (with_reducible refine bel_alloc ?_ _) | (with_reducible refine bel_drew ?_) | (with_reducible refine bel_drewN ?_ _) | (with_reducible refine bel_set ?_ ?_ _) | (with_reducible refine After.out _ ?_ ?_) | (dsimp only; omega) | omega | (simp only [World.size_alloc, World.size_setCell, World.size_drew]; omega))))) ?_
    clear hKP KP
    simp only [Act.put, List.setIfInBounds_toArray, List.set_cons_zero, List.set_cons_succ]
    refine plan_quiet nth10 rfl ?_
    intro KP hKP
    go_big_quiet_op
    go_big_quiet_on
    refine plan_nil ?_
    go_wp2_with fail
    go_ret
    refine RetOwn.mk _ rfl ?_ ?_
    · rw [hC.out]; exact own_bel hown9.out (by (repeat (first | (with_reducible exact Below.refl _ _) | (with_reducible assumption) | (with_reducible refine Later.out _ ?_) | (with_reducible refine bel_alloc ?_ _) | (with_reducible refine bel_drew ?_) | (with_reducible refine bel_drewN ?_ _) | (with_reducible refine bel_set ?_ ?_ _) | (with_reducible refine After.out _ ?_ ?_) | (dsimp only; omega) | omega | (simp only [World.size_alloc, World.size_setCell, World.size_drew]; omega))))
    · (repeat (first | (with_reducible exact Below.refl _ _) | (with_reducible assumption) | (with_reducible refine Later.out _ ?_) | (with_reducible refine bel_alloc ?_ _) | (with_reducible refine bel_drew ?_) | (with_reducible refine bel_drewN ?_ _) | (with_reducible refine bel_set ?_ ?_ _) | (with_reducible refine After.out _ ?_ ?_) | (dsimp only; omega) | omega | (simp only [World.size_alloc, World.size_setCell, World.size_drew]; omega)))
theorem sOwn_any (S : List Int) (a : Option Addr) (n c : Nat) (w : World) (hn : S.length = n) (hm : n ≤ 1000) (hr : Row w a (intCells S)) :
    Calls Tryz.prog 62 #[.slice a n c] w (RetOwn w 2 1 n (intCells S) id) := by
  subst hn
  obtain ⟨ii, j1, j2, j3, j4⟩ := info_i64'
  have Jii := Lib.hid (And.intro j1 (And.intro j2 (And.intro j3 j4)))
  have hl := length_intCells S
  replace hr := Lib.hid hr
  clear j1 j2 j3 j4
  go_enter Tryz.func62, Tryz.ntmps62
  go_wp2_with (at_builtin; (refine wpList_append_later _ rfl _ _ _ rfl 2 ii _ 1 8 Tryz.underlying23 Jii.out.1 Jii.out.2.1 Jii.out.2.2.1 Jii.out.2.2.2 rfl (by decide) (w) ?qa29 _ _ _ ([]) rfl ?qa30 _ _ _ (intCells S) rfl ?qa31 ?qa32 ?qa33 ?qa34 ?qa35 ?_); (case qa29 => (repeat (first | (with_reducible exact Below.refl _ _) | (with_reducible assumption) | (with_reducible refine Later.out _ ?_) | (with_reducible refine bel_alloc ?_ _) | (with_reducible refine bel_drew ?_) | (with_reducible refine bel_drewN ?_ _) | (with_reducible refine bel_set ?_ ?_ _) | (with_reducible refine After.out _ ?_ ?_) | (dsimp only; omega) | omega | (simp only [World.size_alloc, World.size_setCell, World.size_drew]; omega)))); (case qa30 => exact World.ownsRow_lit w #[] 0 (Nat.le_refl _) (by unfold maxLen; omega) rfl); (case qa31 => (first | rfl | (simp [boolCells]; done) | (simp [intCells]; done) | (simp; done) | (first | omega | (simp only [List.length_append, List.length_cons, List.length_nil]; omega)))); (case qa32 => exact hr.out.bel (by (repeat (first | (with_reducible exact Below.refl _ _) | (with_reducible assumption) | (with_reducible refine Later.out _ ?_) | (with_reducible refine bel_alloc ?_ _) | (with_reducible refine bel_drew ?_) | (with_reducible refine bel_drewN ?_ _) | (with_reducible refine bel_set ?_ ?_ _) | (with_reducible refine After.out _ ?_ ?_) | (dsimp only; omega) | omega | (simp only [World.size_alloc, World.size_setCell, World.size_drew]; omega))))); (case qa33 => exact one_ints S); (case qa34 => (unfold maxLen; (first | omega | (simp only [List.length_append, List.length_cons, List.length_nil]; omega)))); (case qa35 => (first | omega | (simp only [List.length_append, List.length_cons, List.length_nil]; omega))); intro a' c' x hown)
  simp only [Nat.zero_add, List.nil_append] at hown
  have HO := Lib.hid hown
  clear hown
  go_ret
  exact RetOwn.mk _ rfl HO.out x.bel
end Go.Proofs.YtcpddgkloeklaaaGreatDoor

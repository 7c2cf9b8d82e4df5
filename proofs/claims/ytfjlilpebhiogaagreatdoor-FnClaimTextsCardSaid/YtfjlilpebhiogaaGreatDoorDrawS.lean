import Derived.Test.YtfjlilpebhiogaaGreatDoorSou
import Derived.Test.YtfjlilpebhiogaaGreatDoorPackAb
import Derived.Test.YtfjlilpebhiogaaGreatDoorPackA
/- The draws of spans: two numbers, whatever they are, that are small. -/
set_option linter.unusedSimpArgs false
set_option linter.unusedVariables false
namespace Go.Proofs.YtfjlilpebhiogaaGreatDoor
open Go.RowKit
def RetSpanD (w : World) (g : Nat) (M : Int) (e : Ending) (w' : World) : Prop :=
  ∃ f t : Int, (-M ≤ f ∧ f ≤ M ∧ -M ≤ t ∧ t ≤ M) ∧ e = .returned (.agg #[.int .i64 f, .int .i64 t]) ∧ ∃ z : After w g (g + 1), w' = z.w ∧ SrcOk z.w g
theorem RetSpanD.mk {w w' : World} {g : Nat} {M : Int} {e : Ending} (f t : Int) (h : -M ≤ f ∧ f ≤ M ∧ -M ≤ t ∧ t ≤ M) (he : e = .returned (.agg #[.int .i64 f, .int .i64 t])) (hb : Between g (g + 1) w w') (hs : SrcOk w' g) : RetSpanD w g M e w' := ⟨f, t, h, he, ⟨w', hb⟩, rfl, hs⟩
set_option maxHeartbeats 4000000 in
theorem sSpanGood_any (g : Nat) (w : World) (h : SrcOk w g) : Calls Tryz.prog 87 #[.pointer (some ⟨g, 0, none⟩)] w (RetSpanD w g 10000) := by
  have hg := h.lt
  have H0 := Lib.hid h
  clear h
  go_enter Tryz.func87, Tryz.ntmps87
  go_wp2_with fail
  with_reducible refine (next_any g 1000 _ (by (repeat (first | (with_reducible exact H0.out) | (with_reducible refine SrcOk.alloc ?_ _) | (with_reducible refine SrcOk.set ?_ ?_ _) | (with_reducible refine SrcOk.drewN ?_ _) | (with_reducible refine SrcOk.drew ?_) | (with_reducible refine SrcOk.later _ ?_) | (with_reducible refine SrcOk.after _ ?_ ?_) | (dsimp only; omega) | omega | ((try simp only [World.size_alloc, World.size_setCell, World.size_drew]); omega))))).mono ?_
  rintro e w' ⟨p1, hdraw, rfl, z1, rfl, hsrc⟩
  have hsz1 := z1.btw.size
  (try simp only [World.size_alloc, World.size_setCell, World.size_drew] at hsz1)
  have H1 := Lib.hid hsrc
  clear hsrc
  obtain ⟨p10, p11⟩ := hdraw
  go_wp2_with fail
  with_reducible refine (next_any g 20 _ (by (repeat (first | (with_reducible exact H1.out) | (with_reducible refine SrcOk.alloc ?_ _) | (with_reducible refine SrcOk.set ?_ ?_ _) | (with_reducible refine SrcOk.drewN ?_ _) | (with_reducible refine SrcOk.drew ?_) | (with_reducible refine SrcOk.later _ ?_) | (with_reducible refine SrcOk.after _ ?_ ?_) | (dsimp only; omega) | omega | ((try simp only [World.size_alloc, World.size_setCell, World.size_drew]); omega))))).mono ?_
  rintro e w' ⟨p2, hdraw, rfl, z2, rfl, hsrc⟩
  have hsz2 := z2.btw.size
  (try simp only [World.size_alloc, World.size_setCell, World.size_drew] at hsz2)
  have H2 := Lib.hid hsrc
  clear hsrc
  obtain ⟨p20, p21⟩ := hdraw
  go_wp2_with fail
  with_reducible refine (next_any g 300 _ (by (repeat (first | (with_reducible exact H2.out) | (with_reducible refine SrcOk.alloc ?_ _) | (with_reducible refine SrcOk.set ?_ ?_ _) | (with_reducible refine SrcOk.drewN ?_ _) | (with_reducible refine SrcOk.drew ?_) | (with_reducible refine SrcOk.later _ ?_) | (with_reducible refine SrcOk.after _ ?_ ?_) | (dsimp only; omega) | omega | ((try simp only [World.size_alloc, World.size_setCell, World.size_drew]); omega))))).mono ?_
  rintro e w' ⟨p3, hdraw, rfl, z3, rfl, hsrc⟩
  have hsz3 := z3.btw.size
  (try simp only [World.size_alloc, World.size_setCell, World.size_drew] at hsz3)
  have H3 := Lib.hid hsrc
  clear hsrc
  obtain ⟨p30, p31⟩ := hdraw
  go_wp2_with fail
  with_reducible refine (pick_any g [0, p2, p3, 2000] _ 4 4 _ (by (repeat (first | (with_reducible exact H3.out) | (with_reducible refine SrcOk.alloc ?_ _) | (with_reducible refine SrcOk.set ?_ ?_ _) | (with_reducible refine SrcOk.drewN ?_ _) | (with_reducible refine SrcOk.drew ?_) | (with_reducible refine SrcOk.later _ ?_) | (with_reducible refine SrcOk.after _ ?_ ?_) | (dsimp only; omega) | omega | ((try simp only [World.size_alloc, World.size_setCell, World.size_drew]); omega)))) rfl (by omega) (by omega) (Row.madeAt rfl (by simp [intCells])) (fun p hp => by cases hp; dsimp only; omega)).mono ?_
  rintro e w' ⟨v, hmem, rfl, z4, rfl, hsrc⟩
  have hsz4 := z4.btw.size
  (try simp only [World.size_alloc, World.size_setCell, World.size_drew] at hsz4)
  have H4 := Lib.hid hsrc
  clear hsrc
  simp only [List.mem_cons, List.not_mem_nil, or_false] at hmem
  have hv_v := Lib.hid hmem
  clear hmem
  have hv := hv_v.out
  have hv0 : 0 ≤ v ∧ v ≤ 2000 := by omega
  have u1 : w.heap.size < z1.w.heap.size := (by omega)
  have u2 : w.heap.size < z2.w.heap.size := (by omega)
  have u3 : w.heap.size < z3.w.heap.size := (by omega)
  have u4 : w.heap.size < z4.w.heap.size := (by omega)
  clear hv hv_v
  by_cases hmin : (3000 : Int) ≤ 1000 + p1 + v
  all_goals
    go_wp2_with fail
    refine bodyPost_ret (by simp [results, Tryz.results87, go_sem, ↓IntWalk.iteOmega, *]; try rfl) rfl ?_
    refine RetSpanD.mk _ _ ⟨by omega, by omega, by omega, by omega⟩ rfl ?_ ?_
    · (repeat (first | (with_reducible exact Between.refl _ _ _) | (with_reducible refine Between.drew ?_) | (with_reducible refine Between.drewN ?_ _) | (with_reducible refine btw_own ?_ ?_ _) | (with_reducible refine btw_later _ ?_) | (with_reducible refine btw_alloc ?_ _) | (with_reducible refine btw_after _ ?_) | (with_reducible refine btw_beyond _ ?_ ?_) | (with_reducible refine Aft.btw _ ?_ ?_) | (with_reducible assumption) | (dsimp only; omega) | omega | ((try simp only [World.size_alloc, World.size_setCell, World.size_drew]); omega)))
    · (repeat (first | (with_reducible exact H4.out) | (with_reducible refine SrcOk.alloc ?_ _) | (with_reducible refine SrcOk.set ?_ ?_ _) | (with_reducible refine SrcOk.drewN ?_ _) | (with_reducible refine SrcOk.drew ?_) | (with_reducible refine SrcOk.later _ ?_) | (with_reducible refine SrcOk.after _ ?_ ?_) | (dsimp only; omega) | omega | ((try simp only [World.size_alloc, World.size_setCell, World.size_drew]); omega)))
set_option maxHeartbeats 8000000 in
theorem sSpanDraw_any (g : Nat) (w : World) (h : SrcOk w g) : Calls Tryz.prog 58 #[.pointer (some ⟨g, 0, none⟩)] w (RetSpanD w g 20000) := by
  have hg := h.lt
  have H0 := Lib.hid h
  clear h
  go_enter Tryz.func58, Tryz.ntmps58
  go_wp2_with fail
  with_reducible refine (sSpanGood_any g _ (by (repeat (first | (with_reducible exact H0.out) | (with_reducible refine SrcOk.alloc ?_ _) | (with_reducible refine SrcOk.set ?_ ?_ _) | (with_reducible refine SrcOk.drewN ?_ _) | (with_reducible refine SrcOk.drew ?_) | (with_reducible refine SrcOk.later _ ?_) | (with_reducible refine SrcOk.after _ ?_ ?_) | (dsimp only; omega) | omega | ((try simp only [World.size_alloc, World.size_setCell, World.size_drew]); omega))))).mono ?_
  rintro e w' ⟨f, t, ⟨k1, k2, k3, k4⟩, rfl, z1, rfl, hsrc⟩
  have hs1 := z1.btw.size
  (try simp only [World.size_alloc, World.size_setCell, World.size_drew] at hs1)
  have H1 := Lib.hid hsrc
  clear hsrc
  go_wp2_with fail
  with_reducible refine (next_any g _ _ (by (repeat (first | (with_reducible exact H1.out) | (with_reducible refine SrcOk.alloc ?_ _) | (with_reducible refine SrcOk.set ?_ ?_ _) | (with_reducible refine SrcOk.drewN ?_ _) | (with_reducible refine SrcOk.drew ?_) | (with_reducible refine SrcOk.later _ ?_) | (with_reducible refine SrcOk.after _ ?_ ?_) | (dsimp only; omega) | omega | ((try simp only [World.size_alloc, World.size_setCell, World.size_drew]); omega))))).mono ?_
  rintro e w' ⟨r, hdraw, rfl, z2, rfl, hsrc⟩
  have hsz2 := z2.btw.size
  (try simp only [World.size_alloc, World.size_setCell, World.size_drew] at hsz2)
  have H2 := Lib.hid hsrc
  clear hsrc
  obtain ⟨r0, r1⟩ := hdraw
  have u1 : w.heap.size < z1.w.heap.size := (by omega)
  have u2 : w.heap.size < z2.w.heap.size := (by omega)
  have u3 : z1.w.heap.size < z2.w.heap.size := (by omega)
  rcases (show r = 0 ∨ r = 1 ∨ r = 2 ∨ 3 ≤ r by omega) with rfl | rfl | rfl | hr4
  · go_wp2_with fail
    refine bodyPost_ret (by simp [results, Tryz.results58, go_sem, ↓IntWalk.iteOmega, *]; try rfl) rfl ?_
    refine RetSpanD.mk _ _ ⟨by omega, by omega, by omega, by omega⟩ rfl ?_ ?_
    · (repeat (first | (with_reducible exact Between.refl _ _ _) | (with_reducible refine Between.drew ?_) | (with_reducible refine Between.drewN ?_ _) | (with_reducible refine btw_own ?_ ?_ _) | (with_reducible refine btw_later _ ?_) | (with_reducible refine btw_alloc ?_ _) | (with_reducible refine btw_after _ ?_) | (with_reducible refine btw_beyond _ ?_ ?_) | (with_reducible refine Aft.btw _ ?_ ?_) | (with_reducible assumption) | (dsimp only; omega) | omega | ((try simp only [World.size_alloc, World.size_setCell, World.size_drew]); omega)))
    · (repeat (first | (with_reducible exact H2.out) | (with_reducible refine SrcOk.alloc ?_ _) | (with_reducible refine SrcOk.set ?_ ?_ _) | (with_reducible refine SrcOk.drewN ?_ _) | (with_reducible refine SrcOk.drew ?_) | (with_reducible refine SrcOk.later _ ?_) | (with_reducible refine SrcOk.after _ ?_ ?_) | (dsimp only; omega) | omega | ((try simp only [World.size_alloc, World.size_setCell, World.size_drew]); omega)))
  · skip
    go_wp2_with fail
    with_reducible refine (pick_any g [-3000, -3001, 3001] _ 3 3 _ (by (repeat (first | (with_reducible exact H2.out) | (with_reducible refine SrcOk.alloc ?_ _) | (with_reducible refine SrcOk.set ?_ ?_ _) | (with_reducible refine SrcOk.drewN ?_ _) | (with_reducible refine SrcOk.drew ?_) | (with_reducible refine SrcOk.later _ ?_) | (with_reducible refine SrcOk.after _ ?_ ?_) | (dsimp only; omega) | omega | ((try simp only [World.size_alloc, World.size_setCell, World.size_drew]); omega)))) rfl (by omega) (by omega) (Row.madeAt rfl (by simp [intCells])) (fun p hp => by cases hp; dsimp only; omega)).mono ?_
    rintro e w' ⟨v, hmem, rfl, z3, rfl, hsrc⟩
    have hsz3 := z3.btw.size
    (try simp only [World.size_alloc, World.size_setCell, World.size_drew] at hsz3)
    have H3 := Lib.hid hsrc
    clear hsrc
    simp only [List.mem_cons, List.not_mem_nil, or_false] at hmem
    have hv_v := Lib.hid hmem
    clear hmem
    have hv := hv_v.out
    clear hv_v
    have u4 : w.heap.size < z3.w.heap.size := (by omega)
    have u5 : z1.w.heap.size < z3.w.heap.size := (by omega)
    go_wp2_with fail
    refine bodyPost_ret (by simp [results, Tryz.results58, go_sem, ↓IntWalk.iteOmega, *]; try rfl) rfl ?_
    refine RetSpanD.mk _ _ ⟨by omega, by omega, by omega, by omega⟩ rfl ?_ ?_
    · (repeat (first | (with_reducible exact Between.refl _ _ _) | (with_reducible refine Between.drew ?_) | (with_reducible refine Between.drewN ?_ _) | (with_reducible refine btw_own ?_ ?_ _) | (with_reducible refine btw_later _ ?_) | (with_reducible refine btw_alloc ?_ _) | (with_reducible refine btw_after _ ?_) | (with_reducible refine btw_beyond _ ?_ ?_) | (with_reducible refine Aft.btw _ ?_ ?_) | (with_reducible assumption) | (dsimp only; omega) | omega | ((try simp only [World.size_alloc, World.size_setCell, World.size_drew]); omega)))
    · (repeat (first | (with_reducible exact H3.out) | (with_reducible refine SrcOk.alloc ?_ _) | (with_reducible refine SrcOk.set ?_ ?_ _) | (with_reducible refine SrcOk.drewN ?_ _) | (with_reducible refine SrcOk.drew ?_) | (with_reducible refine SrcOk.later _ ?_) | (with_reducible refine SrcOk.after _ ?_ ?_) | (dsimp only; omega) | omega | ((try simp only [World.size_alloc, World.size_setCell, World.size_drew]); omega)))
  · skip
    go_wp2_with fail
    with_reducible refine (pick_any g [3000, 3001] _ 2 2 _ (by (repeat (first | (with_reducible exact H2.out) | (with_reducible refine SrcOk.alloc ?_ _) | (with_reducible refine SrcOk.set ?_ ?_ _) | (with_reducible refine SrcOk.drewN ?_ _) | (with_reducible refine SrcOk.drew ?_) | (with_reducible refine SrcOk.later _ ?_) | (with_reducible refine SrcOk.after _ ?_ ?_) | (dsimp only; omega) | omega | ((try simp only [World.size_alloc, World.size_setCell, World.size_drew]); omega)))) rfl (by omega) (by omega) (Row.madeAt rfl (by simp [intCells])) (fun p hp => by cases hp; dsimp only; omega)).mono ?_
    rintro e w' ⟨v, hmem, rfl, z3, rfl, hsrc⟩
    have hsz3 := z3.btw.size
    (try simp only [World.size_alloc, World.size_setCell, World.size_drew] at hsz3)
    have H3 := Lib.hid hsrc
    clear hsrc
    simp only [List.mem_cons, List.not_mem_nil, or_false] at hmem
    have hv_v := Lib.hid hmem
    clear hmem
    have hv := hv_v.out
    clear hv_v
    have u4 : w.heap.size < z3.w.heap.size := (by omega)
    have u5 : z1.w.heap.size < z3.w.heap.size := (by omega)
    go_wp2_with fail
    refine bodyPost_ret (by simp [results, Tryz.results58, go_sem, ↓IntWalk.iteOmega, *]; try rfl) rfl ?_
    refine RetSpanD.mk _ _ ⟨by omega, by omega, by omega, by omega⟩ rfl ?_ ?_
    · (repeat (first | (with_reducible exact Between.refl _ _ _) | (with_reducible refine Between.drew ?_) | (with_reducible refine Between.drewN ?_ _) | (with_reducible refine btw_own ?_ ?_ _) | (with_reducible refine btw_later _ ?_) | (with_reducible refine btw_alloc ?_ _) | (with_reducible refine btw_after _ ?_) | (with_reducible refine btw_beyond _ ?_ ?_) | (with_reducible refine Aft.btw _ ?_ ?_) | (with_reducible assumption) | (dsimp only; omega) | omega | ((try simp only [World.size_alloc, World.size_setCell, World.size_drew]); omega)))
    · (repeat (first | (with_reducible exact H3.out) | (with_reducible refine SrcOk.alloc ?_ _) | (with_reducible refine SrcOk.set ?_ ?_ _) | (with_reducible refine SrcOk.drewN ?_ _) | (with_reducible refine SrcOk.drew ?_) | (with_reducible refine SrcOk.later _ ?_) | (with_reducible refine SrcOk.after _ ?_ ?_) | (dsimp only; omega) | omega | ((try simp only [World.size_alloc, World.size_setCell, World.size_drew]); omega)))
  · go_wp2_with fail
    refine bodyPost_ret (by simp [results, Tryz.results58, go_sem, ↓IntWalk.iteOmega, *]; try rfl) rfl ?_
    refine RetSpanD.mk _ _ ⟨by omega, by omega, by omega, by omega⟩ rfl ?_ ?_
    · (repeat (first | (with_reducible exact Between.refl _ _ _) | (with_reducible refine Between.drew ?_) | (with_reducible refine Between.drewN ?_ _) | (with_reducible refine btw_own ?_ ?_ _) | (with_reducible refine btw_later _ ?_) | (with_reducible refine btw_alloc ?_ _) | (with_reducible refine btw_after _ ?_) | (with_reducible refine btw_beyond _ ?_ ?_) | (with_reducible refine Aft.btw _ ?_ ?_) | (with_reducible assumption) | (dsimp only; omega) | omega | ((try simp only [World.size_alloc, World.size_setCell, World.size_drew]); omega)))
    · (repeat (first | (with_reducible exact H2.out) | (with_reducible refine SrcOk.alloc ?_ _) | (with_reducible refine SrcOk.set ?_ ?_ _) | (with_reducible refine SrcOk.drewN ?_ _) | (with_reducible refine SrcOk.drew ?_) | (with_reducible refine SrcOk.later _ ?_) | (with_reducible refine SrcOk.after _ ?_ ?_) | (dsimp only; omega) | omega | ((try simp only [World.size_alloc, World.size_setCell, World.size_drew]); omega)))
end Go.Proofs.YtfjlilpebhiogaaGreatDoor

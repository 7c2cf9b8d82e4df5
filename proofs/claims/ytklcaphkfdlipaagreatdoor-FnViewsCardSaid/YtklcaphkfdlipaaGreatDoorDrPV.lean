import Derived.Test.YtklcaphkfdlipaaGreatDoorSou
import Derived.Test.YtklcaphkfdlipaaGreatDoorPackVa
import Derived.Test.YtklcaphkfdlipaaGreatDoorPackVc
import Derived.Test.YtklcaphkfdlipaaGreatDoorPackVd
/- The draws of points and rings: some points with small coordinates. -/
set_option linter.unusedSimpArgs false
set_option linter.unusedVariables false
namespace Go.Proofs.YtklcaphkfdlipaaGreatDoor
open Go.RowKit
def SmP (p : Pt) : Prop := -1100 ≤ p.x ∧ p.x ≤ 1100 ∧ -1100 ≤ p.y ∧ p.y ≤ 1100
/-- Some point. -/
def RetPtD (w : World) (g : Nat) (e : Ending) (w' : World) : Prop :=
  ∃ p : Pt, SmP p ∧ e = .returned (ptV p) ∧ ∃ z : After w g (g + 1), w' = z.w ∧ SrcOk z.w g
theorem RetPtD.mk {w w' : World} {g : Nat} {e : Ending} (p : Pt) (h : SmP p) (he : e = .returned (ptV p)) (hb : Between g (g + 1) w w') (hs : SrcOk w' g) : RetPtD w g e w' := ⟨p, h, he, ⟨w', hb⟩, rfl, hs⟩
set_option maxHeartbeats 4000000 in
theorem sPtGood_any (g : Nat) (w : World) (h : SrcOk w g) : Calls Tryz.prog 132 #[.pointer (some ⟨g, 0, none⟩)] w (RetPtD w g) := by
  have hg := h.lt
  have H0 := Lib.hid h
  clear h
  go_enter Tryz.func132, Tryz.ntmps132
  go_wp2_with fail
  with_reducible refine (next_any g 3 _ (by (repeat (first | (with_reducible exact H0.out) | (with_reducible refine SrcOk.alloc ?_ _) | (with_reducible refine SrcOk.set ?_ ?_ _) | (with_reducible refine SrcOk.drewN ?_ _) | (with_reducible refine SrcOk.drew ?_) | (with_reducible refine SrcOk.later _ ?_) | (with_reducible refine SrcOk.after _ ?_ ?_) | (dsimp only; omega) | omega | ((try simp only [World.size_alloc, World.size_setCell, World.size_drew]); omega))))).mono ?_
  rintro e w' ⟨q, hdraw, rfl, z1, rfl, hsrc⟩
  have hsz1 := z1.btw.size
  (try simp only [World.size_alloc, World.size_setCell, World.size_drew] at hsz1)
  have H1 := Lib.hid hsrc
  clear hsrc
  obtain ⟨q0, q1⟩ := hdraw
  have u1 : w.heap.size < z1.w.heap.size := (by omega)
  by_cases hq : q = 0
  · subst hq
    go_wp2_with fail
    with_reducible refine (next_any g 2001 _ (by (repeat (first | (with_reducible exact H1.out) | (with_reducible refine SrcOk.alloc ?_ _) | (with_reducible refine SrcOk.set ?_ ?_ _) | (with_reducible refine SrcOk.drewN ?_ _) | (with_reducible refine SrcOk.drew ?_) | (with_reducible refine SrcOk.later _ ?_) | (with_reducible refine SrcOk.after _ ?_ ?_) | (dsimp only; omega) | omega | ((try simp only [World.size_alloc, World.size_setCell, World.size_drew]); omega))))).mono ?_
    rintro e w' ⟨r, hdraw, rfl, z2, rfl, hsrc⟩
    have hsz2 := z2.btw.size
    (try simp only [World.size_alloc, World.size_setCell, World.size_drew] at hsz2)
    have H2 := Lib.hid hsrc
    clear hsrc
    obtain ⟨r0, r1⟩ := hdraw
    have u2 : w.heap.size < z2.w.heap.size := (by omega)
    go_wp2_with fail
    with_reducible refine (next_any g 2001 _ (by (repeat (first | (with_reducible exact H2.out) | (with_reducible refine SrcOk.alloc ?_ _) | (with_reducible refine SrcOk.set ?_ ?_ _) | (with_reducible refine SrcOk.drewN ?_ _) | (with_reducible refine SrcOk.drew ?_) | (with_reducible refine SrcOk.later _ ?_) | (with_reducible refine SrcOk.after _ ?_ ?_) | (dsimp only; omega) | omega | ((try simp only [World.size_alloc, World.size_setCell, World.size_drew]); omega))))).mono ?_
    rintro e w' ⟨t, hdraw, rfl, z3, rfl, hsrc⟩
    have hsz3 := z3.btw.size
    (try simp only [World.size_alloc, World.size_setCell, World.size_drew] at hsz3)
    have H3 := Lib.hid hsrc
    clear hsrc
    obtain ⟨t0, t1⟩ := hdraw
    have u3 : w.heap.size < z3.w.heap.size := (by omega)
    go_wp2_with fail
    refine bodyPost_ret (by simp [results, Tryz.results132, go_sem, ↓IntWalk.iteOmega, *]; try rfl) rfl ?_
    refine RetPtD.mk ⟨r - 1000, t - 1000⟩ ⟨by dsimp only; omega, by dsimp only; omega, by dsimp only; omega, by dsimp only; omega⟩ rfl ?_ ?_
    · (repeat (first | (with_reducible exact Between.refl _ _ _) | (with_reducible refine Between.drew ?_) | (with_reducible refine Between.drewN ?_ _) | (with_reducible refine btw_own ?_ ?_ _) | (with_reducible refine btw_later _ ?_) | (with_reducible refine btw_alloc ?_ _) | (with_reducible refine btw_after _ ?_) | (with_reducible refine btw_beyond _ ?_ ?_) | (with_reducible refine Aft.btw _ ?_ ?_) | (with_reducible assumption) | (dsimp only; omega) | omega | ((try simp only [World.size_alloc, World.size_setCell, World.size_drew]); omega)))
    · (repeat (first | (with_reducible exact H3.out) | (with_reducible refine SrcOk.alloc ?_ _) | (with_reducible refine SrcOk.set ?_ ?_ _) | (with_reducible refine SrcOk.drewN ?_ _) | (with_reducible refine SrcOk.drew ?_) | (with_reducible refine SrcOk.later _ ?_) | (with_reducible refine SrcOk.after _ ?_ ?_) | (dsimp only; omega) | omega | ((try simp only [World.size_alloc, World.size_setCell, World.size_drew]); omega)))
  · skip
    go_wp2_with fail
    with_reducible refine (next_any g 9 _ (by (repeat (first | (with_reducible exact H1.out) | (with_reducible refine SrcOk.alloc ?_ _) | (with_reducible refine SrcOk.set ?_ ?_ _) | (with_reducible refine SrcOk.drewN ?_ _) | (with_reducible refine SrcOk.drew ?_) | (with_reducible refine SrcOk.later _ ?_) | (with_reducible refine SrcOk.after _ ?_ ?_) | (dsimp only; omega) | omega | ((try simp only [World.size_alloc, World.size_setCell, World.size_drew]); omega))))).mono ?_
    rintro e w' ⟨r, hdraw, rfl, z2, rfl, hsrc⟩
    have hsz2 := z2.btw.size
    (try simp only [World.size_alloc, World.size_setCell, World.size_drew] at hsz2)
    have H2 := Lib.hid hsrc
    clear hsrc
    obtain ⟨r0, r1⟩ := hdraw
    have u2 : w.heap.size < z2.w.heap.size := (by omega)
    go_wp2_with fail
    with_reducible refine (next_any g 9 _ (by (repeat (first | (with_reducible exact H2.out) | (with_reducible refine SrcOk.alloc ?_ _) | (with_reducible refine SrcOk.set ?_ ?_ _) | (with_reducible refine SrcOk.drewN ?_ _) | (with_reducible refine SrcOk.drew ?_) | (with_reducible refine SrcOk.later _ ?_) | (with_reducible refine SrcOk.after _ ?_ ?_) | (dsimp only; omega) | omega | ((try simp only [World.size_alloc, World.size_setCell, World.size_drew]); omega))))).mono ?_
    rintro e w' ⟨t, hdraw, rfl, z3, rfl, hsrc⟩
    have hsz3 := z3.btw.size
    (try simp only [World.size_alloc, World.size_setCell, World.size_drew] at hsz3)
    have H3 := Lib.hid hsrc
    clear hsrc
    obtain ⟨t0, t1⟩ := hdraw
    have u3 : w.heap.size < z3.w.heap.size := (by omega)
    go_wp2_with fail
    refine bodyPost_ret (by simp [results, Tryz.results132, go_sem, ↓IntWalk.iteOmega, *]; try rfl) rfl ?_
    refine RetPtD.mk ⟨r - 4, t - 4⟩ ⟨by dsimp only; omega, by dsimp only; omega, by dsimp only; omega, by dsimp only; omega⟩ rfl ?_ ?_
    · (repeat (first | (with_reducible exact Between.refl _ _ _) | (with_reducible refine Between.drew ?_) | (with_reducible refine Between.drewN ?_ _) | (with_reducible refine btw_own ?_ ?_ _) | (with_reducible refine btw_later _ ?_) | (with_reducible refine btw_alloc ?_ _) | (with_reducible refine btw_after _ ?_) | (with_reducible refine btw_beyond _ ?_ ?_) | (with_reducible refine Aft.btw _ ?_ ?_) | (with_reducible assumption) | (dsimp only; omega) | omega | ((try simp only [World.size_alloc, World.size_setCell, World.size_drew]); omega)))
    · (repeat (first | (with_reducible exact H3.out) | (with_reducible refine SrcOk.alloc ?_ _) | (with_reducible refine SrcOk.set ?_ ?_ _) | (with_reducible refine SrcOk.drewN ?_ _) | (with_reducible refine SrcOk.drew ?_) | (with_reducible refine SrcOk.later _ ?_) | (with_reducible refine SrcOk.after _ ?_ ?_) | (dsimp only; omega) | omega | ((try simp only [World.size_alloc, World.size_setCell, World.size_drew]); omega)))
set_option maxHeartbeats 4000000 in
theorem sPtDraw_any (g : Nat) (w : World) (h : SrcOk w g) : Calls Tryz.prog 93 #[.pointer (some ⟨g, 0, none⟩)] w (RetPtD w g) := by
  have hg := h.lt
  have H0 := Lib.hid h
  clear h
  go_enter Tryz.func93, Tryz.ntmps93
  go_wp2_with fail
  with_reducible refine (sPtGood_any g _ (by (repeat (first | (with_reducible exact H0.out) | (with_reducible refine SrcOk.alloc ?_ _) | (with_reducible refine SrcOk.set ?_ ?_ _) | (with_reducible refine SrcOk.drewN ?_ _) | (with_reducible refine SrcOk.drew ?_) | (with_reducible refine SrcOk.later _ ?_) | (with_reducible refine SrcOk.after _ ?_ ?_) | (dsimp only; omega) | omega | ((try simp only [World.size_alloc, World.size_setCell, World.size_drew]); omega))))).mono ?_
  rintro e w' ⟨⟨px, py⟩, ⟨k1, k2, k3, k4⟩, rfl, z1, rfl, hsrc⟩
  dsimp only at k1 k2 k3 k4
  have hs1 := z1.btw.size
  (try simp only [World.size_alloc, World.size_setCell, World.size_drew] at hs1)
  have H1 := Lib.hid hsrc
  clear hsrc
  have u1 : w.heap.size < z1.w.heap.size := (by omega)
  go_wp2_with fail
  with_reducible refine (next_any g 40 _ (by (repeat (first | (with_reducible exact H1.out) | (with_reducible refine SrcOk.alloc ?_ _) | (with_reducible refine SrcOk.set ?_ ?_ _) | (with_reducible refine SrcOk.drewN ?_ _) | (with_reducible refine SrcOk.drew ?_) | (with_reducible refine SrcOk.later _ ?_) | (with_reducible refine SrcOk.after _ ?_ ?_) | (dsimp only; omega) | omega | ((try simp only [World.size_alloc, World.size_setCell, World.size_drew]); omega))))).mono ?_
  rintro e w' ⟨q, hdraw, rfl, z2, rfl, hsrc⟩
  have hsz2 := z2.btw.size
  (try simp only [World.size_alloc, World.size_setCell, World.size_drew] at hsz2)
  have H2 := Lib.hid hsrc
  clear hsrc
  obtain ⟨q0, q1⟩ := hdraw
  have u2 : w.heap.size < z2.w.heap.size := (by omega)
  have u3 : z1.w.heap.size < z2.w.heap.size := (by omega)
  by_cases hq : q = 0
  · subst hq
    go_wp2_with fail
    with_reducible refine (pick_any g [1000, 1001, -1001] _ 3 3 _ (by (repeat (first | (with_reducible exact H2.out) | (with_reducible refine SrcOk.alloc ?_ _) | (with_reducible refine SrcOk.set ?_ ?_ _) | (with_reducible refine SrcOk.drewN ?_ _) | (with_reducible refine SrcOk.drew ?_) | (with_reducible refine SrcOk.later _ ?_) | (with_reducible refine SrcOk.after _ ?_ ?_) | (dsimp only; omega) | omega | ((try simp only [World.size_alloc, World.size_setCell, World.size_drew]); omega)))) rfl (by omega) (by omega) (Row.madeAt rfl (by simp [intCells])) (fun p hp => by cases hp; dsimp only; omega)).mono ?_
    rintro e w' ⟨v, hmem, rfl, z3, rfl, hsrc⟩
    have hsz3 := z3.btw.size
    (try simp only [World.size_alloc, World.size_setCell, World.size_drew] at hsz3)
    have H3 := Lib.hid hsrc
    clear hsrc
    simp only [List.mem_cons, List.not_mem_nil, or_false] at hmem
    have hv_v := Lib.hid hmem
    clear hmem
    have hv := hv_v.out
    clear hv_v
    have u4 : w.heap.size < z3.w.heap.size := (by omega)
    have u5 : z1.w.heap.size < z3.w.heap.size := (by omega)
    go_wp2_with fail
    refine bodyPost_ret (by simp [results, Tryz.results93, go_sem, ↓IntWalk.iteOmega, *]; try rfl) rfl ?_
    refine RetPtD.mk ⟨v, py⟩ ⟨by dsimp only; omega, by dsimp only; omega, by dsimp only; omega, by dsimp only; omega⟩ rfl ?_ ?_
    · (repeat (first | (with_reducible exact Between.refl _ _ _) | (with_reducible refine Between.drew ?_) | (with_reducible refine Between.drewN ?_ _) | (with_reducible refine btw_own ?_ ?_ _) | (with_reducible refine btw_later _ ?_) | (with_reducible refine btw_alloc ?_ _) | (with_reducible refine btw_after _ ?_) | (with_reducible refine btw_beyond _ ?_ ?_) | (with_reducible refine Aft.btw _ ?_ ?_) | (with_reducible assumption) | (dsimp only; omega) | omega | ((try simp only [World.size_alloc, World.size_setCell, World.size_drew]); omega)))
    · (repeat (first | (with_reducible exact H3.out) | (with_reducible refine SrcOk.alloc ?_ _) | (with_reducible refine SrcOk.set ?_ ?_ _) | (with_reducible refine SrcOk.drewN ?_ _) | (with_reducible refine SrcOk.drew ?_) | (with_reducible refine SrcOk.later _ ?_) | (with_reducible refine SrcOk.after _ ?_ ?_) | (dsimp only; omega) | omega | ((try simp only [World.size_alloc, World.size_setCell, World.size_drew]); omega)))
  · go_wp2_with fail
    refine bodyPost_ret (by simp [results, Tryz.results93, go_sem, ↓IntWalk.iteOmega, *]; try rfl) rfl ?_
    refine RetPtD.mk ⟨px, py⟩ ⟨k1, k2, k3, k4⟩ rfl ?_ ?_
    · (repeat (first | (with_reducible exact Between.refl _ _ _) | (with_reducible refine Between.drew ?_) | (with_reducible refine Between.drewN ?_ _) | (with_reducible refine btw_own ?_ ?_ _) | (with_reducible refine btw_later _ ?_) | (with_reducible refine btw_alloc ?_ _) | (with_reducible refine btw_after _ ?_) | (with_reducible refine btw_beyond _ ?_ ?_) | (with_reducible refine Aft.btw _ ?_ ?_) | (with_reducible assumption) | (dsimp only; omega) | omega | ((try simp only [World.size_alloc, World.size_setCell, World.size_drew]); omega)))
    · (repeat (first | (with_reducible exact H2.out) | (with_reducible refine SrcOk.alloc ?_ _) | (with_reducible refine SrcOk.set ?_ ?_ _) | (with_reducible refine SrcOk.drewN ?_ _) | (with_reducible refine SrcOk.drew ?_) | (with_reducible refine SrcOk.later _ ?_) | (with_reducible refine SrcOk.after _ ?_ ?_) | (dsimp only; omega) | omega | ((try simp only [World.size_alloc, World.size_setCell, World.size_drew]); omega)))
end Go.Proofs.YtklcaphkfdlipaaGreatDoor

import Derived.Test.YtfjlilpebhiogaaGreatDoorDrawC
import Derived.Test.YtfjlilpebhiogaaGreatDoorOwnsD
import Derived.Test.YtfjlilpebhiogaaGreatDoorApp2
import Derived.Test.YtfjlilpebhiogaaGreatDoorPick
import Derived.Test.YtfjlilpebhiogaaGreatDoorPackAb
/- The draws of claims: one claim, a list of them, and indices. -/
set_option linter.unusedSimpArgs false
set_option linter.unusedVariables false
namespace Go.Proofs.YtfjlilpebhiogaaGreatDoor
open Go.RowKit
set_option maxRecDepth 4000 in
set_option maxHeartbeats 8000000 in
theorem sClmDraw_any (g : Nat) (w : World) (h : SrcOk w g) : Calls Tryz.prog 21 #[.pointer (some ⟨g, 0, none⟩)] w (RetClmD w g) := by
  have hg := h.lt
  have H0 := Lib.hid h
  clear h
  go_enter Tryz.func21, Tryz.ntmps21
  go_wp2_with fail
  with_reducible refine (sClmGood_any g _ (by (repeat (first | (with_reducible exact H0.out) | (with_reducible refine SrcOk.alloc ?_ _) | (with_reducible refine SrcOk.set ?_ ?_ _) | (with_reducible refine SrcOk.drewN ?_ _) | (with_reducible refine SrcOk.drew ?_) | (with_reducible refine SrcOk.later _ ?_) | (with_reducible refine SrcOk.after _ ?_ ?_) | (dsimp only; omega) | omega | ((try simp only [World.size_alloc, World.size_setCell, World.size_drew]); omega))))).mono ?_
  rintro e w' ⟨c, ⟨k1, k2, k3, hf0, hf1⟩, rfl, z1, rfl, hsrc⟩
  obtain ⟨src, kind, place, val, fr, tt, wt⟩ := c
  dsimp only at k1 k2 k3 hf0 hf1
  have H1 := Lib.hid hsrc
  have hs1 := z1.btw.size
  (try simp only [World.size_alloc, World.size_setCell, World.size_drew] at hs1)
  clear hsrc
  go_wp2_with fail
  with_reducible refine (next_any g 24 _ (by (repeat (first | (with_reducible exact H1.out) | (with_reducible refine SrcOk.alloc ?_ _) | (with_reducible refine SrcOk.set ?_ ?_ _) | (with_reducible refine SrcOk.drewN ?_ _) | (with_reducible refine SrcOk.drew ?_) | (with_reducible refine SrcOk.later _ ?_) | (with_reducible refine SrcOk.after _ ?_ ?_) | (dsimp only; omega) | omega | ((try simp only [World.size_alloc, World.size_setCell, World.size_drew]); omega))))).mono ?_
  rintro e w' ⟨r, hdraw, rfl, z2, rfl, hsrc⟩
  have hsz2 := z2.btw.size
  (try simp only [World.size_alloc, World.size_setCell, World.size_drew] at hsz2)
  have H2 := Lib.hid hsrc
  clear hsrc
  obtain ⟨r0, r1⟩ := hdraw
  have u1 : w.heap.size < z1.w.heap.size := (by omega)
  have u2 : w.heap.size < z2.w.heap.size := (by omega)
  have u3 : z1.w.heap.size < z2.w.heap.size := (by omega)
  rcases (show r = 0 ∨ r = 1 ∨ r = 2 ∨ r = 3 ∨ 4 ≤ r by omega) with rfl | rfl | rfl | rfl | hr4
  · skip
    go_wp2_with fail
    with_reducible refine (pick_any g [0, 100, 101] _ 3 3 _ (by (repeat (first | (with_reducible exact H2.out) | (with_reducible refine SrcOk.alloc ?_ _) | (with_reducible refine SrcOk.set ?_ ?_ _) | (with_reducible refine SrcOk.drewN ?_ _) | (with_reducible refine SrcOk.drew ?_) | (with_reducible refine SrcOk.later _ ?_) | (with_reducible refine SrcOk.after _ ?_ ?_) | (dsimp only; omega) | omega | ((try simp only [World.size_alloc, World.size_setCell, World.size_drew]); omega)))) rfl (by omega) (by omega) (Row.madeAt rfl (by simp [intCells])) (fun p hp => by cases hp; dsimp only; omega)).mono ?_
    rintro e w' ⟨v, hmem, rfl, z3, rfl, hsrc⟩
    have hsz3 := z3.btw.size
    (try simp only [World.size_alloc, World.size_setCell, World.size_drew] at hsz3)
    have H3 := Lib.hid hsrc
    clear hsrc
    simp only [List.mem_cons, List.not_mem_nil, or_false] at hmem
    have hv_v := Lib.hid hmem
    clear hmem
    have u4 : w.heap.size < z3.w.heap.size := (by omega)
    have u5 : z1.w.heap.size < z3.w.heap.size := (by omega)
    clear hv_v
    go_wp2_with fail
    refine bodyPost_ret (by simp [results, Tryz.results21, go_sem, ↓IntWalk.iteOmega, *]; try rfl) rfl ?_
    refine RetClmD.mk (c := ⟨_, _, _, _, _, _, _⟩) ?hok rfl ?_ ?_
    case hok => exact ⟨k1, k2, k3, hf0, hf1⟩
    · (repeat (first | (with_reducible exact Between.refl _ _ _) | (with_reducible refine Between.drew ?_) | (with_reducible refine Between.drewN ?_ _) | (with_reducible refine btw_own ?_ ?_ _) | (with_reducible refine btw_later _ ?_) | (with_reducible refine btw_alloc ?_ _) | (with_reducible refine btw_after _ ?_) | (with_reducible refine btw_beyond _ ?_ ?_) | (with_reducible refine Aft.btw _ ?_ ?_) | (with_reducible assumption) | (dsimp only; omega) | omega | ((try simp only [World.size_alloc, World.size_setCell, World.size_drew]); omega)))
    · (repeat (first | (with_reducible exact H3.out) | (with_reducible refine SrcOk.alloc ?_ _) | (with_reducible refine SrcOk.set ?_ ?_ _) | (with_reducible refine SrcOk.drewN ?_ _) | (with_reducible refine SrcOk.drew ?_) | (with_reducible refine SrcOk.later _ ?_) | (with_reducible refine SrcOk.after _ ?_ ?_) | (dsimp only; omega) | omega | ((try simp only [World.size_alloc, World.size_setCell, World.size_drew]); omega)))
  · skip
    go_wp2_with fail
    with_reducible refine (next_any g 3 _ (by (repeat (first | (with_reducible exact H2.out) | (with_reducible refine SrcOk.alloc ?_ _) | (with_reducible refine SrcOk.set ?_ ?_ _) | (with_reducible refine SrcOk.drewN ?_ _) | (with_reducible refine SrcOk.drew ?_) | (with_reducible refine SrcOk.later _ ?_) | (with_reducible refine SrcOk.after _ ?_ ?_) | (dsimp only; omega) | omega | ((try simp only [World.size_alloc, World.size_setCell, World.size_drew]); omega))))).mono ?_
    rintro e w' ⟨p, hdraw, rfl, z3, rfl, hsrc⟩
    have hsz3 := z3.btw.size
    (try simp only [World.size_alloc, World.size_setCell, World.size_drew] at hsz3)
    have H3 := Lib.hid hsrc
    clear hsrc
    obtain ⟨p0, p1⟩ := hdraw
    have u4 : w.heap.size < z3.w.heap.size := (by omega)
    have u5 : z1.w.heap.size < z3.w.heap.size := (by omega)
    have u6 : z2.w.heap.size < z3.w.heap.size := (by omega)
    rcases (show p = 0 ∨ p = 1 ∨ p = 2 by omega) with rfl | rfl | rfl
    all_goals
      go_wp2_with fail
      refine bodyPost_ret (by simp [results, Tryz.results21, go_sem, ↓IntWalk.iteOmega, *]; try rfl) rfl ?_
      refine RetClmD.mk (c := ⟨_, _, _, _, _, _, _⟩) ?hok rfl ?_ ?_
      case hok => exact ⟨k1, k2, (by dsimp only; decide), hf0, hf1⟩
      · (repeat (first | (with_reducible exact Between.refl _ _ _) | (with_reducible refine Between.drew ?_) | (with_reducible refine Between.drewN ?_ _) | (with_reducible refine btw_own ?_ ?_ _) | (with_reducible refine btw_later _ ?_) | (with_reducible refine btw_alloc ?_ _) | (with_reducible refine btw_after _ ?_) | (with_reducible refine btw_beyond _ ?_ ?_) | (with_reducible refine Aft.btw _ ?_ ?_) | (with_reducible assumption) | (dsimp only; omega) | omega | ((try simp only [World.size_alloc, World.size_setCell, World.size_drew]); omega)))
      · (repeat (first | (with_reducible exact H3.out) | (with_reducible refine SrcOk.alloc ?_ _) | (with_reducible refine SrcOk.set ?_ ?_ _) | (with_reducible refine SrcOk.drewN ?_ _) | (with_reducible refine SrcOk.drew ?_) | (with_reducible refine SrcOk.later _ ?_) | (with_reducible refine SrcOk.after _ ?_ ?_) | (dsimp only; omega) | omega | ((try simp only [World.size_alloc, World.size_setCell, World.size_drew]); omega)))
  · skip
    go_wp2_with fail
    with_reducible refine (next_any g 6 _ (by (repeat (first | (with_reducible exact H2.out) | (with_reducible refine SrcOk.alloc ?_ _) | (with_reducible refine SrcOk.set ?_ ?_ _) | (with_reducible refine SrcOk.drewN ?_ _) | (with_reducible refine SrcOk.drew ?_) | (with_reducible refine SrcOk.later _ ?_) | (with_reducible refine SrcOk.after _ ?_ ?_) | (dsimp only; omega) | omega | ((try simp only [World.size_alloc, World.size_setCell, World.size_drew]); omega))))).mono ?_
    rintro e w' ⟨p, hdraw, rfl, z3, rfl, hsrc⟩
    have hsz3 := z3.btw.size
    (try simp only [World.size_alloc, World.size_setCell, World.size_drew] at hsz3)
    have H3 := Lib.hid hsrc
    clear hsrc
    obtain ⟨p0, p1⟩ := hdraw
    have u4 : w.heap.size < z3.w.heap.size := (by omega)
    have u5 : z1.w.heap.size < z3.w.heap.size := (by omega)
    go_wp2_with fail
    refine bodyPost_ret (by simp [results, Tryz.results21, go_sem, ↓IntWalk.iteOmega, *]; try rfl) rfl ?_
    refine RetClmD.mk (c := ⟨_, _, _, _, _, _, _⟩) ?hok rfl ?_ ?_
    case hok => exact ⟨k1, k2, k3, hf0, hf1⟩
    · (repeat (first | (with_reducible exact Between.refl _ _ _) | (with_reducible refine Between.drew ?_) | (with_reducible refine Between.drewN ?_ _) | (with_reducible refine btw_own ?_ ?_ _) | (with_reducible refine btw_later _ ?_) | (with_reducible refine btw_alloc ?_ _) | (with_reducible refine btw_after _ ?_) | (with_reducible refine btw_beyond _ ?_ ?_) | (with_reducible refine Aft.btw _ ?_ ?_) | (with_reducible assumption) | (dsimp only; omega) | omega | ((try simp only [World.size_alloc, World.size_setCell, World.size_drew]); omega)))
    · (repeat (first | (with_reducible exact H3.out) | (with_reducible refine SrcOk.alloc ?_ _) | (with_reducible refine SrcOk.set ?_ ?_ _) | (with_reducible refine SrcOk.drewN ?_ _) | (with_reducible refine SrcOk.drew ?_) | (with_reducible refine SrcOk.later _ ?_) | (with_reducible refine SrcOk.after _ ?_ ?_) | (dsimp only; omega) | omega | ((try simp only [World.size_alloc, World.size_setCell, World.size_drew]); omega)))
  · go_wp2_with fail
    with_reducible refine (sSpanDraw_any g _ (by (repeat (first | (with_reducible exact H2.out) | (with_reducible refine SrcOk.alloc ?_ _) | (with_reducible refine SrcOk.set ?_ ?_ _) | (with_reducible refine SrcOk.drewN ?_ _) | (with_reducible refine SrcOk.drew ?_) | (with_reducible refine SrcOk.later _ ?_) | (with_reducible refine SrcOk.after _ ?_ ?_) | (dsimp only; omega) | omega | ((try simp only [World.size_alloc, World.size_setCell, World.size_drew]); omega))))).mono ?_
    rintro e w' ⟨f, t, ⟨m1, m2, m3, m4⟩, rfl, z3, rfl, hsrc⟩
    have H3 := Lib.hid hsrc
    have hs3 := z3.btw.size
    (try simp only [World.size_alloc, World.size_setCell, World.size_drew] at hs3)
    clear hsrc
    have u4 : w.heap.size < z3.w.heap.size := (by omega)
    have u5 : z1.w.heap.size < z3.w.heap.size := (by omega)
    go_wp2_with fail
    refine bodyPost_ret (by simp [results, Tryz.results21, go_sem, ↓IntWalk.iteOmega, *]; try rfl) rfl ?_
    refine RetClmD.mk (c := ⟨_, _, _, _, _, _, _⟩) ?hok rfl ?_ ?_
    case hok => exact ⟨k1, k2, k3, (by dsimp only; omega), (by dsimp only; omega)⟩
    · (repeat (first | (with_reducible exact Between.refl _ _ _) | (with_reducible refine Between.drew ?_) | (with_reducible refine Between.drewN ?_ _) | (with_reducible refine btw_own ?_ ?_ _) | (with_reducible refine btw_later _ ?_) | (with_reducible refine btw_alloc ?_ _) | (with_reducible refine btw_after _ ?_) | (with_reducible refine btw_beyond _ ?_ ?_) | (with_reducible refine Aft.btw _ ?_ ?_) | (with_reducible assumption) | (dsimp only; omega) | omega | ((try simp only [World.size_alloc, World.size_setCell, World.size_drew]); omega)))
    · (repeat (first | (with_reducible exact H3.out) | (with_reducible refine SrcOk.alloc ?_ _) | (with_reducible refine SrcOk.set ?_ ?_ _) | (with_reducible refine SrcOk.drewN ?_ _) | (with_reducible refine SrcOk.drew ?_) | (with_reducible refine SrcOk.later _ ?_) | (with_reducible refine SrcOk.after _ ?_ ?_) | (dsimp only; omega) | omega | ((try simp only [World.size_alloc, World.size_setCell, World.size_drew]); omega)))
  · have e0 : (r == 0) = false := by rw [beq_eq_false_iff_ne]; omega
    have e1 : (r == 1) = false := by rw [beq_eq_false_iff_ne]; omega
    have e2 : (r == 2) = false := by rw [beq_eq_false_iff_ne]; omega
    have e3 : (r == 3) = false := by rw [beq_eq_false_iff_ne]; omega
    go_wp2_with fail
    refine bodyPost_ret (by simp [results, Tryz.results21, go_sem, ↓IntWalk.iteOmega, *]; try rfl) rfl ?_
    refine RetClmD.mk (c := ⟨_, _, _, _, _, _, _⟩) ?hok rfl ?_ ?_
    case hok => exact ⟨k1, k2, k3, hf0, hf1⟩
    · (repeat (first | (with_reducible exact Between.refl _ _ _) | (with_reducible refine Between.drew ?_) | (with_reducible refine Between.drewN ?_ _) | (with_reducible refine btw_own ?_ ?_ _) | (with_reducible refine btw_later _ ?_) | (with_reducible refine btw_alloc ?_ _) | (with_reducible refine btw_after _ ?_) | (with_reducible refine btw_beyond _ ?_ ?_) | (with_reducible refine Aft.btw _ ?_ ?_) | (with_reducible assumption) | (dsimp only; omega) | omega | ((try simp only [World.size_alloc, World.size_setCell, World.size_drew]); omega)))
    · (repeat (first | (with_reducible exact H2.out) | (with_reducible refine SrcOk.alloc ?_ _) | (with_reducible refine SrcOk.set ?_ ?_ _) | (with_reducible refine SrcOk.drewN ?_ _) | (with_reducible refine SrcOk.drew ?_) | (with_reducible refine SrcOk.later _ ?_) | (with_reducible refine SrcOk.after _ ?_ ?_) | (dsimp only; omega) | omega | ((try simp only [World.size_alloc, World.size_setCell, World.size_drew]); omega)))
def lenOf : Value → Nat
  | .slice _ n _ => n
  | _ => 0
/-- Some claims, whatever they are. -/
def RetClmsD (w : World) (g M : Nat) (e : Ending) (w' : World) : Prop :=
  ∃ (L : List Clm) (a : Option Addr) (c : Nat), (∀ x ∈ L, OkC x) ∧ L.length ≤ M ∧ e = .returned (.slice a L.length c) ∧ ∃ z : After w g (g + 1), w' = z.w ∧ SrcOk z.w g ∧ Owns z.w w.heap.size z.w.heap.size 27 7 L.length a c (clmsCells L)
theorem RetClmsD.mk {w w' : World} {g M : Nat} {e : Ending} {L : List Clm} {a : Option Addr} {c : Nat} (hok : ∀ x ∈ L, OkC x) (hl : L.length ≤ M) (he : e = .returned (.slice a L.length c)) (hb : Between g (g + 1) w w') (hs : SrcOk w' g) (ho : Owns w' w.heap.size w'.heap.size 27 7 L.length a c (clmsCells L)) : RetClmsD w g M e w' :=
  ⟨L, a, c, hok, hl, he, ⟨w', hb⟩, rfl, hs, ho⟩
end Go.Proofs.YtfjlilpebhiogaaGreatDoor

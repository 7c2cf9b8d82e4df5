import Derived.Test.YtklcaphkfdlipaaGreatDoorSou
import Derived.Test.YtklcaphkfdlipaaGreatDoorPackVa
import Derived.Test.YtklcaphkfdlipaaGreatDoorPackVc
import Derived.Test.YtklcaphkfdlipaaGreatDoorPackVd
/- Several of my texts, one behind the other: DrPV, DrQV, DrUV, DrPts. -/
/- The draws of points and rings: some points with small coordinates. -/
set_option linter.unusedSimpArgs false
set_option linter.unusedVariables false
namespace Go.Proofs.YtklcaphkfdlipaaGreatDoor
open Go.RowKit
def SmP (p : Pt) : Prop := -1100 ≤ p.x ∧ p.x ≤ 1100 ∧ -1100 ≤ p.y ∧ p.y ≤ 1100
/-- Some point. -/
def RetPtD (w : World) (g : Nat) (e : Ending) (w' : World) : Prop :=
  ∃ p : Pt, SmP p ∧ e = .returned (ptV p) ∧ ∃ z : After w g (g + 1), w' = z.w ∧ SrcOk z.w g
theorem RetPtD.mk {w w' : World} {g : Nat} {e : Ending} (p : Pt) (h : SmP p) (he : e = .returned (ptV p)) (hb : Between g (g + 1) w w') (hs : SrcOk w' g) : RetPtD w g e w' := ⟨p, h, he, ⟨w', hb⟩, rfl, hs⟩
set_option maxHeartbeats 4000000 in
theorem sPtGood_any (g : Nat) (w : World) (h : SrcOk w g) : Calls Tryz.prog 132 #[.pointer (some ⟨g, 0, none⟩)] w (RetPtD w g) := by
  have hg := h.lt
  have H0 := Lib.hid h
  clear h
  go_enter Tryz.func132, Tryz.ntmps132
  go_wp2_with fail
  with_reducible refine (next_any g 3 _ (by (repeat (first | (with_reducible exact H0.out) | (with_reducible refine SrcOk.alloc ?_ _) | (with_reducible refine SrcOk.set ?_ ?_ _) | (with_reducible refine SrcOk.drewN ?_ _) | (with_reducible refine SrcOk.drew ?_) | (with_reducible refine SrcOk.later _ ?_) | (with_reducible refine SrcOk.after _ ?_ ?_) | (dsimp only; omega) | omega | ((try simp only [World.size_alloc, World.size_setCell, World.size_drew]); omega))))).mono ?_
  rintro e w' ⟨q, hdraw, rfl, z1, rfl, hsrc⟩
  have hsz1 := z1.btw.size
  (try simp only [World.size_alloc, World.size_setCell, World.size_drew] at hsz1)
  have H1 := Lib.hid hsrc
  clear hsrc
  obtain ⟨q0, q1⟩ := hdraw
  have u1 : w.heap.size < z1.w.heap.size := (by omega)
  by_cases hq : q = 0
  · subst hq
    go_wp2_with fail
    with_reducible refine (next_any g 2001 _ (by (repeat (first | (with_reducible exact H1.out) | (with_reducible refine SrcOk.alloc ?_ _) | (with_reducible refine SrcOk.set ?_ ?_ _) | (with_reducible refine SrcOk.drewN ?_ _) | (with_reducible refine SrcOk.drew ?_) | (with_reducible refine SrcOk.later _ ?_) | (with_reducible refine SrcOk.after _ ?_ ?_) | (dsimp only; omega) | omega | ((try simp only [World.size_alloc, World.size_setCell, World.size_drew]); omega))))).mono ?_
    rintro e w' ⟨r, hdraw, rfl, z2, rfl, hsrc⟩
    have hsz2 := z2.btw.size
    (try simp only [World.size_alloc, World.size_setCell, World.size_drew] at hsz2)
    have H2 := Lib.hid hsrc
    clear hsrc
    obtain ⟨r0, r1⟩ := hdraw
    have u2 : w.heap.size < z2.w.heap.size := (by omega)
    go_wp2_with fail
    with_reducible refine (next_any g 2001 _ (by (repeat (first | (with_reducible exact H2.out) | (with_reducible refine SrcOk.alloc ?_ _) | (with_reducible refine SrcOk.set ?_ ?_ _) | (with_reducible refine SrcOk.drewN ?_ _) | (with_reducible refine SrcOk.drew ?_) | (with_reducible refine SrcOk.later _ ?_) | (with_reducible refine SrcOk.after _ ?_ ?_) | (dsimp only; omega) | omega | ((try simp only [World.size_alloc, World.size_setCell, World.size_drew]); omega))))).mono ?_
    rintro e w' ⟨t, hdraw, rfl, z3, rfl, hsrc⟩
    have hsz3 := z3.btw.size
    (try simp only [World.size_alloc, World.size_setCell, World.size_drew] at hsz3)
    have H3 := Lib.hid hsrc
    clear hsrc
    obtain ⟨t0, t1⟩ := hdraw
    have u3 : w.heap.size < z3.w.heap.size := (by omega)
    go_wp2_with fail
    refine bodyPost_ret (by simp [results, Tryz.results132, go_sem, ↓IntWalk.iteOmega, *]; try rfl) rfl ?_
    refine RetPtD.mk ⟨r - 1000, t - 1000⟩ ⟨by dsimp only; omega, by dsimp only; omega, by dsimp only; omega, by dsimp only; omega⟩ rfl ?_ ?_
    · (repeat (first | (with_reducible exact Between.refl _ _ _) | (with_reducible refine Between.drew ?_) | (with_reducible refine Between.drewN ?_ _) | (with_reducible refine btw_own ?_ ?_ _) | (with_reducible refine btw_later _ ?_) | (with_reducible refine btw_alloc ?_ _) | (with_reducible refine btw_after _ ?_) | (with_reducible refine btw_beyond _ ?_ ?_) | (with_reducible refine Aft.btw _ ?_ ?_) | (with_reducible assumption) | (dsimp only; omega) | omega | ((try simp only [World.size_alloc, World.size_setCell, World.size_drew]); omega)))
    · (repeat (first | (with_reducible exact H3.out) | (with_reducible refine SrcOk.alloc ?_ _) | (with_reducible refine SrcOk.set ?_ ?_ _) | (with_reducible refine SrcOk.drewN ?_ _) | (with_reducible refine SrcOk.drew ?_) | (with_reducible refine SrcOk.later _ ?_) | (with_reducible refine SrcOk.after _ ?_ ?_) | (dsimp only; omega) | omega | ((try simp only [World.size_alloc, World.size_setCell, World.size_drew]); omega)))
  · skip
    go_wp2_with fail
    with_reducible refine (next_any g 9 _ (by (repeat (first | (with_reducible exact H1.out) | (with_reducible refine SrcOk.alloc ?_ _) | (with_reducible refine SrcOk.set ?_ ?_ _) | (with_reducible refine SrcOk.drewN ?_ _) | (with_reducible refine SrcOk.drew ?_) | (with_reducible refine SrcOk.later _ ?_) | (with_reducible refine SrcOk.after _ ?_ ?_) | (dsimp only; omega) | omega | ((try simp only [World.size_alloc, World.size_setCell, World.size_drew]); omega))))).mono ?_
    rintro e w' ⟨r, hdraw, rfl, z2, rfl, hsrc⟩
    have hsz2 := z2.btw.size
    (try simp only [World.size_alloc, World.size_setCell, World.size_drew] at hsz2)
    have H2 := Lib.hid hsrc
    clear hsrc
    obtain ⟨r0, r1⟩ := hdraw
    have u2 : w.heap.size < z2.w.heap.size := (by omega)
    go_wp2_with fail
    with_reducible refine (next_any g 9 _ (by (repeat (first | (with_reducible exact H2.out) | (with_reducible refine SrcOk.alloc ?_ _) | (with_reducible refine SrcOk.set ?_ ?_ _) | (with_reducible refine SrcOk.drewN ?_ _) | (with_reducible refine SrcOk.drew ?_) | (with_reducible refine SrcOk.later _ ?_) | (with_reducible refine SrcOk.after _ ?_ ?_) | (dsimp only; omega) | omega | ((try simp only [World.size_alloc, World.size_setCell, World.size_drew]); omega))))).mono ?_
    rintro e w' ⟨t, hdraw, rfl, z3, rfl, hsrc⟩
    have hsz3 := z3.btw.size
    (try simp only [World.size_alloc, World.size_setCell, World.size_drew] at hsz3)
    have H3 := Lib.hid hsrc
    clear hsrc
    obtain ⟨t0, t1⟩ := hdraw
    have u3 : w.heap.size < z3.w.heap.size := (by omega)
    go_wp2_with fail
    refine bodyPost_ret (by simp [results, Tryz.results132, go_sem, ↓IntWalk.iteOmega, *]; try rfl) rfl ?_
    refine RetPtD.mk ⟨r - 4, t - 4⟩ ⟨by dsimp only; omega, by dsimp only; omega, by dsimp only; omega, by dsimp only; omega⟩ rfl ?_ ?_
    · (repeat (first | (with_reducible exact Between.refl _ _ _) | (with_reducible refine Between.drew ?_) | (with_reducible refine Between.drewN ?_ _) | (with_reducible refine btw_own ?_ ?_ _) | (with_reducible refine btw_later _ ?_) | (with_reducible refine btw_alloc ?_ _) | (with_reducible refine btw_after _ ?_) | (with_reducible refine btw_beyond _ ?_ ?_) | (with_reducible refine Aft.btw _ ?_ ?_) | (with_reducible assumption) | (dsimp only; omega) | omega | ((try simp only [World.size_alloc, World.size_setCell, World.size_drew]); omega)))
    · (repeat (first | (with_reducible exact H3.out) | (with_reducible refine SrcOk.alloc ?_ _) | (with_reducible refine SrcOk.set ?_ ?_ _) | (with_reducible refine SrcOk.drewN ?_ _) | (with_reducible refine SrcOk.drew ?_) | (with_reducible refine SrcOk.later _ ?_) | (with_reducible refine SrcOk.after _ ?_ ?_) | (dsimp only; omega) | omega | ((try simp only [World.size_alloc, World.size_setCell, World.size_drew]); omega)))
set_option maxHeartbeats 4000000 in
theorem sPtDraw_any (g : Nat) (w : World) (h : SrcOk w g) : Calls Tryz.prog 93 #[.pointer (some ⟨g, 0, none⟩)] w (RetPtD w g) := by
  have hg := h.lt
  have H0 := Lib.hid h
  clear h
  go_enter Tryz.func93, Tryz.ntmps93
  go_wp2_with fail
  with_reducible refine (sPtGood_any g _ (by (repeat (first | (with_reducible exact H0.out) | (with_reducible refine SrcOk.alloc ?_ _) | (with_reducible refine SrcOk.set ?_ ?_ _) | (with_reducible refine SrcOk.drewN ?_ _) | (with_reducible refine SrcOk.drew ?_) | (with_reducible refine SrcOk.later _ ?_) | (with_reducible refine SrcOk.after _ ?_ ?_) | (dsimp only; omega) | omega | ((try simp only [World.size_alloc, World.size_setCell, World.size_drew]); omega))))).mono ?_
  rintro e w' ⟨⟨px, py⟩, ⟨k1, k2, k3, k4⟩, rfl, z1, rfl, hsrc⟩
  dsimp only at k1 k2 k3 k4
  have hs1 := z1.btw.size
  (try simp only [World.size_alloc, World.size_setCell, World.size_drew] at hs1)
  have H1 := Lib.hid hsrc
  clear hsrc
  have u1 : w.heap.size < z1.w.heap.size := (by omega)
  go_wp2_with fail
  with_reducible refine (next_any g 40 _ (by (repeat (first | (with_reducible exact H1.out) | (with_reducible refine SrcOk.alloc ?_ _) | (with_reducible refine SrcOk.set ?_ ?_ _) | (with_reducible refine SrcOk.drewN ?_ _) | (with_reducible refine SrcOk.drew ?_) | (with_reducible refine SrcOk.later _ ?_) | (with_reducible refine SrcOk.after _ ?_ ?_) | (dsimp only; omega) | omega | ((try simp only [World.size_alloc, World.size_setCell, World.size_drew]); omega))))).mono ?_
  rintro e w' ⟨q, hdraw, rfl, z2, rfl, hsrc⟩
  have hsz2 := z2.btw.size
  (try simp only [World.size_alloc, World.size_setCell, World.size_drew] at hsz2)
  have H2 := Lib.hid hsrc
  clear hsrc
  obtain ⟨q0, q1⟩ := hdraw
  have u2 : w.heap.size < z2.w.heap.size := (by omega)
  have u3 : z1.w.heap.size < z2.w.heap.size := (by omega)
  by_cases hq : q = 0
  · subst hq
    go_wp2_with fail
    with_reducible refine (pick_any g [1000, 1001, -1001] _ 3 3 _ (by (repeat (first | (with_reducible exact H2.out) | (with_reducible refine SrcOk.alloc ?_ _) | (with_reducible refine SrcOk.set ?_ ?_ _) | (with_reducible refine SrcOk.drewN ?_ _) | (with_reducible refine SrcOk.drew ?_) | (with_reducible refine SrcOk.later _ ?_) | (with_reducible refine SrcOk.after _ ?_ ?_) | (dsimp only; omega) | omega | ((try simp only [World.size_alloc, World.size_setCell, World.size_drew]); omega)))) rfl (by omega) (by omega) (Row.madeAt rfl (by simp [intCells])) (fun p hp => by cases hp; dsimp only; omega)).mono ?_
    rintro e w' ⟨v, hmem, rfl, z3, rfl, hsrc⟩
    have hsz3 := z3.btw.size
    (try simp only [World.size_alloc, World.size_setCell, World.size_drew] at hsz3)
    have H3 := Lib.hid hsrc
    clear hsrc
    simp only [List.mem_cons, List.not_mem_nil, or_false] at hmem
    have hv_v := Lib.hid hmem
    clear hmem
    have hv := hv_v.out
    clear hv_v
    have u4 : w.heap.size < z3.w.heap.size := (by omega)
    have u5 : z1.w.heap.size < z3.w.heap.size := (by omega)
    go_wp2_with fail
    refine bodyPost_ret (by simp [results, Tryz.results93, go_sem, ↓IntWalk.iteOmega, *]; try rfl) rfl ?_
    refine RetPtD.mk ⟨v, py⟩ ⟨by dsimp only; omega, by dsimp only; omega, by dsimp only; omega, by dsimp only; omega⟩ rfl ?_ ?_
    · (repeat (first | (with_reducible exact Between.refl _ _ _) | (with_reducible refine Between.drew ?_) | (with_reducible refine Between.drewN ?_ _) | (with_reducible refine btw_own ?_ ?_ _) | (with_reducible refine btw_later _ ?_) | (with_reducible refine btw_alloc ?_ _) | (with_reducible refine btw_after _ ?_) | (with_reducible refine btw_beyond _ ?_ ?_) | (with_reducible refine Aft.btw _ ?_ ?_) | (with_reducible assumption) | (dsimp only; omega) | omega | ((try simp only [World.size_alloc, World.size_setCell, World.size_drew]); omega)))
    · (repeat (first | (with_reducible exact H3.out) | (with_reducible refine SrcOk.alloc ?_ _) | (with_reducible refine SrcOk.set ?_ ?_ _) | (with_reducible refine SrcOk.drewN ?_ _) | (with_reducible refine SrcOk.drew ?_) | (with_reducible refine SrcOk.later _ ?_) | (with_reducible refine SrcOk.after _ ?_ ?_) | (dsimp only; omega) | omega | ((try simp only [World.size_alloc, World.size_setCell, World.size_drew]); omega)))
  · go_wp2_with fail
    refine bodyPost_ret (by simp [results, Tryz.results93, go_sem, ↓IntWalk.iteOmega, *]; try rfl) rfl ?_
    refine RetPtD.mk ⟨px, py⟩ ⟨k1, k2, k3, k4⟩ rfl ?_ ?_
    · (repeat (first | (with_reducible exact Between.refl _ _ _) | (with_reducible refine Between.drew ?_) | (with_reducible refine Between.drewN ?_ _) | (with_reducible refine btw_own ?_ ?_ _) | (with_reducible refine btw_later _ ?_) | (with_reducible refine btw_alloc ?_ _) | (with_reducible refine btw_after _ ?_) | (with_reducible refine btw_beyond _ ?_ ?_) | (with_reducible refine Aft.btw _ ?_ ?_) | (with_reducible assumption) | (dsimp only; omega) | omega | ((try simp only [World.size_alloc, World.size_setCell, World.size_drew]); omega)))
    · (repeat (first | (with_reducible exact H2.out) | (with_reducible refine SrcOk.alloc ?_ _) | (with_reducible refine SrcOk.set ?_ ?_ _) | (with_reducible refine SrcOk.drewN ?_ _) | (with_reducible refine SrcOk.drew ?_) | (with_reducible refine SrcOk.later _ ?_) | (with_reducible refine SrcOk.after _ ?_ ?_) | (dsimp only; omega) | omega | ((try simp only [World.size_alloc, World.size_setCell, World.size_drew]); omega)))
end Go.Proofs.YtklcaphkfdlipaaGreatDoor

/- The draws of rings. -/
set_option linter.unusedSimpArgs false
set_option linter.unusedVariables false
namespace Go.Proofs.YtklcaphkfdlipaaGreatDoor
open Go.RowKit
/-- Some points, in memory of the draw's own. -/
def RetPtsO (w : World) (g : Nat) (e : Ending) (w' : World) : Prop :=
  ∃ (L : List Pt) (a : Option Addr) (n c : Nat), (∀ p ∈ L, SmP p) ∧ 2 ≤ n ∧ n ≤ 12 ∧ L.length = n ∧ e = .returned (.slice a n c) ∧ ∃ z : After w g (g + 1), w' = z.w ∧ SrcOk z.w g ∧ Owns z.w w.heap.size z.w.heap.size 72 2 n a c (ptsCells L)
/-- Points, in five blocks. -/
def ShapesAt (w wx : World) (b : Nat) : Prop := ∀ r : Nat, r < 5 → ∃ (c : Nat) (L : List Pt), wx.cell? ⟨b, r, none⟩ = some (.slice (some ⟨c, 0, none⟩) L.length L.length) ∧ Row wx (some ⟨c, 0, none⟩) (ptsCells L) ∧ 3 ≤ L.length ∧ L.length ≤ 10 ∧ (∀ p ∈ L, 0 ≤ p.x ∧ p.x ≤ 8 ∧ 0 ≤ p.y ∧ p.y ≤ 8) ∧ w.heap.size ≤ c
theorem row_block {w : World} {g : Nat} {cs : Array Value} {e : TypeId} {fr : Nat × Nat} {L : List Pt} (h : w.heap[g]? = some (.cells cs e fr)) (hx : ptsCells L = cs.toList) : Row w (some ⟨g, 0, none⟩) (ptsCells L) :=
  Row.at_block h fun j v hj => by rw [hx] at hj; simpa using hj
theorem heap_alloc_at (w : World) (o : Obj) (i : Nat) : (w.alloc o).heap[i]? = if i = w.heap.size then some o else w.heap[i]? := by
  by_cases h : i = w.heap.size
  · subst h
    rw [if_pos rfl]
    exact heap_alloc_new w o
  · rw [if_neg h]
    rcases Nat.lt_or_ge i w.heap.size with h1 | h1
    · exact Below.heap_alloc w o i h1
    · rw [Array.getElem?_eq_none (by simp; omega), Array.getElem?_eq_none (by omega)]
theorem info_pt' : ∃ i, Tryz.prog.info? 72 = some i ∧ i.zero = some (.agg #[.int .i64 0, .int .i64 0]) ∧ i.size = 2 ∧ i.bytes = 16 := by
  have h := info_pt
  cases hi : Tryz.prog.info? 72 with
  | none => rw [hi] at h; cases h
  | some i =>
    rw [hi] at h
    simp only [Option.map_some, Option.some.injEq, Prod.mk.injEq] at h
    exact ⟨i, rfl, h.1, h.2.1, h.2.2⟩
theorem one_pt (p : Pt) : ∀ u ∈ ptCells p, u.oneCell' = true := by intro u hu; simp [ptCells] at hu; rcases hu with rfl | rfl <;> rfl
theorem ptsCells_one (L : List Pt) (p : Pt) : ptsCells (L ++ [p]) = ptsCells L ++ ptCells p := by rw [ptsCells_append]; simp [ptsCells]
set_option maxRecDepth 8000 in
set_option maxHeartbeats 8000000 in
theorem sRingGood_any (g : Nat) (w : World) (h : SrcOk w g) : Calls Tryz.prog 175 #[.pointer (some ⟨g, 0, none⟩)] w (RetPtsO w g) := by
  have hg := h.lt
  have H0 := Lib.hid h
  clear h
  go_enter Tryz.func175, Tryz.ntmps175
  go_upto_region 1 with fail
  go_cut [3] from 13 to 49 (fun t3 wx => ∃ b, t3 = .slice (some ⟨b, 0, none⟩) 5 5 ∧ w.heap.size ≤ b ∧ ShapesAt w wx b ∧ Below w.heap.size w wx)
  case first =>
    go_wp2_with fail
    go_meet
    refine ⟨_, rfl, by (try simp only [World.size_alloc]); omega, ?_, bb⟩
    intro r hr
    rcases (show r = 0 ∨ r = 1 ∨ r = 2 ∨ r = 3 ∨ r = 4 by omega) with rfl | rfl | rfl | rfl | rfl
    · exact ⟨w.heap.size, [⟨0, 0⟩, ⟨4, 0⟩, ⟨4, 3⟩, ⟨0, 3⟩], by simp [go_sem, ↓IntWalk.iteOmega], row_block (by ((repeat (rw [heap_alloc_at, if_neg (by (try simp only [World.size_alloc]); omega)])); rw [heap_alloc_at, if_pos (by (try simp only [World.size_alloc]))]; rfl)) rfl, by decide, by decide, by decide, by omega⟩
    · exact ⟨w.heap.size + 1, [⟨0, 0⟩, ⟨6, 0⟩, ⟨0, 4⟩], by simp [go_sem, ↓IntWalk.iteOmega], row_block (by ((repeat (rw [heap_alloc_at, if_neg (by (try simp only [World.size_alloc]); omega)])); rw [heap_alloc_at, if_pos (by (try simp only [World.size_alloc]))]; rfl)) rfl, by decide, by decide, by decide, by omega⟩
    · exact ⟨w.heap.size + 2, [⟨0, 0⟩, ⟨6, 0⟩, ⟨6, 6⟩, ⟨4, 6⟩, ⟨4, 2⟩, ⟨0, 2⟩], by simp [go_sem, ↓IntWalk.iteOmega], row_block (by ((repeat (rw [heap_alloc_at, if_neg (by (try simp only [World.size_alloc]); omega)])); rw [heap_alloc_at, if_pos (by (try simp only [World.size_alloc]))]; rfl)) rfl, by decide, by decide, by decide, by omega⟩
    · exact ⟨w.heap.size + 3, [⟨0, 0⟩, ⟨5, 1⟩, ⟨8, 0⟩, ⟨7, 4⟩, ⟨8, 8⟩, ⟨4, 6⟩, ⟨0, 8⟩, ⟨1, 4⟩], by simp [go_sem, ↓IntWalk.iteOmega], row_block (by ((repeat (rw [heap_alloc_at, if_neg (by (try simp only [World.size_alloc]); omega)])); rw [heap_alloc_at, if_pos (by (try simp only [World.size_alloc]))]; rfl)) rfl, by decide, by decide, by decide, by omega⟩
    · exact ⟨w.heap.size + 4, [⟨0, 0⟩, ⟨8, 0⟩, ⟨8, 5⟩, ⟨6, 5⟩, ⟨6, 2⟩, ⟨4, 2⟩, ⟨4, 5⟩, ⟨2, 5⟩, ⟨2, 2⟩, ⟨0, 2⟩], by simp [go_sem, ↓IntWalk.iteOmega], row_block (by ((repeat (rw [heap_alloc_at, if_neg (by (try simp only [World.size_alloc]); omega)])); rw [heap_alloc_at, if_pos (by (try simp only [World.size_alloc]))]; rfl)) rfl, by decide, by decide, by decide, by omega⟩
  case rest =>
    obtain ⟨b, rfl, hbb, hS, hbc⟩ := hcut
    have hcs := hbc.size
    have hbw : b < wc.heap.size := by
      obtain ⟨_, _, h1, _⟩ := hS 0 (by omega)
      exact World.block_lt_of_cell? _ _ h1
    have HW := Lib.hid (H0.out.below hbc hg)
    have hbl : Between g (g + 1) w wc := ⟨hbc.os, hbc.tape, hbc.output, hbc.size, fun k hk _ => hbc.block k hk⟩
    replace hbl := Lib.hid hbl
    clear hbc H0
    obtain ⟨ii, j1, j2, j3, j4⟩ := info_pt'
    have Jii := Lib.hid (And.intro j1 (And.intro j2 (And.intro j3 j4)))
    clear j1 j2 j3 j4
    have hgb : g < b := by omega
    have hgb1 : g + 1 ≤ b := by omega
    go_wp2_with fail
    with_reducible refine (next_any g 5 _ (by (repeat (first | (with_reducible exact HW.out) | (with_reducible refine SrcOk.alloc ?_ _) | (with_reducible refine SrcOk.set ?_ ?_ _) | (with_reducible refine SrcOk.drewN ?_ _) | (with_reducible refine SrcOk.drew ?_) | (with_reducible refine SrcOk.later _ ?_) | (with_reducible refine SrcOk.after _ ?_ ?_) | (dsimp only; omega) | omega | ((try simp only [World.size_alloc, World.size_setCell, World.size_drew]); omega))))).mono ?_
    rintro e w' ⟨r, hdraw, rfl, z1, rfl, hsrc⟩
    have hsz1 := z1.btw.size
    (try simp only [World.size_alloc, World.size_setCell, World.size_drew] at hsz1)
    have H1 := Lib.hid hsrc
    clear hsrc
    obtain ⟨r0, r1⟩ := hdraw
    obtain ⟨m, rfl⟩ := Int.eq_ofNat_of_zero_le r0
    obtain ⟨c, L, q, hrow, l3, l10, hL, hc⟩ := hS (m : Int).toNat (by omega)
    rw [Int.toNat_natCast] at q
    have hm5 : m < 5 := by omega
    have i1 : (m : Int) < 5 := by omega
    have hcw : c < wc.heap.size := by
      have h1 := hrow.pt (L := L) (k := 0) (by omega)
      obtain ⟨b', o', e', h2, _⟩ := h1
      cases e'
      exact h2
    have hrw : ∀ W, Between g (g + 1) wc W → Row W (some ⟨c, 0, none⟩) (ptsCells L) := fun W hW => hrow.btw hW (fun p hp => by cases hp; dsimp only; omega)
    replace hrw := Lib.hid hrw
    replace hL := Lib.hid hL
    clear hS hrow
    have v1 : wc.heap.size ≤ z1.w.heap.size := by omega
    have v2 : w.heap.size < z1.w.heap.size := by omega
    have v3 : b < z1.w.heap.size := by omega
    go_wp2_with fail
    with_reducible refine (next_any g 11 _ (by (repeat (first | (with_reducible exact H1.out) | (with_reducible refine SrcOk.alloc ?_ _) | (with_reducible refine SrcOk.set ?_ ?_ _) | (with_reducible refine SrcOk.drewN ?_ _) | (with_reducible refine SrcOk.drew ?_) | (with_reducible refine SrcOk.later _ ?_) | (with_reducible refine SrcOk.after _ ?_ ?_) | (dsimp only; omega) | omega | ((try simp only [World.size_alloc, World.size_setCell, World.size_drew]); omega))))).mono ?_
    rintro e w' ⟨xx, hdraw, rfl, z2, rfl, hsrc⟩
    have hsz2 := z2.btw.size
    (try simp only [World.size_alloc, World.size_setCell, World.size_drew] at hsz2)
    have H2 := Lib.hid hsrc
    clear hsrc
    obtain ⟨xx0, xx1⟩ := hdraw
    go_wp2_with fail
    with_reducible refine (next_any g 11 _ (by (repeat (first | (with_reducible exact H2.out) | (with_reducible refine SrcOk.alloc ?_ _) | (with_reducible refine SrcOk.set ?_ ?_ _) | (with_reducible refine SrcOk.drewN ?_ _) | (with_reducible refine SrcOk.drew ?_) | (with_reducible refine SrcOk.later _ ?_) | (with_reducible refine SrcOk.after _ ?_ ?_) | (dsimp only; omega) | omega | ((try simp only [World.size_alloc, World.size_setCell, World.size_drew]); omega))))).mono ?_
    rintro e w' ⟨yy, hdraw, rfl, z3, rfl, hsrc⟩
    have hsz3 := z3.btw.size
    (try simp only [World.size_alloc, World.size_setCell, World.size_drew] at hsz3)
    have H3 := Lib.hid hsrc
    clear hsrc
    obtain ⟨yy0, yy1⟩ := hdraw
    go_wp2_with fail
    with_reducible refine (next_any g 3 _ (by (repeat (first | (with_reducible exact H3.out) | (with_reducible refine SrcOk.alloc ?_ _) | (with_reducible refine SrcOk.set ?_ ?_ _) | (with_reducible refine SrcOk.drewN ?_ _) | (with_reducible refine SrcOk.drew ?_) | (with_reducible refine SrcOk.later _ ?_) | (with_reducible refine SrcOk.after _ ?_ ?_) | (dsimp only; omega) | omega | ((try simp only [World.size_alloc, World.size_setCell, World.size_drew]); omega))))).mono ?_
    rintro e w' ⟨sc, hdraw, rfl, z4, rfl, hsrc⟩
    have hsz4 := z4.btw.size
    (try simp only [World.size_alloc, World.size_setCell, World.size_drew] at hsz4)
    have H4 := Lib.hid hsrc
    clear hsrc
    obtain ⟨sc0, sc1⟩ := hdraw
    go_wp2_with fail
    with_reducible refine (next_any g (L.length : Int) _ (by (repeat (first | (with_reducible exact H4.out) | (with_reducible refine SrcOk.alloc ?_ _) | (with_reducible refine SrcOk.set ?_ ?_ _) | (with_reducible refine SrcOk.drewN ?_ _) | (with_reducible refine SrcOk.drew ?_) | (with_reducible refine SrcOk.later _ ?_) | (with_reducible refine SrcOk.after _ ?_ ?_) | (dsimp only; omega) | omega | ((try simp only [World.size_alloc, World.size_setCell, World.size_drew]); omega))))).mono ?_
    rintro e w' ⟨k0, hdraw, rfl, z5, rfl, hsrc⟩
    have hsz5 := z5.btw.size
    (try simp only [World.size_alloc, World.size_setCell, World.size_drew] at hsz5)
    have H5 := Lib.hid hsrc
    clear hsrc
    obtain ⟨k00, k01⟩ := hdraw
    go_wp2_with fail
    with_reducible refine (next_any g 2 _ (by (repeat (first | (with_reducible exact H5.out) | (with_reducible refine SrcOk.alloc ?_ _) | (with_reducible refine SrcOk.set ?_ ?_ _) | (with_reducible refine SrcOk.drewN ?_ _) | (with_reducible refine SrcOk.drew ?_) | (with_reducible refine SrcOk.later _ ?_) | (with_reducible refine SrcOk.after _ ?_ ?_) | (dsimp only; omega) | omega | ((try simp only [World.size_alloc, World.size_setCell, World.size_drew]); omega))))).mono ?_
    rintro e w' ⟨t, hdraw, rfl, z6, rfl, hsrc⟩
    have hsz6 := z6.btw.size
    (try simp only [World.size_alloc, World.size_setCell, World.size_drew] at hsz6)
    have H6 := Lib.hid hsrc
    clear hsrc
    obtain ⟨t0, t1⟩ := hdraw
    have hb6 : Between g (g + 1) wc z6.w := by (repeat (first | (with_reducible exact Between.refl _ _ _) | (with_reducible refine Between.drew ?_) | (with_reducible refine Between.drewN ?_ _) | (with_reducible refine btw_own ?_ ?_ _) | (with_reducible refine btw_later _ ?_) | (with_reducible refine btw_alloc ?_ _) | (with_reducible refine btw_after _ ?_) | (with_reducible refine btw_beyond _ ?_ ?_) | (with_reducible refine Aft.btw _ ?_ ?_) | (with_reducible assumption) | (dsimp only; omega) | omega | ((try simp only [World.size_alloc, World.size_setCell, World.size_drew]); omega)))
    replace hb6 := Lib.hid hb6
    obtain ⟨kn, rfl⟩ := Int.eq_ofNat_of_zero_le k00
    have v6 : wc.heap.size ≤ z6.w.heap.size := by have := hb6.out.size; omega
    obtain ⟨tb, htb⟩ : ∃ tb, (t == 0) = tb := ⟨_, rfl⟩
    obtain ⟨sx, hsx⟩ : ∃ sx, 1 + sc = sx := ⟨_, rfl⟩
    have s0 : 1 ≤ sx := by omega
    have s1 : sx ≤ 3 := by omega
    go_wp2_with fail
    go_loopw [10, 11] (fun t10 t11 wr => ∃ (k : Nat) (L2 : List Pt) (a : Option Addr) (c2 : Nat), k ≤ L.length ∧ t11 = .int .i64 k ∧ L2.length = k ∧ t10 = .slice a k c2 ∧ (∀ p ∈ L2, SmP p) ∧ wr.ownsRow z6.w.heap.size 72 2 (.slice a k c2) k (ptsCells L2) ∧ ∃ z : Later z6.w, wr = z.w) (fun _ t11 _ => L.length - (intOf t11).toNat)
    case atStart => exact ⟨0, [], _, _, Nat.zero_le _, rfl, rfl, rfl, fun p hp => (by cases hp), World.ownsRow_lit z6.w #[] 0 (Nat.le_refl _) (by unfold maxLen; omega) rfl, ⟨_, bel_alloc (Below.refl _ _) _⟩, rfl⟩
    case round =>
      obtain ⟨k, L2, a, c2, hk, rfl, hl2, rfl, hsm, hown, z, rfl⟩ := hrel
      have hzz := z.bel.size
      replace hsm := Lib.hid hsm
      replace hown := Lib.hid hown
      replace hl2 := Lib.hid hl2
      by_cases hlt : k < L.length
      · have i2 : (k : Int) < (L.length : Int) := by omega
        have CA := Lib.hid (fun W hW => l16At_z (L := L) (i := kn + k) (z := (kn : Int) + (k : Int)) (a := some ⟨c, 0, none⟩) (n := L.length) (c := L.length) (w := W) (by omega) rfl (by omega) (by omega) (by omega) (hrw.out W hW))
        have hPm := hL.out _ (cor_mem (L := L) (i := kn + k) (by omega))
        obtain ⟨⟨X, Y⟩, hP⟩ : ∃ P, cor L (kn + k) = P := ⟨_, rfl⟩
        simp only [hP] at CA hPm
        obtain ⟨X0, X1, Y0, Y1⟩ := hPm
        have mx0 : 0 ≤ sx * X := Int.mul_nonneg (by omega) X0
        have my0 : 0 ≤ sx * Y := Int.mul_nonneg (by omega) Y0
        have mx1 : sx * X ≤ 24 := by have := Int.mul_le_mul s1 X1 X0 (by omega); omega
        have my1 : sx * Y ≤ 24 := by have := Int.mul_le_mul s1 Y1 Y0 (by omega); omega
        clear hP
        go_wp2_with fail
        with_reducible refine (CA.out _ (btw_later z hb6.out)).mono ?_
        rintro e w' ⟨rfl, y1, rfl⟩
        have hsy1 := y1.bel.size
        (try simp only [World.size_alloc, World.size_setCell, World.size_drew] at hsy1)
        have hown2 := Lib.hid (own_bel hown.out y1.bel)
        cases tb
        · go_wp2_with (at_builtin; (refine wpList_append_later _ rfl _ _ _ rfl 72 ii _ 2 16 Tryz.underlying83 Jii.out.1 Jii.out.2.1 Jii.out.2.2.1 Jii.out.2.2.2 rfl (by decide) (z6.w) ?qa1 _ _ _ (ptsCells L2) rfl ?qa2 _ _ _ (ptCells ⟨sx * X + (xx - 5), sx * Y + (yy - 5)⟩) rfl ?qa3 ?qa4 ?qa5 ?qa6 ?qa7 ?_); (case qa1 => (exact bb)); (case qa2 => exact own_bel hown2.out bb); (case qa3 => (first | rfl | (simp [boolCells]; done) | (simp [intCells]; done) | (simp; done) | (first | omega | (simp only [List.length_append, List.length_cons, List.length_nil]; omega)))); (case qa4 => exact Row.madeAt (by simp only [World.size_alloc]) rfl); (case qa5 => exact one_pt _); (case qa6 => (unfold maxLen; (first | omega | (simp only [List.length_append, List.length_cons, List.length_nil]; omega)))); (case qa7 => (first | omega | (simp only [List.length_append, List.length_cons, List.length_nil]; omega))); intro a' c' x' hown')
          replace hown' := Lib.hid hown'
          go_roundw
          case rel =>
            refine ⟨k + 1, L2 ++ [⟨sx * X + (xx - 5), sx * Y + (yy - 5)⟩], a', c', by omega, by go_num, by simp [hl2.out], rfl, fun p hp => ?_, by rw [ptsCells_one]; exact hown'.out, x', rfl⟩
            rcases List.mem_append.1 hp with hp | hp
            · exact hsm.out p hp
            · simp only [List.mem_singleton] at hp
              subst hp
              exact ⟨by dsimp only; omega, by dsimp only; omega, by dsimp only; omega, by dsimp only; omega⟩
          case measure => first | (simp [intOf]; done) | (simp [intOf]; omega) | omega
        · go_wp2_with (at_builtin; (refine wpList_append_later _ rfl _ _ _ rfl 72 ii _ 2 16 Tryz.underlying83 Jii.out.1 Jii.out.2.1 Jii.out.2.2.1 Jii.out.2.2.2 rfl (by decide) (z6.w) ?qa8 _ _ _ (ptsCells L2) rfl ?qa9 _ _ _ (ptCells ⟨sx * Y + (xx - 5), sx * X + (yy - 5)⟩) rfl ?qa10 ?qa11 ?qa12 ?qa13 ?qa14 ?_); (case qa8 => (exact bb)); (case qa9 => exact own_bel hown2.out bb); (case qa10 => (first | rfl | (simp [boolCells]; done) | (simp [intCells]; done) | (simp; done) | (first | omega | (simp only [List.length_append, List.length_cons, List.length_nil]; omega)))); (case qa11 => exact Row.madeAt (by simp only [World.size_alloc]) rfl); (case qa12 => exact one_pt _); (case qa13 => (unfold maxLen; (first | omega | (simp only [List.length_append, List.length_cons, List.length_nil]; omega)))); (case qa14 => (first | omega | (simp only [List.length_append, List.length_cons, List.length_nil]; omega))); intro a' c' x' hown')
          replace hown' := Lib.hid hown'
          go_roundw
          case rel =>
            refine ⟨k + 1, L2 ++ [⟨sx * Y + (xx - 5), sx * X + (yy - 5)⟩], a', c', by omega, by go_num, by simp [hl2.out], rfl, fun p hp => ?_, by rw [ptsCells_one]; exact hown'.out, x', rfl⟩
            rcases List.mem_append.1 hp with hp | hp
            · exact hsm.out p hp
            · simp only [List.mem_singleton] at hp
              subst hp
              exact ⟨by dsimp only; omega, by dsimp only; omega, by dsimp only; omega, by dsimp only; omega⟩
          case measure => first | (simp [intOf]; done) | (simp [intOf]; omega) | omega
      · obtain rfl : k = L.length := by omega
        have i2 : ¬ (L.length : Int) < (L.length : Int) := by omega
        have hO := owns_wide (lo' := w.heap.size) (hi' := z.w.heap.size) (Owns.of hown.out) (by omega) (Nat.le_refl _)
        have hB : Between g (g + 1) w z.w := btw_later z (hbl.out.trans hb6.out)
        replace hO := Lib.hid hO
        replace hB := Lib.hid hB
        clear hown
        go_wp2_with fail
        go_ret
        exact ⟨L2, a, L.length, c2, hsm.out, by omega, by omega, hl2.out, rfl, ⟨z.w, hB.out⟩, rfl, SrcOk.later z H6.out, hO.out⟩
end Go.Proofs.YtklcaphkfdlipaaGreatDoor

/- The draws of rings: any ring, rarely one that is not valid. -/
set_option linter.unusedSimpArgs false
set_option linter.unusedVariables false
namespace Go.Proofs.YtklcaphkfdlipaaGreatDoor
open Go.RowKit
/-- Some points, in memory of the draw's own. -/
def RetPtsD (w : World) (g : Nat) (e : Ending) (w' : World) : Prop :=
  ∃ (L : List Pt) (a : Option Addr) (n c : Nat), (∀ p ∈ L, SmP p) ∧ n ≤ 12 ∧ L.length = n ∧ n ≤ c ∧ c ≤ maxLen ∧ e = .returned (.slice a n c) ∧ (∀ q : Addr, a = some q → w.heap.size ≤ q.block ∧ q.block < w'.heap.size) ∧ ∃ z : After w g (g + 1), w' = z.w ∧ SrcOk z.w g ∧ Row z.w a (ptsCells L)
theorem own_caps {w : World} {base e n c : Nat} {a : Option Addr} {xs : List Value} (h : w.ownsRow base e 2 (.slice a n c) n xs) : n ≤ c ∧ c ≤ maxLen := by
  rcases h.2 with ⟨h0, h1⟩ | ⟨g', cap', cur, hv, hg, hb, h1, h2, h3, h4⟩
  · cases h0; exact ⟨by omega, by unfold maxLen; omega⟩
  · cases hv; exact ⟨h1, h2⟩
theorem RetPtsD.mk {w w' : World} {g : Nat} {e : Ending} {L : List Pt} {a : Option Addr} {n c : Nat} (h : ∀ p ∈ L, SmP p) (hn : n ≤ 12) (hl : L.length = n) (he : e = .returned (.slice a n c)) (hb : Between g (g + 1) w w') (hs : SrcOk w' g) (ho : Owns w' w.heap.size w'.heap.size 72 2 n a c (ptsCells L)) : RetPtsD w g e w' :=
  ⟨L, a, n, c, h, hn, hl, (own_caps ho.own).1, (own_caps ho.own).2, he, fun q hq => ⟨ho.ge q hq, ho.lt q hq⟩, ⟨w', hb⟩, rfl, hs, ho.row⟩
theorem RetPtsD.mkTwo {w w' : World} {g : Nat} {e : Ending} {L : List Pt} {a : Option Addr} {n c : Nat} (h : ∀ p ∈ L, SmP p) (hn : n ≤ 12) (h2 : 2 ≤ n) (hl : L.length = n) (he : e = .returned (.slice a 2 c)) (hb : Between g (g + 1) w w') (hs : SrcOk w' g) (ho : Owns w' w.heap.size w'.heap.size 72 2 n a c (ptsCells L)) : RetPtsD w g e w' := by
  have hc := own_caps ho.own
  refine ⟨L.take 2, a, 2, c, fun p hp => h p (List.mem_of_mem_take hp), by omega, by simp; omega, by omega, hc.2, he, fun q hq => ⟨ho.ge q hq, ho.lt q hq⟩, ⟨w', hb⟩, rfl, hs, ?_⟩
  intro j v hj
  refine ho.row j v ?_
  have e : ptsCells L = ptsCells (L.take 2) ++ ptsCells (L.drop 2) := by rw [← ptsCells_append, List.take_append_drop]
  rw [e]
  exact (List.getElem?_append_left (List.getElem?_eq_some_iff.1 hj).1).trans hj
theorem pts_set {q : Pt} : ∀ {M : List Pt} {i : Nat}, i < M.length → ptsCells (M.set i q) = ((ptsCells M).set (i * 2) (.int .i64 q.x)).set (i * 2 + 1) (.int .i64 q.y)
  | [], i, h => by simp at h
  | d :: M, 0, h => rfl
  | d :: M, i + 1, h => by
    have ih := pts_set (q := q) (M := M) (i := i) (by simpa using h)
    rw [show (i + 1) * 2 = i * 2 + 2 by omega, show i * 2 + 2 + 1 = (i * 2 + 1) + 2 by omega]
    show ptCells d ++ ptsCells (M.set i q) = _
    rw [ih]
    rfl
theorem pt_cells {W : World} {lo hi g n c i : Nat} {xs : List Value} (h : Owns W lo hi 72 2 n (some ⟨g, 0, none⟩) c xs) (hi' : i < n) (j : Nat) (hj : j < 2) : (∃ u, W.cell? ⟨g, i * 2 + j, none⟩ = some u) ∧ W.frozen? ⟨g, i * 2 + j, none⟩ = false := by
  have h1 := h.own.1
  obtain ⟨g0, e0, -, -, kc, kf⟩ := h.at_ (j := i * 2 + j) (by omega)
  cases e0
  exact ⟨⟨_, by rw [kc, List.getElem?_eq_getElem (by omega)]⟩, kf⟩
theorem smP_snoc {L : List Pt} {x : Pt} (h : ∀ y ∈ L, SmP y) (hx : SmP x) : ∀ y ∈ L ++ [x], SmP y := by
  intro y hy
  rcases List.mem_append.1 hy with hy | hy
  · exact h y hy
  · simp only [List.mem_cons, List.not_mem_nil, or_false] at hy
    subst hy
    exact hx
theorem smP_set {L : List Pt} {x : Pt} {i : Nat} (h : ∀ y ∈ L, SmP y) (hx : SmP x) : ∀ y ∈ L.set i x, SmP y := by
  intro y hy
  rcases List.mem_or_eq_of_mem_set hy with hy | rfl
  · exact h y hy
  · exact hx
set_option maxRecDepth 8000 in
set_option maxHeartbeats 8000000 in
theorem sRingDraw_any (g : Nat) (w : World) (h : SrcOk w g) : Calls Tryz.prog 148 #[.pointer (some ⟨g, 0, none⟩)] w (RetPtsD w g) := by
  have hg := h.lt
  have H0 := Lib.hid h
  obtain ⟨ii, j1, j2, j3, j4⟩ := info_pt'
  have Jii := Lib.hid (And.intro j1 (And.intro j2 (And.intro j3 j4)))
  clear h j1 j2 j3 j4
  go_enter Tryz.func148, Tryz.ntmps148
  go_wp2_with fail
  with_reducible refine (next_any g 4 _ (by (repeat (first | (with_reducible exact H0.out) | (with_reducible refine SrcOk.alloc ?_ _) | (with_reducible refine SrcOk.set ?_ ?_ _) | (with_reducible refine SrcOk.drewN ?_ _) | (with_reducible refine SrcOk.drew ?_) | (with_reducible refine SrcOk.later _ ?_) | (with_reducible refine SrcOk.after _ ?_ ?_) | (dsimp only; omega) | omega | ((try simp only [World.size_alloc, World.size_setCell, World.size_drew]); omega))))).mono ?_
  rintro e w' ⟨r, hdraw, rfl, z1, rfl, hsrc⟩
  have hsz1 := z1.btw.size
  (try simp only [World.size_alloc, World.size_setCell, World.size_drew] at hsz1)
  have H1 := Lib.hid hsrc
  clear hsrc
  obtain ⟨r0, r1⟩ := hdraw
  have u1 : w.heap.size ≤ z1.w.heap.size := (by omega)
  by_cases hr0 : r = 0
  · subst hr0
    go_wp2_with fail
    with_reducible refine (next_any g 3 _ (by (repeat (first | (with_reducible exact H1.out) | (with_reducible refine SrcOk.alloc ?_ _) | (with_reducible refine SrcOk.set ?_ ?_ _) | (with_reducible refine SrcOk.drewN ?_ _) | (with_reducible refine SrcOk.drew ?_) | (with_reducible refine SrcOk.later _ ?_) | (with_reducible refine SrcOk.after _ ?_ ?_) | (dsimp only; omega) | omega | ((try simp only [World.size_alloc, World.size_setCell, World.size_drew]); omega))))).mono ?_
    rintro e w' ⟨k0, hdraw, rfl, z2, rfl, hsrc⟩
    have hsz2 := z2.btw.size
    (try simp only [World.size_alloc, World.size_setCell, World.size_drew] at hsz2)
    have H2 := Lib.hid hsrc
    clear hsrc
    obtain ⟨k00, k01⟩ := hdraw
    have u2 : w.heap.size ≤ z2.w.heap.size := (by omega)
    have u3 : z1.w.heap.size + 1 ≤ z2.w.heap.size := (by omega)
    obtain ⟨K, rfl⟩ := Int.eq_ofNat_of_zero_le k00
    have hO0 : Owns z2.w w.heap.size z2.w.heap.size 72 2 0 (some ⟨z1.w.heap.size, 0, none⟩) 0 (ptsCells []) := by
      have h0 : Owns (z1.w.alloc (.cells #[] 72)) z1.w.heap.size (z1.w.heap.size + 1) 72 2 0 (some ⟨z1.w.heap.size, 0, none⟩) 0 (ptsCells []) := by
        have := Owns.of (World.ownsRow_lit (base := z1.w.heap.size) (e := 72) (size := 2) z1.w #[] 0 (Nat.le_refl _) (by unfold maxLen; omega) rfl)
        rw [show ptsCells [] = [] from rfl]
        simpa [World.size_alloc] using this
      refine owns_wide (lo := z1.w.heap.size) (hi := z1.w.heap.size + 1) ?_ (by omega) (by omega)
      (repeat (first | (with_reducible exact h0) | (with_reducible refine owns_after _ ?_ ?_) | (with_reducible refine owns_later _ ?_ ?_) | (with_reducible refine owns_alloc ?_ _) | (with_reducible refine owns_set ?_ ?_ _) | (with_reducible refine Owns.drewN ?_ _) | (with_reducible refine owns_drew ?_) | (dsimp only; omega) | omega | ((try simp only [World.size_alloc, World.size_setCell, World.size_drew]); omega)))
    have hB1 : Between g (g + 1) w z2.w := by (repeat (first | (with_reducible exact Between.refl _ _ _) | (with_reducible refine Between.drew ?_) | (with_reducible refine Between.drewN ?_ _) | (with_reducible refine btw_own ?_ ?_ _) | (with_reducible refine btw_later _ ?_) | (with_reducible refine btw_alloc ?_ _) | (with_reducible refine btw_after _ ?_) | (with_reducible refine btw_beyond _ ?_ ?_) | (with_reducible refine Aft.btw _ ?_ ?_) | (with_reducible assumption) | (dsimp only; omega) | omega | ((try simp only [World.size_alloc, World.size_setCell, World.size_drew]); omega)))
    replace hO0 := Lib.hid hO0
    replace hB1 := Lib.hid hB1
    go_wp2_with fail
    go_loopw [3, 4] (fun o i wr => ∃ (L : List Pt) (k : Nat) (a : Option Addr) (c : Nat), L.length + k ≤ 5 ∧ (∀ x ∈ L, SmP x) ∧ i = .int .i64 k ∧ o = .slice a L.length c ∧ Owns wr w.heap.size wr.heap.size 72 2 L.length a c (ptsCells L) ∧ SrcOk wr g ∧ Between g (g + 1) w wr) (fun _ i _ => (intOf i).toNat)
    case atStart => exact ⟨[], 3 + K, _, _, by simp only [List.length_nil]; omega, by simp, by go_num, rfl, hO0.out, H2.out, hB1.out⟩
    case round =>
      obtain ⟨L, k, a, c, hLk, hok, rfl, rfl, ho, hs, hb⟩ := hrel
      obtain ⟨q, rfl⟩ := AfterC.mk hb
      have hqs := q.btw.size
      clear hb hO0 hB1 H1 H2
      replace hs := Lib.hid hs
      replace ho := Lib.hid ho
      replace hok := Lib.hid hok
      by_cases hk : 0 < k
      · have hk' : (k : Int) > 0 := by omega
        go_wp2_with fail
        with_reducible refine (sPtDraw_any g _ (by (repeat (first | (with_reducible exact hs.out) | (with_reducible refine SrcOk.alloc ?_ _) | (with_reducible refine SrcOk.set ?_ ?_ _) | (with_reducible refine SrcOk.drewN ?_ _) | (with_reducible refine SrcOk.drew ?_) | (with_reducible refine SrcOk.later _ ?_) | (with_reducible refine SrcOk.after _ ?_ ?_) | (dsimp only; omega) | omega | ((try simp only [World.size_alloc, World.size_setCell, World.size_drew]); omega))))).mono ?_
        rintro e w' ⟨x, hx, rfl, z3, rfl, hsrc⟩
        have H3 := Lib.hid hsrc
        have hs3 := z3.btw.size
        (try simp only [World.size_alloc, World.size_setCell, World.size_drew] at hs3)
        replace hx := Lib.hid hx
        clear hsrc
        go_wp2_with (at_builtin; (refine wpList_append_apart _ rfl _ _ _ rfl 72 ii _ 2 16 Tryz.underlying83 Jii.out.1 Jii.out.2.1 Jii.out.2.2.1 Jii.out.2.2.2 rfl (by decide) (w.heap.size) (q.w.heap.size) ?qb1 _ _ _ (ptsCells L) rfl ?qb2 ?qb8 _ _ _ (ptCells x) rfl ?qb3 ?qb4 ?qb5 ?qb6 ?qb7 ?_); (case qb1 => (first | (dsimp only; omega) | omega | (simp only [World.size_alloc, World.size_setCell, World.size_drew]; omega))); (case qb2 => exact ((by (repeat (first | (with_reducible exact ho.out) | (with_reducible refine owns_after _ ?_ ?_) | (with_reducible refine owns_later _ ?_ ?_) | (with_reducible refine owns_alloc ?_ _) | (with_reducible refine owns_set ?_ ?_ _) | (with_reducible refine Owns.drewN ?_ _) | (with_reducible refine owns_drew ?_) | (dsimp only; omega) | omega | ((try simp only [World.size_alloc, World.size_setCell, World.size_drew]); omega))) : Owns _ w.heap.size q.w.heap.size 72 2 L.length a c (ptsCells L))).own); (case qb8 => exact ho.out.lt); (case qb3 => (first | rfl | (simp [boolCells]; done) | (simp [intCells]; done) | (simp; done) | (first | omega | (simp only [List.length_append, List.length_cons, List.length_nil]; omega)))); (case qb4 => exact Row.made _ _ _); (case qb5 => exact one_pt _); (case qb6 => (unfold maxLen; (first | omega | (simp only [List.length_append, List.length_cons, List.length_nil]; omega)))); (case qb7 => (first | omega | (simp only [List.length_append, List.length_cons, List.length_nil]; omega))); intro a9 c9 x9 hown9 hat9; replace hat9 := Lib.hid hat9; replace hown9 := Lib.hid hown9; have hs9 := x9.btw.size; (try simp only [World.size_alloc, World.size_setCell, World.size_drew] at hs9))
        go_roundw
        case rel =>
          refine ⟨L ++ [x], k - 1, a9, c9, by simp; omega, smP_snoc hok.out hx.out, by rw [← show ((k - 1 : Nat) : Int) = (k : Int) - 1 by omega], by simp, ?_, ?_, ?_⟩
          · rw [ptsCells_one, show (L ++ [x]).length = L.length + 1 by simp]
            exact Owns.of hown9.out
          · (repeat (first | (with_reducible exact H3.out) | (with_reducible refine SrcOk.alloc ?_ _) | (with_reducible refine SrcOk.set ?_ ?_ _) | (with_reducible refine SrcOk.drewN ?_ _) | (with_reducible refine SrcOk.drew ?_) | (with_reducible refine SrcOk.later _ ?_) | (with_reducible refine SrcOk.after _ ?_ ?_) | (dsimp only; omega) | omega | ((try simp only [World.size_alloc, World.size_setCell, World.size_drew]); omega)))
          · (repeat (first | (with_reducible exact Between.refl _ _ _) | (with_reducible refine Between.drew ?_) | (with_reducible refine Between.drewN ?_ _) | (with_reducible refine btw_own ?_ ?_ _) | (with_reducible refine btw_later _ ?_) | (with_reducible refine btw_alloc ?_ _) | (with_reducible refine btw_after _ ?_) | (with_reducible refine btw_beyond _ ?_ ?_) | (with_reducible refine Aft.btw _ ?_ ?_) | (with_reducible assumption) | (dsimp only; omega) | omega | ((try simp only [World.size_alloc, World.size_setCell, World.size_drew]); omega)))
        case measure => simp [intOf]; omega
      · obtain rfl : k = 0 := by omega
        go_wp2_with fail
        refine bodyPost_ret (by simp [results, Tryz.results148, go_sem, ↓IntWalk.iteOmega, *]; try rfl) rfl ?_
        refine RetPtsD.mk hok.out (by omega) rfl rfl ?_ ?_ ?_
        · (repeat (first | (with_reducible exact Between.refl _ _ _) | (with_reducible refine Between.drew ?_) | (with_reducible refine Between.drewN ?_ _) | (with_reducible refine btw_own ?_ ?_ _) | (with_reducible refine btw_later _ ?_) | (with_reducible refine btw_alloc ?_ _) | (with_reducible refine btw_after _ ?_) | (with_reducible refine btw_beyond _ ?_ ?_) | (with_reducible refine Aft.btw _ ?_ ?_) | (with_reducible assumption) | (dsimp only; omega) | omega | ((try simp only [World.size_alloc, World.size_setCell, World.size_drew]); omega)))
        · (repeat (first | (with_reducible exact hs.out) | (with_reducible refine SrcOk.alloc ?_ _) | (with_reducible refine SrcOk.set ?_ ?_ _) | (with_reducible refine SrcOk.drewN ?_ _) | (with_reducible refine SrcOk.drew ?_) | (with_reducible refine SrcOk.later _ ?_) | (with_reducible refine SrcOk.after _ ?_ ?_) | (dsimp only; omega) | omega | ((try simp only [World.size_alloc, World.size_setCell, World.size_drew]); omega)))
        · exact ho.out
  · go_wp2_with fail
    with_reducible refine (sRingGood_any g _ (by (repeat (first | (with_reducible exact H1.out) | (with_reducible refine SrcOk.alloc ?_ _) | (with_reducible refine SrcOk.set ?_ ?_ _) | (with_reducible refine SrcOk.drewN ?_ _) | (with_reducible refine SrcOk.drew ?_) | (with_reducible refine SrcOk.later _ ?_) | (with_reducible refine SrcOk.after _ ?_ ?_) | (dsimp only; omega) | omega | ((try simp only [World.size_alloc, World.size_setCell, World.size_drew]); omega))))).mono ?_
    rintro e w' ⟨L, a, n, c, hL, h2, h12, hl, rfl, z2, rfl, hsrc, ho⟩
    have H2 := Lib.hid hsrc
    have hs2 := z2.btw.size
    (try simp only [World.size_alloc, World.size_setCell, World.size_drew] at hs2)
    obtain ⟨b, rfl, -, -, -, -⟩ := ho.at_ (j := 0) (by omega)
    have hb1 := ho.ge _ rfl
    have hb2 := ho.lt _ rfl
    dsimp only at hb1 hb2
    have HO := Lib.hid ho
    clear hsrc ho H1
    replace hL := Lib.hid hL
    have u2 : w.heap.size ≤ z2.w.heap.size := (by omega)
    go_wp2_with fail
    with_reducible refine (next_any g (n : Int) _ (by (repeat (first | (with_reducible exact H2.out) | (with_reducible refine SrcOk.alloc ?_ _) | (with_reducible refine SrcOk.set ?_ ?_ _) | (with_reducible refine SrcOk.drewN ?_ _) | (with_reducible refine SrcOk.drew ?_) | (with_reducible refine SrcOk.later _ ?_) | (with_reducible refine SrcOk.after _ ?_ ?_) | (dsimp only; omega) | omega | ((try simp only [World.size_alloc, World.size_setCell, World.size_drew]); omega))))).mono ?_
    rintro e w' ⟨k, hdraw, rfl, z3, rfl, hsrc⟩
    have hsz3 := z3.btw.size
    (try simp only [World.size_alloc, World.size_setCell, World.size_drew] at hsz3)
    have H3 := Lib.hid hsrc
    clear hsrc
    obtain ⟨k0, k1⟩ := hdraw
    obtain ⟨kn, rfl⟩ := Int.eq_ofNat_of_zero_le k0
    have hkn : kn < n := by omega
    have hkn' : (kn : Int) < (n : Int) := by omega
    go_wp2_with fail
    with_reducible refine (next_any g 24 _ (by (repeat (first | (with_reducible exact H3.out) | (with_reducible refine SrcOk.alloc ?_ _) | (with_reducible refine SrcOk.set ?_ ?_ _) | (with_reducible refine SrcOk.drewN ?_ _) | (with_reducible refine SrcOk.drew ?_) | (with_reducible refine SrcOk.later _ ?_) | (with_reducible refine SrcOk.after _ ?_ ?_) | (dsimp only; omega) | omega | ((try simp only [World.size_alloc, World.size_setCell, World.size_drew]); omega))))).mono ?_
    rintro e w' ⟨q, hdraw, rfl, z4, rfl, hsrc⟩
    have hsz4 := z4.btw.size
    (try simp only [World.size_alloc, World.size_setCell, World.size_drew] at hsz4)
    have H4 := Lib.hid hsrc
    clear hsrc
    obtain ⟨q0, q1⟩ := hdraw
    have u4 : z2.w.heap.size ≤ z4.w.heap.size := (by omega)
    have hB4 : Between g (g + 1) w z4.w := by (repeat (first | (with_reducible exact Between.refl _ _ _) | (with_reducible refine Between.drew ?_) | (with_reducible refine Between.drewN ?_ _) | (with_reducible refine btw_own ?_ ?_ _) | (with_reducible refine btw_later _ ?_) | (with_reducible refine btw_alloc ?_ _) | (with_reducible refine btw_after _ ?_) | (with_reducible refine btw_beyond _ ?_ ?_) | (with_reducible refine Aft.btw _ ?_ ?_) | (with_reducible assumption) | (dsimp only; omega) | omega | ((try simp only [World.size_alloc, World.size_setCell, World.size_drew]); omega)))
    have hO4 : Owns z4.w w.heap.size z4.w.heap.size 72 2 n (some ⟨b, 0, none⟩) c (ptsCells L) := by
      refine owns_wide (lo := z1.w.heap.size) (hi := z2.w.heap.size) ?_ (by omega) (by omega)
      (repeat (first | (with_reducible exact HO.out) | (with_reducible refine owns_after _ ?_ ?_) | (with_reducible refine owns_later _ ?_ ?_) | (with_reducible refine owns_alloc ?_ _) | (with_reducible refine owns_set ?_ ?_ _) | (with_reducible refine Owns.drewN ?_ _) | (with_reducible refine owns_drew ?_) | (dsimp only; omega) | omega | ((try simp only [World.size_alloc, World.size_setCell, World.size_drew]); omega)))
    obtain ⟨hcp, hcm⟩ := own_caps hO4.own
    have h2c : 2 ≤ c := by omega
    replace hB4 := Lib.hid hB4
    replace hO4 := Lib.hid hO4
    clear HO
    rcases (show q = 0 ∨ q = 1 ∨ 2 ≤ q by omega) with rfl | rfl | hq2
    · go_wp2_with fail
      with_reducible refine (sPtDraw_any g _ (by (repeat (first | (with_reducible exact H4.out) | (with_reducible refine SrcOk.alloc ?_ _) | (with_reducible refine SrcOk.set ?_ ?_ _) | (with_reducible refine SrcOk.drewN ?_ _) | (with_reducible refine SrcOk.drew ?_) | (with_reducible refine SrcOk.later _ ?_) | (with_reducible refine SrcOk.after _ ?_ ?_) | (dsimp only; omega) | omega | ((try simp only [World.size_alloc, World.size_setCell, World.size_drew]); omega))))).mono ?_
      rintro e w' ⟨x, hx, rfl, z5, rfl, hsrc⟩
      have H5 := Lib.hid hsrc
      have hs5 := z5.btw.size
      (try simp only [World.size_alloc, World.size_setCell, World.size_drew] at hs5)
      have hO5 : Owns z5.w w.heap.size z5.w.heap.size 72 2 n (some ⟨b, 0, none⟩) c (ptsCells L) := by
        refine owns_wide (lo := w.heap.size) (hi := z4.w.heap.size) ?_ (by omega) (by omega)
        (repeat (first | (with_reducible exact hO4.out) | (with_reducible refine owns_after _ ?_ ?_) | (with_reducible refine owns_later _ ?_ ?_) | (with_reducible refine owns_alloc ?_ _) | (with_reducible refine owns_set ?_ ?_ _) | (with_reducible refine Owns.drewN ?_ _) | (with_reducible refine owns_drew ?_) | (dsimp only; omega) | omega | ((try simp only [World.size_alloc, World.size_setCell, World.size_drew]); omega)))
      have hB5 : Between g (g + 1) w z5.w := by (repeat (first | (with_reducible exact Between.refl _ _ _) | (with_reducible refine Between.drew ?_) | (with_reducible refine Between.drewN ?_ _) | (with_reducible refine btw_own ?_ ?_ _) | (with_reducible refine btw_later _ ?_) | (with_reducible refine btw_alloc ?_ _) | (with_reducible refine btw_after _ ?_) | (with_reducible refine btw_beyond _ ?_ ?_) | (with_reducible refine Aft.btw _ ?_ ?_) | (with_reducible assumption) | (dsimp only; omega) | omega | ((try simp only [World.size_alloc, World.size_setCell, World.size_drew]); omega)))
      obtain ⟨⟨u0, c0⟩, f0⟩ := pt_cells hO5 hkn 0 (by omega)
      obtain ⟨⟨u1', c1⟩, f1⟩ := pt_cells hO5 hkn 1 (by omega)
      simp only [Nat.add_zero] at c0 f0
      have hset := Lib.hid (pts_set (q := x) (M := L) (i := kn) (by omega))
      replace hO5 := Lib.hid hO5
      replace hB5 := Lib.hid hB5
      replace hx := Lib.hid hx
      clear hsrc hO4 hB4 H4
      go_wp2_with fail
      refine bodyPost_ret (by simp [results, Tryz.results148, go_sem, ↓IntWalk.iteOmega, *]; try rfl) rfl ?_
      refine RetPtsD.mk (L := L.set kn x) (smP_set hL.out hx.out) h12 (by simp [hl]) rfl ?_ ?_ ?_
      · (repeat (first | (with_reducible exact Between.refl _ _ _) | (with_reducible refine Between.drew ?_) | (with_reducible refine Between.drewN ?_ _) | (with_reducible refine btw_own ?_ ?_ _) | (with_reducible refine btw_later _ ?_) | (with_reducible refine btw_alloc ?_ _) | (with_reducible refine btw_after _ ?_) | (with_reducible refine btw_beyond _ ?_ ?_) | (with_reducible refine Aft.btw _ ?_ ?_) | (with_reducible assumption) | (dsimp only; omega) | omega | ((try simp only [World.size_alloc, World.size_setCell, World.size_drew]); omega)))
      · (repeat (first | (with_reducible exact H5.out) | (with_reducible refine SrcOk.alloc ?_ _) | (with_reducible refine SrcOk.set ?_ ?_ _) | (with_reducible refine SrcOk.drewN ?_ _) | (with_reducible refine SrcOk.drew ?_) | (with_reducible refine SrcOk.later _ ?_) | (with_reducible refine SrcOk.after _ ?_ ?_) | (dsimp only; omega) | omega | ((try simp only [World.size_alloc, World.size_setCell, World.size_drew]); omega)))
      · rw [hset.out]
        exact owns_wide (lo := w.heap.size) (hi := z5.w.heap.size) ((hO5.out.set _).set _) (Nat.le_refl _) (by simp only [World.size_setCell]; omega)
    · go_wp2_with fail
      refine bodyPost_ret (by simp [results, Tryz.results148, go_sem, ↓IntWalk.iteOmega, *]; try rfl) rfl ?_
      refine RetPtsD.mkTwo hL.out h12 h2 hl rfl ?_ ?_ ?_
      · (repeat (first | (with_reducible exact Between.refl _ _ _) | (with_reducible refine Between.drew ?_) | (with_reducible refine Between.drewN ?_ _) | (with_reducible refine btw_own ?_ ?_ _) | (with_reducible refine btw_later _ ?_) | (with_reducible refine btw_alloc ?_ _) | (with_reducible refine btw_after _ ?_) | (with_reducible refine btw_beyond _ ?_ ?_) | (with_reducible refine Aft.btw _ ?_ ?_) | (with_reducible assumption) | (dsimp only; omega) | omega | ((try simp only [World.size_alloc, World.size_setCell, World.size_drew]); omega)))
      · (repeat (first | (with_reducible exact H4.out) | (with_reducible refine SrcOk.alloc ?_ _) | (with_reducible refine SrcOk.set ?_ ?_ _) | (with_reducible refine SrcOk.drewN ?_ _) | (with_reducible refine SrcOk.drew ?_) | (with_reducible refine SrcOk.later _ ?_) | (with_reducible refine SrcOk.after _ ?_ ?_) | (dsimp only; omega) | omega | ((try simp only [World.size_alloc, World.size_setCell, World.size_drew]); omega)))
      · exact hO4.out
    · have e0 : (q == 0) = false := by rw [beq_eq_false_iff_ne]; omega
      have e1 : (q == 1) = false := by rw [beq_eq_false_iff_ne]; omega
      go_wp2_with fail
      refine bodyPost_ret (by simp [results, Tryz.results148, go_sem, ↓IntWalk.iteOmega, *]; try rfl) rfl ?_
      refine RetPtsD.mk hL.out h12 hl rfl ?_ ?_ ?_
      · (repeat (first | (with_reducible exact Between.refl _ _ _) | (with_reducible refine Between.drew ?_) | (with_reducible refine Between.drewN ?_ _) | (with_reducible refine btw_own ?_ ?_ _) | (with_reducible refine btw_later _ ?_) | (with_reducible refine btw_alloc ?_ _) | (with_reducible refine btw_after _ ?_) | (with_reducible refine btw_beyond _ ?_ ?_) | (with_reducible refine Aft.btw _ ?_ ?_) | (with_reducible assumption) | (dsimp only; omega) | omega | ((try simp only [World.size_alloc, World.size_setCell, World.size_drew]); omega)))
      · (repeat (first | (with_reducible exact H4.out) | (with_reducible refine SrcOk.alloc ?_ _) | (with_reducible refine SrcOk.set ?_ ?_ _) | (with_reducible refine SrcOk.drewN ?_ _) | (with_reducible refine SrcOk.drew ?_) | (with_reducible refine SrcOk.later _ ?_) | (with_reducible refine SrcOk.after _ ?_ ?_) | (dsimp only; omega) | omega | ((try simp only [World.size_alloc, World.size_setCell, World.size_drew]); omega)))
      · exact hO4.out
end Go.Proofs.YtklcaphkfdlipaaGreatDoor

/- Points out of a list of numbers: some points. -/
set_option linter.unusedSimpArgs false
set_option linter.unusedVariables false
namespace Go.Proofs.YtklcaphkfdlipaaGreatDoor
open Go.RowKit
/-- Some points, in memory of the call's own, with coordinates between lo and hi. -/
def RetPtsN (w : World) (m : Nat) (lo hi : Int) (e : Ending) (w' : World) : Prop :=
  ∃ (L : List Pt) (a : Option Addr) (n c : Nat), (∀ p ∈ L, lo ≤ p.x ∧ p.x ≤ hi ∧ lo ≤ p.y ∧ p.y ≤ hi) ∧ n ≤ m ∧ L.length = n ∧ e = .returned (.slice a n c) ∧ w'.ownsRow w.heap.size 72 2 (.slice a n c) n (ptsCells L) ∧ ∃ z : Later w, w' = z.w
set_option maxRecDepth 8000 in
set_option maxHeartbeats 4000000 in
theorem l17Points_any (l : List Int) (lo hi : Int) (a : Option Addr) (n c : Nat) (w : World) (hn : l.length = n) (hm : n ≤ 100) (hl : ∀ x ∈ l, lo ≤ x ∧ x ≤ hi) (hr : Row w a (intCells l)) :
    Calls Tryz.prog 147 #[.slice a n c] w (RetPtsN w n lo hi) := by
  subst hn
  obtain ⟨ii, j1, j2, j3, j4⟩ := info_pt'
  have Jii := Lib.hid (And.intro j1 (And.intro j2 (And.intro j3 j4)))
  have HL := Lib.hid (fun (k : Nat) (h : k < l.length) => hl _ (List.getElem_mem h))
  have hlit := Lib.hid (fun (W : World) (h : w.heap.size ≤ W.heap.size) => World.ownsRow_lit (base := w.heap.size) (e := 72) (size := 2) W #[] 0 h (by unfold maxLen; omega) rfl)
  replace hr := Lib.hid hr
  clear hl j1 j2 j3 j4
  go_enter Tryz.func147, Tryz.ntmps147
  go_wp2_with fail
  go_loopw [3, 4] (fun t3 t4 wr => ∃ (j k : Nat) (L : List Pt) (a3 : Option Addr) (c3 : Nat), j ≤ l.length + 1 ∧ j = 2 * k ∧ t4 = .int .i64 j ∧ t3 = .slice a3 k c3 ∧ L.length = k ∧ (∀ p ∈ L, lo ≤ p.x ∧ p.x ≤ hi ∧ lo ≤ p.y ∧ p.y ≤ hi) ∧ wr.ownsRow w.heap.size 72 2 (.slice a3 k c3) k (ptsCells L) ∧ ∃ z : Later w, wr = z.w) (fun _ t4 _ => l.length + 2 - (intOf t4).toNat)
  case atStart => exact ⟨0, 0, [], _, 0, by omega, rfl, rfl, rfl, rfl, (fun p h => by cases h), hlit.out _ (by omega), LaterC.mk bb⟩
  case round =>
    obtain ⟨j, k, L, a3, c3, hk, hjk, rfl, rfl, hlk, hL, hown, z, rfl⟩ := hrel
    replace hjk := Lib.hid hjk
    have hkj : k ≤ j := by have := hjk.out; omega
    have hzz := z.bel.size
    replace hown := Lib.hid hown
    replace hL := Lib.hid hL
    have hlk' := Lib.hid hlk
    by_cases hlt : j + 1 < l.length
    · obtain ⟨b1, o1, rfl, hb1, q1⟩ := hr.out.int (k := j) (by omega)
      obtain ⟨b2, o2, he, hb2, q2⟩ := hr.out.int (k := j + 1) hlt
      cases he
      have B1 := HL.out j (by omega)
      have B2 := HL.out (j + 1) hlt
      generalize l[j]'(by omega) = x at *
      generalize l[j + 1]'hlt = y at *
      have z1 : b1 < z.w.heap.size := by omega
      have hcl := length_ptsCells L
      rw [hlk] at hcl
      have hi1 : (j : Int) + 1 < (l.length : Int) := by omega
      have hi2 : (j : Int) < (l.length : Int) := by omega
      go_wp2_with fail
      refine wp_region_plan2 [(0, true), (1, true), (2, true), (3, true), (4, true), (5, true), (6, true), (7, true), (8, true), (9, true), (10, true), (11, false), (12, false), (13, true)] (C := LaterC (w)) (by kernel_rfl) (by kernel_rfl) (by kernel_rfl) rfl (fun _ _ d _ _ h => by cases d <;> exact h) (LaterC.mk (bb)) ?_
      first | (refine plan_quiet nth0 rfl ?_; intro KP hKP; go_big_quiet_op; go_big_quiet_on) | (refine plan_skip_q nth0 rfl rfl ?_; simp only [Act.put, List.setIfInBounds_toArray, List.set_cons_zero, List.set_cons_succ])
      first | (refine plan_quiet nth1 rfl ?_; intro KP hKP; go_big_quiet_op; go_big_quiet_on) | (refine plan_skip_q nth1 rfl rfl ?_; simp only [Act.put, List.setIfInBounds_toArray, List.set_cons_zero, List.set_cons_succ])
      first | (refine plan_quiet nth2 rfl ?_; intro KP hKP; go_big_quiet_op; go_big_quiet_on) | (refine plan_skip_q nth2 rfl rfl ?_; simp only [Act.put, List.setIfInBounds_toArray, List.set_cons_zero, List.set_cons_succ])
      first | (refine plan_quiet nth3 rfl ?_; intro KP hKP; go_big_quiet_op; go_big_quiet_on) | (refine plan_skip_q nth3 rfl rfl ?_; simp only [Act.put, List.setIfInBounds_toArray, List.set_cons_zero, List.set_cons_succ])
      first | (refine plan_quiet nth4 rfl ?_; intro KP hKP; go_big_quiet_op; go_big_quiet_on) | (refine plan_skip_q nth4 rfl rfl ?_; simp only [Act.put, List.setIfInBounds_toArray, List.set_cons_zero, List.set_cons_succ])
      first | (refine plan_quiet nth5 rfl ?_; intro KP hKP; go_big_quiet_op; go_big_quiet_on) | (refine plan_skip_q nth5 rfl rfl ?_; simp only [Act.put, List.setIfInBounds_toArray, List.set_cons_zero, List.set_cons_succ])
      first | (refine plan_quiet nth6 rfl ?_; intro KP hKP; go_big_quiet_op; go_big_quiet_on) | (refine plan_skip_q nth6 rfl rfl ?_; simp only [Act.put, List.setIfInBounds_toArray, List.set_cons_zero, List.set_cons_succ])
      first | (refine plan_quiet nth7 rfl ?_; intro KP hKP; go_big_quiet_op; go_big_quiet_on) | (refine plan_skip_q nth7 rfl rfl ?_; simp only [Act.put, List.setIfInBounds_toArray, List.set_cons_zero, List.set_cons_succ])
      first | (refine plan_quiet nth8 rfl ?_; intro KP hKP; go_big_quiet_op; go_big_quiet_on) | (refine plan_skip_q nth8 rfl rfl ?_; simp only [Act.put, List.setIfInBounds_toArray, List.set_cons_zero, List.set_cons_succ])
      first | (refine plan_quiet nth9 rfl ?_; intro KP hKP; go_big_quiet_op; go_big_quiet_on) | (refine plan_skip_q nth9 rfl rfl ?_; simp only [Act.put, List.setIfInBounds_toArray, List.set_cons_zero, List.set_cons_succ])
      first | (refine plan_quiet nth10 rfl ?_; intro KP hKP; go_big_quiet_op; go_big_quiet_on) | (refine plan_skip_q nth10 rfl rfl ?_; simp only [Act.put, List.setIfInBounds_toArray, List.set_cons_zero, List.set_cons_succ])
      first | (refine plan_loud nth11 rfl ?_; intro KP hKP; go_wp2_with fail; refine hKP _ _ (LaterC.mk bb) ?_; clear hKP KP) | (refine plan_skip nth11 rfl rfl (LaterC.mk bb) ?_; simp only [Act.put, List.setIfInBounds_toArray, List.set_cons_zero, List.set_cons_succ])
      refine plan_loud nth12 rfl ?_
      intro KP hKP
      ((refine oper_append_later _ _ _ _ rfl 72 ii _ 2 16 Tryz.underlying83 Jii.out.1 Jii.out.2.1 Jii.out.2.2.1 Jii.out.2.2.2 rfl (by decide) (w) ?qa1 _ _ _ (ptsCells L) rfl ?qa2 _ _ _ (ptCells ⟨x, y⟩) rfl ?qa3 ?qa4 ?qa5 ?qa6 ?qa7 ?_); (case qa1 => (exact bb)); (case qa2 => exact own_bel hown.out bb); (case qa3 => (first | rfl | (simp [boolCells]; done) | (simp [intCells]; done) | (simp; done) | (first | omega | (simp only [List.length_append, List.length_cons, List.length_nil]; omega)))); (case qa4 => exact Row.madeAt (by simp only [World.size_alloc, World.size_drew]; try rfl) rfl); (case qa5 => exact one_pt _); (case qa6 => (unfold maxLen; (first | omega | (simp only [List.length_append, List.length_cons, List.length_nil]; omega)))); (case qa7 => (first | omega | (simp only [List.length_append, List.length_cons, List.length_nil]; omega))); intro a9 c9 x9 hown9; replace hown9 := Lib.hid hown9)
      refine hKP _ _ (LaterC.mk bb) ?_
      clear hKP KP
      simp only [Act.put, List.setIfInBounds_toArray, List.set_cons_zero, List.set_cons_succ]
      refine plan_quiet nth13 rfl ?_
      intro KP hKP
      go_big_quiet_op
      go_big_quiet_on
      refine plan_nil ?_
      go_wp2_with fail
      go_roundw
      case rel =>
        refine ⟨j + 2, k + 1, L ++ [⟨x, y⟩], a9, c9, by omega, by rw [hjk.out]; omega, by go_num, rfl, by simp [hlk'.out], fun p hp => ?_, by rw [ptsCells_one]; exact hown9.out, x9, rfl⟩
        rcases List.mem_append.1 hp with hp | hp
        · exact hL.out p hp
        · rw [List.mem_singleton.1 hp]; exact ⟨B1.1, B1.2, B2.1, B2.2⟩
      case measure => first | (simp [intOf]; done) | (simp [intOf]; omega) | omega
    · have hi1 : ¬ (j : Int) + 1 < (l.length : Int) := by omega
      go_wp2_with fail
      go_ret
      exact ⟨L, a3, k, c3, hL.out, by have := hjk.out; omega, hlk'.out, rfl, hown.out, z, rfl⟩
end Go.Proofs.YtklcaphkfdlipaaGreatDoor

import Derived.Test.YtflcfdiochohgaaDoorDrawE
/- What the law on circles draws: some claims, a place and a year. -/
set_option linter.unusedSimpArgs false
set_option linter.unusedVariables false
namespace Go.Proofs.YtflcfdiochohgaaDoor
open Go.RowKit
/-- Some claims, a text and a number. -/
def RetLstSP (w : World) (e : Ending) (w' : World) : Prop :=
  ∃ (L : List Clm) (a : Option Addr) (c : Nat) (s : ByteArray) (i : Int), (∀ x ∈ L, OkC x) ∧ L.length ≤ 100 ∧ s.size ≤ 100 ∧ e = .returned (.tuple #[.slice a L.length c, .string s, .int .i64 i]) ∧ ∃ z : Later w, w' = z.w ∧ Owns z.w w.heap.size z.w.heap.size 34 7 L.length a c (clmsCells L)
theorem RetLstSP.mk {w w' : World} {e : Ending} {L : List Clm} {a : Option Addr} {c : Nat} {s : ByteArray} {i : Int} (hok : ∀ x ∈ L, OkC x) (hl : L.length ≤ 100) (hs : s.size ≤ 100) (he : e = .returned (.tuple #[.slice a L.length c, .string s, .int .i64 i])) (hb : Below w.heap.size w w') (ho : Owns w' w.heap.size w'.heap.size 34 7 L.length a c (clmsCells L)) : RetLstSP w e w' := ⟨L, a, c, s, i, hok, hl, hs, he, ⟨w', hb⟩, rfl, ho⟩
def RetIntD (w : World) (g : Nat) (e : Ending) (w' : World) : Prop := ∃ r : Int, e = .returned (.int .i64 r) ∧ ∃ z : After w g (g + 1), w' = z.w ∧ SrcOk z.w g
theorem RetIntD.mk {w w' : World} {g : Nat} {e : Ending} (r : Int) (he : e = .returned (.int .i64 r)) (hb : Between g (g + 1) w w') (hs : SrcOk w' g) : RetIntD w g e w' := ⟨r, he, ⟨w', hb⟩, rfl, hs⟩
set_option maxHeartbeats 4000000 in
theorem sYearD_any (g : Nat) (w : World) (h : SrcOk w g) : Calls Tryd.prog 18 #[.pointer (some ⟨g, 0, none⟩)] w (RetIntD w g) := by
  have hg := h.lt
  have H0 := Lib.hid h
  clear h
  go_enter Tryd.func18, Tryd.ntmps18
  go_wp2_with fail
  with_reducible refine (next_any g 50 _ (by (repeat (first | (with_reducible exact H0.out) | (with_reducible refine SrcOk.alloc ?_ _) | (with_reducible refine SrcOk.set ?_ ?_ _) | (with_reducible refine SrcOk.drewN ?_ _) | (with_reducible refine SrcOk.drew ?_) | (with_reducible refine SrcOk.later _ ?_) | (with_reducible refine SrcOk.after _ ?_ ?_) | (dsimp only; omega) | omega | ((try simp only [World.size_alloc, World.size_setCell, World.size_drew]); omega))))).mono ?_
  rintro e w' ⟨p1, hdraw, rfl, z1, rfl, hsrc⟩
  have hsz1 := z1.btw.size
  (try simp only [World.size_alloc, World.size_setCell, World.size_drew] at hsz1)
  have H1 := Lib.hid hsrc
  clear hsrc
  obtain ⟨p10, p11⟩ := hdraw
  go_wp2_with fail
  with_reducible refine (next_any g 110 _ (by (repeat (first | (with_reducible exact H1.out) | (with_reducible refine SrcOk.alloc ?_ _) | (with_reducible refine SrcOk.set ?_ ?_ _) | (with_reducible refine SrcOk.drewN ?_ _) | (with_reducible refine SrcOk.drew ?_) | (with_reducible refine SrcOk.later _ ?_) | (with_reducible refine SrcOk.after _ ?_ ?_) | (dsimp only; omega) | omega | ((try simp only [World.size_alloc, World.size_setCell, World.size_drew]); omega))))).mono ?_
  rintro e w' ⟨p2, hdraw, rfl, z2, rfl, hsrc⟩
  have hsz2 := z2.btw.size
  (try simp only [World.size_alloc, World.size_setCell, World.size_drew] at hsz2)
  have H2 := Lib.hid hsrc
  clear hsrc
  obtain ⟨p20, p21⟩ := hdraw
  go_wp2_with fail
  with_reducible refine (pick_any g [1200 + p1, 1200 + p2, 1215, 3001, 1220, 1230] _ 6 6 _ (by (repeat (first | (with_reducible exact H2.out) | (with_reducible refine SrcOk.alloc ?_ _) | (with_reducible refine SrcOk.set ?_ ?_ _) | (with_reducible refine SrcOk.drewN ?_ _) | (with_reducible refine SrcOk.drew ?_) | (with_reducible refine SrcOk.later _ ?_) | (with_reducible refine SrcOk.after _ ?_ ?_) | (dsimp only; omega) | omega | ((try simp only [World.size_alloc, World.size_setCell, World.size_drew]); omega)))) rfl (by omega) (by omega) (Row.madeAt rfl (by simp [intCells])) (fun p hp => by cases hp; dsimp only; omega)).mono ?_
  rintro e w' ⟨v, hmem, rfl, z3, rfl, hsrc⟩
  have hsz3 := z3.btw.size
  (try simp only [World.size_alloc, World.size_setCell, World.size_drew] at hsz3)
  have H3 := Lib.hid hsrc
  clear hsrc
  simp only [List.mem_cons, List.not_mem_nil, or_false] at hmem
  have hv_v := Lib.hid hmem
  clear hmem
  clear hv_v
  go_wp2_with fail
  refine bodyPost_ret (by simp [results, Tryd.results18, go_sem, ↓IntWalk.iteOmega, *]; try rfl) rfl ?_
  refine RetIntD.mk _ rfl ?_ ?_
  · (repeat (first | (with_reducible exact Between.refl _ _ _) | (with_reducible refine Between.drew ?_) | (with_reducible refine Between.drewN ?_ _) | (with_reducible refine btw_own ?_ ?_ _) | (with_reducible refine btw_later _ ?_) | (with_reducible refine btw_alloc ?_ _) | (with_reducible refine btw_after _ ?_) | (with_reducible refine btw_beyond _ ?_ ?_) | (with_reducible refine Aft.btw _ ?_ ?_) | (with_reducible assumption) | (dsimp only; omega) | omega | ((try simp only [World.size_alloc, World.size_setCell, World.size_drew]); omega)))
  · (repeat (first | (with_reducible exact H3.out) | (with_reducible refine SrcOk.alloc ?_ _) | (with_reducible refine SrcOk.set ?_ ?_ _) | (with_reducible refine SrcOk.drewN ?_ _) | (with_reducible refine SrcOk.drew ?_) | (with_reducible refine SrcOk.later _ ?_) | (with_reducible refine SrcOk.after _ ?_ ?_) | (dsimp only; omega) | omega | ((try simp only [World.size_alloc, World.size_setCell, World.size_drew]); omega)))
set_option maxRecDepth 4000 in
set_option maxHeartbeats 4000000 in
theorem drawCircleIn_any (a : Option Addr) (n c : Nat) (bs : List Int) (w : World) (hr : Row w a (byteCells bs)) (hl : bs.length = n) (hn : n ≤ 4096) (hx : ∀ x ∈ bs, 0 ≤ x ∧ x ≤ 255) :
    Calls Tryd.prog 6 #[.slice a n c] w (RetLstSP w) := by
  replace hr := Lib.hid hr
  replace hl := Lib.hid hl
  replace hx := Lib.hid hx
  go_enter Tryd.func6, Tryd.ntmps6
  go_wp2_with fail
  with_reducible refine (from_any a n c bs _ (hr.out.bel (by (repeat (first | (with_reducible exact Below.refl _ _) | (with_reducible assumption) | (with_reducible refine Later.out _ ?_) | (with_reducible refine bel_alloc ?_ _) | (with_reducible refine bel_drew ?_) | (with_reducible refine bel_drewN ?_ _) | (with_reducible refine bel_set ?_ ?_ _) | (with_reducible refine After.out _ ?_ ?_) | (dsimp only; omega) | omega | (simp only [World.size_alloc, World.size_setCell, World.size_drew]; omega))))) hl.out hn hx.out).mono ?_
  rintro e w' ⟨g, hg, rfl, y, rfl, hsrc⟩
  have hsy := y.bel.size
  (try simp only [World.size_alloc, World.size_setCell, World.size_drew] at hg hsy)
  have H0 := Lib.hid hsrc
  have hgy := hsrc.lt
  clear hsrc
  go_wp2_with fail
  with_reducible refine (sCircList_any g _ (by (repeat (first | (with_reducible exact H0.out) | (with_reducible refine SrcOk.alloc ?_ _) | (with_reducible refine SrcOk.set ?_ ?_ _) | (with_reducible refine SrcOk.drewN ?_ _) | (with_reducible refine SrcOk.drew ?_) | (with_reducible refine SrcOk.later _ ?_) | (with_reducible refine SrcOk.after _ ?_ ?_) | (dsimp only; omega) | omega | ((try simp only [World.size_alloc, World.size_setCell, World.size_drew]); omega))))).mono ?_
  rintro e w' ⟨L, aL, cL, hokL, hL, rfl, z1, rfl, hsrc, hoL⟩
  have hs1 := z1.btw.size
  have H1 := Lib.hid hsrc
  (try simp only [World.size_alloc, World.size_setCell, World.size_drew] at hs1 hoL)
  replace hoL := Lib.hid hoL
  replace hokL := Lib.hid hokL
  clear hsrc
  go_wp2_with fail
  with_reducible refine (next_any g 5 _ (by (repeat (first | (with_reducible exact H1.out) | (with_reducible refine SrcOk.alloc ?_ _) | (with_reducible refine SrcOk.set ?_ ?_ _) | (with_reducible refine SrcOk.drewN ?_ _) | (with_reducible refine SrcOk.drew ?_) | (with_reducible refine SrcOk.later _ ?_) | (with_reducible refine SrcOk.after _ ?_ ?_) | (dsimp only; omega) | omega | ((try simp only [World.size_alloc, World.size_setCell, World.size_drew]); omega))))).mono ?_
  rintro e w' ⟨p, hdraw, rfl, z2, rfl, hsrc⟩
  have hsz2 := z2.btw.size
  (try simp only [World.size_alloc, World.size_setCell, World.size_drew] at hsz2)
  have H2 := Lib.hid hsrc
  clear hsrc
  obtain ⟨p0, p1⟩ := hdraw
  have u1 : z1.w.heap.size < z2.w.heap.size := (by omega)
  have u2 : g < z1.w.heap.size := (by omega)
  rcases (show p = 0 ∨ p = 1 ∨ p = 2 ∨ p = 3 ∨ p = 4 by omega) with rfl | rfl | rfl | rfl | rfl
  all_goals
    go_wp2_with fail
    with_reducible refine (sYearD_any g _ (by (repeat (first | (with_reducible exact H2.out) | (with_reducible refine SrcOk.alloc ?_ _) | (with_reducible refine SrcOk.set ?_ ?_ _) | (with_reducible refine SrcOk.drewN ?_ _) | (with_reducible refine SrcOk.drew ?_) | (with_reducible refine SrcOk.later _ ?_) | (with_reducible refine SrcOk.after _ ?_ ?_) | (dsimp only; omega) | omega | ((try simp only [World.size_alloc, World.size_setCell, World.size_drew]); omega))))).mono ?_
    rintro e w' ⟨r, rfl, z3, rfl, hsrc⟩
    have hs3 := z3.btw.size
    (try simp only [World.size_alloc, World.size_setCell, World.size_drew] at hs3)
    go_wp2_with fail
    refine bodyPost_ret (by simp [results, Tryd.results6, go_sem, ↓IntWalk.iteOmega, *]; try rfl) rfl ?_
    refine RetLstSP.mk hokL.out (by omega) (by decide) rfl ?_ ?_
    · (repeat (first | (with_reducible exact Below.refl _ _) | (with_reducible assumption) | (with_reducible refine Later.out _ ?_) | (with_reducible refine bel_alloc ?_ _) | (with_reducible refine bel_drew ?_) | (with_reducible refine bel_drewN ?_ _) | (with_reducible refine bel_set ?_ ?_ _) | (with_reducible refine After.out _ ?_ ?_) | (dsimp only; omega) | omega | (simp only [World.size_alloc, World.size_setCell, World.size_drew]; omega)))
    · refine owns_wide (lo := y.w.heap.size) (hi := z1.w.heap.size) ?_ (by omega) (by (try simp only [World.size_alloc, World.size_setCell, World.size_drew]); omega)
      (repeat (first | (with_reducible exact hoL.out) | (with_reducible refine owns_after _ ?_ ?_) | (with_reducible refine owns_later _ ?_ ?_) | (with_reducible refine owns_alloc ?_ _) | (with_reducible refine owns_set ?_ ?_ _) | (with_reducible refine Owns.drewN ?_ _) | (with_reducible refine owns_drew ?_) | (dsimp only; omega) | omega | ((try simp only [World.size_alloc, World.size_setCell, World.size_drew]); omega)))
end Go.Proofs.YtflcfdiochohgaaDoor

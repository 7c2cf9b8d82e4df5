import Derived.Test.YtflcfdiochohgaaGreatDoorDrawE
import Derived.Test.YtflcfdiochohgaaGreatDoorPackD
import Derived.Test.YtflcfdiochohgaaGreatDoorPackE
/- What the laws on claims draw: some claims, whatever they are, and what stands beside them. -/
set_option linter.unusedSimpArgs false
set_option linter.unusedVariables false
namespace Go.Proofs.YtflcfdiochohgaaGreatDoor
open Go.RowKit
/-- Some claims. -/
def RetLst (w : World) (e : Ending) (w' : World) : Prop :=
  ∃ (L : List Clm) (a : Option Addr) (c : Nat), (∀ x ∈ L, OkC x) ∧ L.length ≤ 100 ∧ e = .returned (.slice a L.length c) ∧ ∃ z : Later w, w' = z.w ∧ Owns z.w w.heap.size z.w.heap.size 27 7 L.length a c (clmsCells L)
theorem RetLst.mk {w w' : World} {e : Ending} {L : List Clm} {a : Option Addr} {c : Nat} (hok : ∀ x ∈ L, OkC x) (hl : L.length ≤ 100) (he : e = .returned (.slice a L.length c)) (hb : Below w.heap.size w w') (ho : Owns w' w.heap.size w'.heap.size 27 7 L.length a c (clmsCells L)) : RetLst w e w' := ⟨L, a, c, hok, hl, he, ⟨w', hb⟩, rfl, ho⟩
/-- Some claims and a number. -/
def RetLstI (w : World) (e : Ending) (w' : World) : Prop :=
  ∃ (L : List Clm) (a : Option Addr) (c : Nat) (i : Int), (∀ x ∈ L, OkC x) ∧ L.length ≤ 100 ∧ e = .returned (.tuple #[.slice a L.length c, .int .i64 i]) ∧ ∃ z : Later w, w' = z.w ∧ Owns z.w w.heap.size z.w.heap.size 27 7 L.length a c (clmsCells L)
theorem RetLstI.mk {w w' : World} {e : Ending} {L : List Clm} {a : Option Addr} {c : Nat} {i : Int} (hok : ∀ x ∈ L, OkC x) (hl : L.length ≤ 100) (he : e = .returned (.tuple #[.slice a L.length c, .int .i64 i])) (hb : Below w.heap.size w w') (ho : Owns w' w.heap.size w'.heap.size 27 7 L.length a c (clmsCells L)) : RetLstI w e w' := ⟨L, a, c, i, hok, hl, he, ⟨w', hb⟩, rfl, ho⟩
/-- Some claims, a text and a number. -/
def RetLstSY (w : World) (e : Ending) (w' : World) : Prop :=
  ∃ (L : List Clm) (a : Option Addr) (c : Nat) (s : ByteArray) (i : Int), (∀ x ∈ L, OkC x) ∧ L.length ≤ 100 ∧ s.size ≤ 100 ∧ e = .returned (.tuple #[.slice a L.length c, .string s, .int .i64 i]) ∧ ∃ z : Later w, w' = z.w ∧ Owns z.w w.heap.size z.w.heap.size 27 7 L.length a c (clmsCells L)
theorem RetLstSY.mk {w w' : World} {e : Ending} {L : List Clm} {a : Option Addr} {c : Nat} {s : ByteArray} {i : Int} (hok : ∀ x ∈ L, OkC x) (hl : L.length ≤ 100) (hs : s.size ≤ 100) (he : e = .returned (.tuple #[.slice a L.length c, .string s, .int .i64 i])) (hb : Below w.heap.size w w') (ho : Owns w' w.heap.size w'.heap.size 27 7 L.length a c (clmsCells L)) : RetLstSY w e w' := ⟨L, a, c, s, i, hok, hl, hs, he, ⟨w', hb⟩, rfl, ho⟩
/-- Some claims and some numbers. -/
def RetLstIx (w : World) (e : Ending) (w' : World) : Prop :=
  ∃ (L : List Clm) (a : Option Addr) (c : Nat) (S : List Int) (a' : Option Addr) (c' : Nat), (∀ x ∈ L, OkC x) ∧ L.length ≤ 100 ∧ S.length ≤ 200 ∧ e = .returned (.tuple #[.slice a L.length c, .slice a' S.length c']) ∧ ∃ z : Later w, w' = z.w ∧ Owns z.w w.heap.size z.w.heap.size 27 7 L.length a c (clmsCells L) ∧ Owns z.w w.heap.size z.w.heap.size 2 1 S.length a' c' (intCells S)
theorem RetLstIx.mk {w w' : World} {e : Ending} {L : List Clm} {a : Option Addr} {c : Nat} {S : List Int} {a' : Option Addr} {c' : Nat} (hok : ∀ x ∈ L, OkC x) (hl : L.length ≤ 100) (hS : S.length ≤ 200) (he : e = .returned (.tuple #[.slice a L.length c, .slice a' S.length c'])) (hb : Below w.heap.size w w') (ho : Owns w' w.heap.size w'.heap.size 27 7 L.length a c (clmsCells L)) (ho' : Owns w' w.heap.size w'.heap.size 2 1 S.length a' c' (intCells S)) : RetLstIx w e w' := ⟨L, a, c, S, a', c', hok, hl, hS, he, ⟨w', hb⟩, rfl, ho, ho'⟩
/-- Two claims. -/
def RetTwoC (w : World) (e : Ending) (w' : World) : Prop := ∃ c d : Clm, OkC c ∧ OkC d ∧ e = .returned (.tuple #[clmV c, clmV d]) ∧ ∃ z : Later w, w' = z.w
theorem RetTwoC.mk {w w' : World} {e : Ending} {c d : Clm} (hc : OkC c) (hd : OkC d) (he : e = .returned (.tuple #[clmV c, clmV d])) (hb : Below w.heap.size w w') : RetTwoC w e w' := ⟨c, d, hc, hd, he, ⟨w', hb⟩, rfl⟩
section
variable (a : Option Addr) (n c : Nat) (bs : List Int) (w : World) (hr : Row w a (byteCells bs)) (hl : bs.length = n) (hn : n ≤ 4096) (hx : ∀ x ∈ bs, 0 ≤ x ∧ x ≤ 255)
include hr hl hn hx
set_option maxRecDepth 4000 in
set_option maxHeartbeats 4000000 in
theorem drawPairsOf_any : Calls Tryz.prog 22 #[.slice a n c] w (RetLst w) := by
  replace hr := Lib.hid hr
  replace hl := Lib.hid hl
  replace hx := Lib.hid hx
  go_enter Tryz.func22, Tryz.ntmps22
  go_wp2_with fail
  with_reducible refine (from_any a n c bs _ (hr.out.bel (by (repeat (first | (with_reducible exact Below.refl _ _) | (with_reducible assumption) | (with_reducible refine Later.out _ ?_) | (with_reducible refine bel_alloc ?_ _) | (with_reducible refine bel_drew ?_) | (with_reducible refine bel_drewN ?_ _) | (with_reducible refine bel_set ?_ ?_ _) | (with_reducible refine After.out _ ?_ ?_) | (dsimp only; omega) | omega | (simp only [World.size_alloc, World.size_setCell, World.size_drew]; omega))))) hl.out hn hx.out).mono ?_
  rintro e w' ⟨g, hg, rfl, y, rfl, hsrc⟩
  have hsy := y.bel.size
  (try simp only [World.size_alloc, World.size_setCell, World.size_drew] at hg hsy)
  have H0 := Lib.hid hsrc
  have hgy := hsrc.lt
  clear hsrc
  go_wp2_with fail
  with_reducible refine (sCircList_any g _ (by (repeat (first | (with_reducible exact H0.out) | (with_reducible refine SrcOk.alloc ?_ _) | (with_reducible refine SrcOk.set ?_ ?_ _) | (with_reducible refine SrcOk.drewN ?_ _) | (with_reducible refine SrcOk.drew ?_) | (with_reducible refine SrcOk.later _ ?_) | (with_reducible refine SrcOk.after _ ?_ ?_) | (dsimp only; omega) | omega | ((try simp only [World.size_alloc, World.size_setCell, World.size_drew]); omega))))).mono ?_
  rintro e w' ⟨L, aL, cL, hokL, hL, rfl, z1, rfl, hsrc, hoL⟩
  have hs1 := z1.btw.size
  have H1 := Lib.hid hsrc
  (try simp only [World.size_alloc, World.size_setCell, World.size_drew] at hs1 hoL)
  replace hoL := Lib.hid hoL
  replace hokL := Lib.hid hokL
  clear hsrc
  go_wp2_with fail
  refine bodyPost_ret (by simp [results, Tryz.results22, go_sem, ↓IntWalk.iteOmega, *]; try rfl) rfl ?_
  refine RetLst.mk hokL.out (by omega) rfl ?_ ?_
  · (repeat (first | (with_reducible exact Below.refl _ _) | (with_reducible assumption) | (with_reducible refine Later.out _ ?_) | (with_reducible refine bel_alloc ?_ _) | (with_reducible refine bel_drew ?_) | (with_reducible refine bel_drewN ?_ _) | (with_reducible refine bel_set ?_ ?_ _) | (with_reducible refine After.out _ ?_ ?_) | (dsimp only; omega) | omega | (simp only [World.size_alloc, World.size_setCell, World.size_drew]; omega)))
  · refine owns_wide (lo := y.w.heap.size) (hi := z1.w.heap.size) ?_ (by omega) (by (try simp only [World.size_alloc, World.size_setCell, World.size_drew]); omega)
    (repeat (first | (with_reducible exact hoL.out) | (with_reducible refine owns_after _ ?_ ?_) | (with_reducible refine owns_later _ ?_ ?_) | (with_reducible refine owns_alloc ?_ _) | (with_reducible refine owns_set ?_ ?_ _) | (with_reducible refine Owns.drewN ?_ _) | (with_reducible refine owns_drew ?_) | (dsimp only; omega) | omega | ((try simp only [World.size_alloc, World.size_setCell, World.size_drew]); omega)))
set_option maxRecDepth 4000 in
set_option maxHeartbeats 4000000 in
theorem drawContradictionsOf_any : Calls Tryz.prog 13 #[.slice a n c] w (RetLstI w) := by
  replace hr := Lib.hid hr
  replace hl := Lib.hid hl
  replace hx := Lib.hid hx
  go_enter Tryz.func13, Tryz.ntmps13
  go_wp2_with fail
  with_reducible refine (from_any a n c bs _ (hr.out.bel (by (repeat (first | (with_reducible exact Below.refl _ _) | (with_reducible assumption) | (with_reducible refine Later.out _ ?_) | (with_reducible refine bel_alloc ?_ _) | (with_reducible refine bel_drew ?_) | (with_reducible refine bel_drewN ?_ _) | (with_reducible refine bel_set ?_ ?_ _) | (with_reducible refine After.out _ ?_ ?_) | (dsimp only; omega) | omega | (simp only [World.size_alloc, World.size_setCell, World.size_drew]; omega))))) hl.out hn hx.out).mono ?_
  rintro e w' ⟨g, hg, rfl, y, rfl, hsrc⟩
  have hsy := y.bel.size
  (try simp only [World.size_alloc, World.size_setCell, World.size_drew] at hg hsy)
  have H0 := Lib.hid hsrc
  have hgy := hsrc.lt
  clear hsrc
  go_wp2_with fail
  with_reducible refine (sClmList_any g _ (by (repeat (first | (with_reducible exact H0.out) | (with_reducible refine SrcOk.alloc ?_ _) | (with_reducible refine SrcOk.set ?_ ?_ _) | (with_reducible refine SrcOk.drewN ?_ _) | (with_reducible refine SrcOk.drew ?_) | (with_reducible refine SrcOk.later _ ?_) | (with_reducible refine SrcOk.after _ ?_ ?_) | (dsimp only; omega) | omega | ((try simp only [World.size_alloc, World.size_setCell, World.size_drew]); omega))))).mono ?_
  rintro e w' ⟨L, aL, cL, hokL, hL, rfl, z1, rfl, hsrc, hoL⟩
  have hs1 := z1.btw.size
  have H1 := Lib.hid hsrc
  (try simp only [World.size_alloc, World.size_setCell, World.size_drew] at hs1 hoL)
  replace hoL := Lib.hid hoL
  replace hokL := Lib.hid hokL
  clear hsrc
  go_wp2_with fail
  with_reducible refine (next_any g _ _ (by (repeat (first | (with_reducible exact H1.out) | (with_reducible refine SrcOk.alloc ?_ _) | (with_reducible refine SrcOk.set ?_ ?_ _) | (with_reducible refine SrcOk.drewN ?_ _) | (with_reducible refine SrcOk.drew ?_) | (with_reducible refine SrcOk.later _ ?_) | (with_reducible refine SrcOk.after _ ?_ ?_) | (dsimp only; omega) | omega | ((try simp only [World.size_alloc, World.size_setCell, World.size_drew]); omega))))).mono ?_
  rintro e w' ⟨p2, hdraw, rfl, z2, rfl, hsrc⟩
  have hsz2 := z2.btw.size
  (try simp only [World.size_alloc, World.size_setCell, World.size_drew] at hsz2)
  have H2 := Lib.hid hsrc
  clear hsrc
  obtain ⟨p20, p21⟩ := hdraw
  go_wp2_with fail
  with_reducible refine (next_any g 24 _ (by (repeat (first | (with_reducible exact H2.out) | (with_reducible refine SrcOk.alloc ?_ _) | (with_reducible refine SrcOk.set ?_ ?_ _) | (with_reducible refine SrcOk.drewN ?_ _) | (with_reducible refine SrcOk.drew ?_) | (with_reducible refine SrcOk.later _ ?_) | (with_reducible refine SrcOk.after _ ?_ ?_) | (dsimp only; omega) | omega | ((try simp only [World.size_alloc, World.size_setCell, World.size_drew]); omega))))).mono ?_
  rintro e w' ⟨p3, hdraw, rfl, z3, rfl, hsrc⟩
  have hsz3 := z3.btw.size
  (try simp only [World.size_alloc, World.size_setCell, World.size_drew] at hsz3)
  have H3 := Lib.hid hsrc
  clear hsrc
  obtain ⟨p30, p31⟩ := hdraw
  go_wp2_with fail
  refine bodyPost_ret (by simp [results, Tryz.results13, go_sem, ↓IntWalk.iteOmega, *]; try rfl) rfl ?_
  refine RetLstI.mk hokL.out (by omega) rfl ?_ ?_
  · (repeat (first | (with_reducible exact Below.refl _ _) | (with_reducible assumption) | (with_reducible refine Later.out _ ?_) | (with_reducible refine bel_alloc ?_ _) | (with_reducible refine bel_drew ?_) | (with_reducible refine bel_drewN ?_ _) | (with_reducible refine bel_set ?_ ?_ _) | (with_reducible refine After.out _ ?_ ?_) | (dsimp only; omega) | omega | (simp only [World.size_alloc, World.size_setCell, World.size_drew]; omega)))
  · refine owns_wide (lo := y.w.heap.size) (hi := z1.w.heap.size) ?_ (by omega) (by (try simp only [World.size_alloc, World.size_setCell, World.size_drew]); omega)
    (repeat (first | (with_reducible exact hoL.out) | (with_reducible refine owns_after _ ?_ ?_) | (with_reducible refine owns_later _ ?_ ?_) | (with_reducible refine owns_alloc ?_ _) | (with_reducible refine owns_set ?_ ?_ _) | (with_reducible refine Owns.drewN ?_ _) | (with_reducible refine owns_drew ?_) | (dsimp only; omega) | omega | ((try simp only [World.size_alloc, World.size_setCell, World.size_drew]); omega)))
set_option maxRecDepth 4000 in
set_option maxHeartbeats 4000000 in
theorem drawWeightOf_any : Calls Tryz.prog 19 #[.slice a n c] w (RetLstIx w) := by
  replace hr := Lib.hid hr
  replace hl := Lib.hid hl
  replace hx := Lib.hid hx
  go_enter Tryz.func19, Tryz.ntmps19
  go_wp2_with fail
  with_reducible refine (from_any a n c bs _ (hr.out.bel (by (repeat (first | (with_reducible exact Below.refl _ _) | (with_reducible assumption) | (with_reducible refine Later.out _ ?_) | (with_reducible refine bel_alloc ?_ _) | (with_reducible refine bel_drew ?_) | (with_reducible refine bel_drewN ?_ _) | (with_reducible refine bel_set ?_ ?_ _) | (with_reducible refine After.out _ ?_ ?_) | (dsimp only; omega) | omega | (simp only [World.size_alloc, World.size_setCell, World.size_drew]; omega))))) hl.out hn hx.out).mono ?_
  rintro e w' ⟨g, hg, rfl, y, rfl, hsrc⟩
  have hsy := y.bel.size
  (try simp only [World.size_alloc, World.size_setCell, World.size_drew] at hg hsy)
  have H0 := Lib.hid hsrc
  have hgy := hsrc.lt
  clear hsrc
  go_wp2_with fail
  with_reducible refine (sClmList_any g _ (by (repeat (first | (with_reducible exact H0.out) | (with_reducible refine SrcOk.alloc ?_ _) | (with_reducible refine SrcOk.set ?_ ?_ _) | (with_reducible refine SrcOk.drewN ?_ _) | (with_reducible refine SrcOk.drew ?_) | (with_reducible refine SrcOk.later _ ?_) | (with_reducible refine SrcOk.after _ ?_ ?_) | (dsimp only; omega) | omega | ((try simp only [World.size_alloc, World.size_setCell, World.size_drew]); omega))))).mono ?_
  rintro e w' ⟨L, aL, cL, hokL, hL, rfl, z1, rfl, hsrc, hoL⟩
  have hs1 := z1.btw.size
  have H1 := Lib.hid hsrc
  (try simp only [World.size_alloc, World.size_setCell, World.size_drew] at hs1 hoL)
  replace hoL := Lib.hid hoL
  replace hokL := Lib.hid hokL
  clear hsrc
  go_wp2_with fail
  with_reducible refine (sIndices_any g _ _ _ _ (by (repeat (first | (with_reducible exact H1.out) | (with_reducible refine SrcOk.alloc ?_ _) | (with_reducible refine SrcOk.set ?_ ?_ _) | (with_reducible refine SrcOk.drewN ?_ _) | (with_reducible refine SrcOk.drew ?_) | (with_reducible refine SrcOk.later _ ?_) | (with_reducible refine SrcOk.after _ ?_ ?_) | (dsimp only; omega) | omega | ((try simp only [World.size_alloc, World.size_setCell, World.size_drew]); omega)))) (by omega)).mono ?_
  rintro e w' ⟨S, aS, cS, hS, rfl, z2, rfl, hsrc, hoS⟩
  have hs2 := z2.btw.size
  have H2 := Lib.hid hsrc
  (try simp only [World.size_alloc, World.size_setCell, World.size_drew] at hs2 hoS)
  replace hoS := Lib.hid hoS
  clear hsrc
  go_wp2_with fail
  refine bodyPost_ret (by simp [results, Tryz.results19, go_sem, ↓IntWalk.iteOmega, *]; try rfl) rfl ?_
  refine RetLstIx.mk hokL.out (by omega) (by omega) rfl ?_ ?_ ?_
  · (repeat (first | (with_reducible exact Below.refl _ _) | (with_reducible assumption) | (with_reducible refine Later.out _ ?_) | (with_reducible refine bel_alloc ?_ _) | (with_reducible refine bel_drew ?_) | (with_reducible refine bel_drewN ?_ _) | (with_reducible refine bel_set ?_ ?_ _) | (with_reducible refine After.out _ ?_ ?_) | (dsimp only; omega) | omega | (simp only [World.size_alloc, World.size_setCell, World.size_drew]; omega)))
  · refine owns_wide (lo := y.w.heap.size) (hi := z1.w.heap.size) ?_ (by omega) (by (try simp only [World.size_alloc, World.size_setCell, World.size_drew]); omega)
    (repeat (first | (with_reducible exact hoL.out) | (with_reducible refine owns_after _ ?_ ?_) | (with_reducible refine owns_later _ ?_ ?_) | (with_reducible refine owns_alloc ?_ _) | (with_reducible refine owns_set ?_ ?_ _) | (with_reducible refine Owns.drewN ?_ _) | (with_reducible refine owns_drew ?_) | (dsimp only; omega) | omega | ((try simp only [World.size_alloc, World.size_setCell, World.size_drew]); omega)))
  · refine owns_wide (lo := z1.w.heap.size) (hi := z2.w.heap.size) ?_ (by omega) (by (try simp only [World.size_alloc, World.size_setCell, World.size_drew]); omega)
    (repeat (first | (with_reducible exact hoS.out) | (with_reducible refine owns_after _ ?_ ?_) | (with_reducible refine owns_later _ ?_ ?_) | (with_reducible refine owns_alloc ?_ _) | (with_reducible refine owns_set ?_ ?_ _) | (with_reducible refine Owns.drewN ?_ _) | (with_reducible refine owns_drew ?_) | (dsimp only; omega) | omega | ((try simp only [World.size_alloc, World.size_setCell, World.size_drew]); omega)))
set_option maxRecDepth 4000 in
set_option maxHeartbeats 4000000 in
theorem drawDoContradict_any : Calls Tryz.prog 10 #[.slice a n c] w (RetTwoC w) := by
  replace hr := Lib.hid hr
  replace hl := Lib.hid hl
  replace hx := Lib.hid hx
  go_enter Tryz.func10, Tryz.ntmps10
  go_wp2_with fail
  with_reducible refine (from_any a n c bs _ (hr.out.bel (by (repeat (first | (with_reducible exact Below.refl _ _) | (with_reducible assumption) | (with_reducible refine Later.out _ ?_) | (with_reducible refine bel_alloc ?_ _) | (with_reducible refine bel_drew ?_) | (with_reducible refine bel_drewN ?_ _) | (with_reducible refine bel_set ?_ ?_ _) | (with_reducible refine After.out _ ?_ ?_) | (dsimp only; omega) | omega | (simp only [World.size_alloc, World.size_setCell, World.size_drew]; omega))))) hl.out hn hx.out).mono ?_
  rintro e w' ⟨g, hg, rfl, y, rfl, hsrc⟩
  have hsy := y.bel.size
  (try simp only [World.size_alloc, World.size_setCell, World.size_drew] at hg hsy)
  have H0 := Lib.hid hsrc
  have hgy := hsrc.lt
  clear hsrc
  go_wp2_with fail
  with_reducible refine (sClmDraw_any g _ (by (repeat (first | (with_reducible exact H0.out) | (with_reducible refine SrcOk.alloc ?_ _) | (with_reducible refine SrcOk.set ?_ ?_ _) | (with_reducible refine SrcOk.drewN ?_ _) | (with_reducible refine SrcOk.drew ?_) | (with_reducible refine SrcOk.later _ ?_) | (with_reducible refine SrcOk.after _ ?_ ?_) | (dsimp only; omega) | omega | ((try simp only [World.size_alloc, World.size_setCell, World.size_drew]); omega))))).mono ?_
  rintro e w' ⟨c1, hc1, rfl, z1, rfl, hsrc⟩
  have hs1 := z1.btw.size
  have H1 := Lib.hid hsrc
  (try simp only [World.size_alloc, World.size_setCell, World.size_drew] at hs1)
  replace hc1 := Lib.hid hc1
  clear hsrc
  have u1 : w.heap.size < y.w.heap.size := (by omega)
  have u2 : w.heap.size + 1 < y.w.heap.size := (by omega)
  have u3 : w.heap.size < z1.w.heap.size := (by omega)
  have u4 : w.heap.size + 1 < z1.w.heap.size := (by omega)
  go_wp2_with fail
  refine wp_region_plan [(0, true), (1, true), (2, false), (3, false), (4, false)] (C := AftRC g w.heap.size (w.heap.size + 2) _) (by kernel_rfl) (by kernel_rfl) (by kernel_rfl) rfl (fun _ _ d _ _ h => by cases d <;> exact h) (AftRC.mk ((ButR.refl _ _ _ _).drew)) ?_
  first | (refine plan_quiet nth0 rfl ?_; intro KP hKP; go_big_quiet_op; go_big_quiet_on) | (refine plan_skip_q nth0 rfl rfl ?_; simp only [Act.put, List.setIfInBounds_toArray, List.set_cons_zero, List.set_cons_succ])
  first | (refine plan_quiet nth1 rfl ?_; intro KP hKP; go_big_quiet_op; go_big_quiet_on) | (refine plan_skip_q nth1 rfl rfl ?_; simp only [Act.put, List.setIfInBounds_toArray, List.set_cons_zero, List.set_cons_succ])
  first | (refine plan_loud nth2 rfl ?_; intro KP hKP; go_wp2_with (first | (go_at_call 82; (with_reducible refine (sClmDraw_any g _ (by (repeat (first | (with_reducible exact H1.out) | (with_reducible refine SrcOk.alloc ?_ _) | (with_reducible refine SrcOk.set ?_ ?_ _) | (with_reducible refine SrcOk.drewN ?_ _) | (with_reducible refine SrcOk.drew ?_) | (with_reducible refine SrcOk.later _ ?_) | (with_reducible refine SrcOk.after _ ?_ ?_) | (dsimp only; omega) | omega | ((try simp only [World.size_alloc, World.size_setCell, World.size_drew]); omega))))).mono ?_); rintro e w' ⟨c2, hc2, rfl, z2, rfl, hsrc⟩; have hs2 := z2.btw.size; have H2 := Lib.hid hsrc; clear hsrc; (try simp only [World.size_alloc, World.size_setCell, World.size_drew] at hs2); have v1 : w.heap.size < z2.w.heap.size := (by omega); have v2 : w.heap.size + 1 < z2.w.heap.size := (by omega))); refine hKP _ _ (AftRC.mk (by (repeat (first | (with_reducible exact ButR.refl _ _ _ _) | (with_reducible refine ButR.drew ?_) | (with_reducible refine ButR.drewN ?_ _) | (with_reducible refine ButR.set ?_ ?_ _) | (with_reducible refine ButR.after _ ?_) | (with_reducible refine butr_later _ ?_) | (with_reducible refine butr_alloc ?_ _) | (with_reducible assumption) | (exact .inl rfl) | (dsimp only; omega) | omega)))) ?_; clear hKP KP) | (refine plan_skip nth2 rfl rfl (AftRC.mk (by (repeat (first | (with_reducible exact ButR.refl _ _ _ _) | (with_reducible refine ButR.drew ?_) | (with_reducible refine ButR.drewN ?_ _) | (with_reducible refine ButR.set ?_ ?_ _) | (with_reducible refine ButR.after _ ?_) | (with_reducible refine butr_later _ ?_) | (with_reducible refine butr_alloc ?_ _) | (with_reducible assumption) | (exact .inl rfl) | (dsimp only; omega) | omega)))) ?_; simp only [Act.put, List.setIfInBounds_toArray, List.set_cons_zero, List.set_cons_succ])
  first | (refine plan_loud nth3 rfl ?_; intro KP hKP; go_wp2_with (first | (go_at_call 82; (with_reducible refine (sClmDraw_any g _ (by (repeat (first | (with_reducible exact H1.out) | (with_reducible refine SrcOk.alloc ?_ _) | (with_reducible refine SrcOk.set ?_ ?_ _) | (with_reducible refine SrcOk.drewN ?_ _) | (with_reducible refine SrcOk.drew ?_) | (with_reducible refine SrcOk.later _ ?_) | (with_reducible refine SrcOk.after _ ?_ ?_) | (dsimp only; omega) | omega | ((try simp only [World.size_alloc, World.size_setCell, World.size_drew]); omega))))).mono ?_); rintro e w' ⟨c2, hc2, rfl, z2, rfl, hsrc⟩; have hs2 := z2.btw.size; have H2 := Lib.hid hsrc; clear hsrc; (try simp only [World.size_alloc, World.size_setCell, World.size_drew] at hs2); have v1 : w.heap.size < z2.w.heap.size := (by omega); have v2 : w.heap.size + 1 < z2.w.heap.size := (by omega))); refine hKP _ _ (AftRC.mk (by (repeat (first | (with_reducible exact ButR.refl _ _ _ _) | (with_reducible refine ButR.drew ?_) | (with_reducible refine ButR.drewN ?_ _) | (with_reducible refine ButR.set ?_ ?_ _) | (with_reducible refine ButR.after _ ?_) | (with_reducible refine butr_later _ ?_) | (with_reducible refine butr_alloc ?_ _) | (with_reducible assumption) | (exact .inl rfl) | (dsimp only; omega) | omega)))) ?_; clear hKP KP) | (refine plan_skip nth3 rfl rfl (AftRC.mk (by (repeat (first | (with_reducible exact ButR.refl _ _ _ _) | (with_reducible refine ButR.drew ?_) | (with_reducible refine ButR.drewN ?_ _) | (with_reducible refine ButR.set ?_ ?_ _) | (with_reducible refine ButR.after _ ?_) | (with_reducible refine butr_later _ ?_) | (with_reducible refine butr_alloc ?_ _) | (with_reducible assumption) | (exact .inl rfl) | (dsimp only; omega) | omega)))) ?_; simp only [Act.put, List.setIfInBounds_toArray, List.set_cons_zero, List.set_cons_succ])
  first | (refine plan_loud nth4 rfl ?_; intro KP hKP; go_wp2_with (first | (go_at_call 82; (with_reducible refine (sClmDraw_any g _ (by (repeat (first | (with_reducible exact H1.out) | (with_reducible refine SrcOk.alloc ?_ _) | (with_reducible refine SrcOk.set ?_ ?_ _) | (with_reducible refine SrcOk.drewN ?_ _) | (with_reducible refine SrcOk.drew ?_) | (with_reducible refine SrcOk.later _ ?_) | (with_reducible refine SrcOk.after _ ?_ ?_) | (dsimp only; omega) | omega | ((try simp only [World.size_alloc, World.size_setCell, World.size_drew]); omega))))).mono ?_); rintro e w' ⟨c2, hc2, rfl, z2, rfl, hsrc⟩; have hs2 := z2.btw.size; have H2 := Lib.hid hsrc; clear hsrc; (try simp only [World.size_alloc, World.size_setCell, World.size_drew] at hs2); have v1 : w.heap.size < z2.w.heap.size := (by omega); have v2 : w.heap.size + 1 < z2.w.heap.size := (by omega))); refine hKP _ _ (AftRC.mk (by (repeat (first | (with_reducible exact ButR.refl _ _ _ _) | (with_reducible refine ButR.drew ?_) | (with_reducible refine ButR.drewN ?_ _) | (with_reducible refine ButR.set ?_ ?_ _) | (with_reducible refine ButR.after _ ?_) | (with_reducible refine butr_later _ ?_) | (with_reducible refine butr_alloc ?_ _) | (with_reducible assumption) | (exact .inl rfl) | (dsimp only; omega) | omega)))) ?_; clear hKP KP) | (refine plan_skip nth4 rfl rfl (AftRC.mk (by (repeat (first | (with_reducible exact ButR.refl _ _ _ _) | (with_reducible refine ButR.drew ?_) | (with_reducible refine ButR.drewN ?_ _) | (with_reducible refine ButR.set ?_ ?_ _) | (with_reducible refine ButR.after _ ?_) | (with_reducible refine butr_later _ ?_) | (with_reducible refine butr_alloc ?_ _) | (with_reducible assumption) | (exact .inl rfl) | (dsimp only; omega) | omega)))) ?_; simp only [Act.put, List.setIfInBounds_toArray, List.set_cons_zero, List.set_cons_succ])
  refine plan_nil ?_
  go_wp2_with fail
  refine bodyPost_ret (by simp [results, Tryz.results10, go_sem, ↓IntWalk.iteOmega, *]; try rfl) rfl ?_
  refine RetTwoC.mk (c := c1) (d := c2) hc1.out hc2 rfl ?_
  (repeat (first | (with_reducible exact Below.refl _ _) | (with_reducible assumption) | (with_reducible refine Later.out _ ?_) | (with_reducible refine bel_alloc ?_ _) | (with_reducible refine bel_drew ?_) | (with_reducible refine bel_drewN ?_ _) | (with_reducible refine bel_set ?_ ?_ _) | (with_reducible refine After.out _ ?_ ?_) | (dsimp only; omega) | omega | (simp only [World.size_alloc, World.size_setCell, World.size_drew]; omega)))
set_option maxRecDepth 4000 in
set_option maxHeartbeats 4000000 in
theorem drawClaimsAbout_any : Calls Tryz.prog 16 #[.slice a n c] w (RetLstSY w) := by
  replace hr := Lib.hid hr
  replace hl := Lib.hid hl
  replace hx := Lib.hid hx
  go_enter Tryz.func16, Tryz.ntmps16
  go_wp2_with fail
  with_reducible refine (from_any a n c bs _ (hr.out.bel (by (repeat (first | (with_reducible exact Below.refl _ _) | (with_reducible assumption) | (with_reducible refine Later.out _ ?_) | (with_reducible refine bel_alloc ?_ _) | (with_reducible refine bel_drew ?_) | (with_reducible refine bel_drewN ?_ _) | (with_reducible refine bel_set ?_ ?_ _) | (with_reducible refine After.out _ ?_ ?_) | (dsimp only; omega) | omega | (simp only [World.size_alloc, World.size_setCell, World.size_drew]; omega))))) hl.out hn hx.out).mono ?_
  rintro e w' ⟨g, hg, rfl, y, rfl, hsrc⟩
  have hsy := y.bel.size
  (try simp only [World.size_alloc, World.size_setCell, World.size_drew] at hg hsy)
  have H0 := Lib.hid hsrc
  have hgy := hsrc.lt
  clear hsrc
  go_wp2_with fail
  with_reducible refine (sClmList_any g _ (by (repeat (first | (with_reducible exact H0.out) | (with_reducible refine SrcOk.alloc ?_ _) | (with_reducible refine SrcOk.set ?_ ?_ _) | (with_reducible refine SrcOk.drewN ?_ _) | (with_reducible refine SrcOk.drew ?_) | (with_reducible refine SrcOk.later _ ?_) | (with_reducible refine SrcOk.after _ ?_ ?_) | (dsimp only; omega) | omega | ((try simp only [World.size_alloc, World.size_setCell, World.size_drew]); omega))))).mono ?_
  rintro e w' ⟨L, aL, cL, hokL, hL, rfl, z1, rfl, hsrc, hoL⟩
  have hs1 := z1.btw.size
  have H1 := Lib.hid hsrc
  (try simp only [World.size_alloc, World.size_setCell, World.size_drew] at hs1 hoL)
  replace hoL := Lib.hid hoL
  replace hokL := Lib.hid hokL
  clear hsrc
  go_wp2_with fail
  obtain ⟨W, hW⟩ : ∃ W, z1.w = W := ⟨_, rfl⟩
  have hBW : Below w.heap.size w W := by rw [← hW]; (repeat (first | (with_reducible exact Below.refl _ _) | (with_reducible assumption) | (with_reducible refine Later.out _ ?_) | (with_reducible refine bel_alloc ?_ _) | (with_reducible refine bel_drew ?_) | (with_reducible refine bel_drewN ?_ _) | (with_reducible refine bel_set ?_ ?_ _) | (with_reducible refine After.out _ ?_ ?_) | (dsimp only; omega) | omega | (simp only [World.size_alloc, World.size_setCell, World.size_drew]; omega)))
  rw [hW] at H1 hoL hs1
  rw [hW]
  clear hW
  refine wp_region_inv (SrcC W.drew g) (Ev g) (fun i v w' => match i with
    | 0 | 9 => v = .slice aL L.length cL
    | 1 => ∃ b, v = .slice (some ⟨b, 0, none⟩) 4 4 ∧ b ≠ g ∧ StrBlk w' b 4
    | 2 | 6 => v = .pointer (some ⟨g, 0, none⟩)
    | 3 => ∃ r : Nat, v = .int .i64 r ∧ r < 4
    | 4 => ∃ b r : Nat, v = .pointer (some ⟨b, r, none⟩) ∧ r < 4 ∧ b ≠ g ∧ StrBlk w' b 4
    | 5 | 10 => ∃ s : ByteArray, v = .string s ∧ s.size ≤ 100
    | 7 => ∃ r : Nat, v = .int .i64 r ∧ r < 110
    | 8 | 11 => ∃ r : Nat, v = .int .i64 r
    | _ => True) 12 0 (fun _ _ => True) (by kernel_rfl) (by kernel_rfl) (by kernel_rfl) (by kernel_rfl) (SrcC.mk (Between.refl _ _ _) H1.out.drew) ?hst (fun _ _ _ _ h => h) ⟨?op0, ?op1, ?op2, ?op3, ?op4, ?op5, ?op6, ?op7, ?op8, ?op9, ?op10, ?op11, trivial⟩ ?hend
  case op0 =>
    rintro xv _ ⟨y, rfl, hS⟩ hd
    (try simp only [List.mem_toArray, List.forall_mem_cons, List.not_mem_nil, false_imp_iff, implies_true, and_true, Region.binds, forall_const] at hd)
    have hg1 : g < y.w.heap.size := hS.lt
    have hsy := y.btw.size
    simp only [putAll, Act.put, List.setIfInBounds_toArray, List.set_cons_zero, List.set_cons_succ, Nat.zero_add, Nat.reduceAdd]
    refine op_loud (by rfl) (by rfl) ?_
    intro KP hKP
    replace hKP := Lib.hid hKP
    go_wp2_with fail
    refine hKP.out _ _ ⟨_, rfl, SrcC.mk y.btw hS, Ev.refl _ _, rfl, (fun h => absurd h (by decide))⟩
  case op1 =>
    rintro xv _ ⟨y, rfl, hS⟩ hd
    (try simp only [List.mem_toArray, List.forall_mem_cons, List.not_mem_nil, false_imp_iff, implies_true, and_true, Region.binds, forall_const] at hd)
    have hg1 : g < y.w.heap.size := hS.lt
    have hsy := y.btw.size
    simp only [putAll, Act.put, List.setIfInBounds_toArray, List.set_cons_zero, List.set_cons_succ, Nat.zero_add, Nat.reduceAdd]
    refine op_loud (by rfl) (by rfl) ?_
    intro KP hKP
    replace hKP := Lib.hid hKP
    go_wp2_with fail
    refine hKP.out _ _ ⟨_, rfl, SrcC.mk (btw_alloc y.btw _) (hS.alloc _), Ev.alloc _ _ _, ⟨y.w.heap.size, rfl, by omega, StrBlk.of (heap_alloc_new _ _) rfl (by decide)⟩, (fun h => absurd h (by decide))⟩
  case op2 =>
    rintro xv _ ⟨y, rfl, hS⟩ hd
    (try simp only [List.mem_toArray, List.forall_mem_cons, List.not_mem_nil, false_imp_iff, implies_true, and_true, Region.binds, forall_const] at hd)
    have hg1 : g < y.w.heap.size := hS.lt
    have hsy := y.btw.size
    simp only [putAll, Act.put, List.setIfInBounds_toArray, List.set_cons_zero, List.set_cons_succ, Nat.zero_add, Nat.reduceAdd]
    refine op_loud (by rfl) (by rfl) ?_
    intro KP hKP
    replace hKP := Lib.hid hKP
    go_wp2_with fail
    refine hKP.out _ _ ⟨_, rfl, SrcC.mk y.btw hS, Ev.refl _ _, rfl, (fun h => absurd h (by decide))⟩
  case op6 =>
    rintro xv _ ⟨y, rfl, hS⟩ hd
    (try simp only [List.mem_toArray, List.forall_mem_cons, List.not_mem_nil, false_imp_iff, implies_true, and_true, Region.binds, forall_const] at hd)
    have hg1 : g < y.w.heap.size := hS.lt
    have hsy := y.btw.size
    simp only [putAll, Act.put, List.setIfInBounds_toArray, List.set_cons_zero, List.set_cons_succ, Nat.zero_add, Nat.reduceAdd]
    refine op_loud (by rfl) (by rfl) ?_
    intro KP hKP
    replace hKP := Lib.hid hKP
    go_wp2_with fail
    refine hKP.out _ _ ⟨_, rfl, SrcC.mk y.btw hS, Ev.refl _ _, rfl, (fun h => absurd h (by decide))⟩
  case op3 =>
    rintro xv _ ⟨y, rfl, hS⟩ hd
    (try simp only [List.mem_toArray, List.forall_mem_cons, List.not_mem_nil, false_imp_iff, implies_true, and_true, Region.binds, forall_const] at hd)
    have hg1 : g < y.w.heap.size := hS.lt
    have hsy := y.btw.size
    simp only [putAll, Act.put, List.setIfInBounds_toArray, List.set_cons_zero, List.set_cons_succ, Nat.zero_add, Nat.reduceAdd, hd]
    refine op_loud (by rfl) (by rfl) ?_
    intro KP hKP
    replace hKP := Lib.hid hKP
    go_wp2_with (go_at_call 87; (with_reducible refine (next_any g 4 _ hS).mono ?_); rintro e w' ⟨r, ⟨r0, r1⟩, rfl, z, rfl, hsrc⟩)
    refine hKP.out _ _ ⟨_, rfl, SrcC.mk (y.btw.trans z.btw) hsrc, Ev.after z, ⟨r.toNat, by rw [Int.toNat_of_nonneg r0], by omega⟩, (fun h => absurd h (by decide))⟩
  case op4 =>
    rintro xv _ ⟨y, rfl, hS⟩ hd
    (try simp only [List.mem_toArray, List.forall_mem_cons, List.not_mem_nil, false_imp_iff, implies_true, and_true, Region.binds, forall_const] at hd)
    obtain ⟨⟨b, e1, hb, hB⟩, ⟨r, e2, hr⟩, -⟩ := hd
    have hg1 : g < y.w.heap.size := hS.lt
    have hsy := y.btw.size
    have i1 : (r : Int) < 4 := by omega
    simp only [putAll, Act.put, List.setIfInBounds_toArray, List.set_cons_zero, List.set_cons_succ, Nat.zero_add, Nat.reduceAdd, e1, e2]
    refine op_loud (by rfl) (by rfl) ?_
    intro KP hKP
    replace hKP := Lib.hid hKP
    go_wp2_with fail
    refine hKP.out _ _ ⟨_, rfl, SrcC.mk y.btw hS, Ev.refl _ _, ⟨b, r, rfl, hr, hb, hB⟩, (fun h => absurd h (by decide))⟩
  case op5 =>
    rintro xv _ ⟨y, rfl, hS⟩ hd
    (try simp only [List.mem_toArray, List.forall_mem_cons, List.not_mem_nil, false_imp_iff, implies_true, and_true, Region.binds, forall_const] at hd)
    obtain ⟨⟨b, r, e1, hr, hb, hB⟩, -⟩ := hd
    have hg1 : g < y.w.heap.size := hS.lt
    have hsy := y.btw.size
    obtain ⟨s, hs, hz⟩ := hB.row hr
    simp only [putAll, Act.put, List.setIfInBounds_toArray, List.set_cons_zero, List.set_cons_succ, Nat.zero_add, Nat.reduceAdd, e1]
    refine op_loud (by rfl) (by rfl) ?_
    intro KP hKP
    replace hKP := Lib.hid hKP
    go_wp2_with fail
    refine hKP.out _ _ ⟨_, rfl, SrcC.mk y.btw hS, Ev.refl _ _, ⟨s, rfl, hz⟩, (fun h => absurd h (by decide))⟩
  case op7 =>
    rintro xv _ ⟨y, rfl, hS⟩ hd
    (try simp only [List.mem_toArray, List.forall_mem_cons, List.not_mem_nil, false_imp_iff, implies_true, and_true, Region.binds, forall_const] at hd)
    obtain ⟨e1, -⟩ := hd
    have hg1 : g < y.w.heap.size := hS.lt
    have hsy := y.btw.size
    simp only [putAll, Act.put, List.setIfInBounds_toArray, List.set_cons_zero, List.set_cons_succ, Nat.zero_add, Nat.reduceAdd, e1]
    refine op_loud (by rfl) (by rfl) ?_
    intro KP hKP
    replace hKP := Lib.hid hKP
    go_wp2_with (go_at_call 87; (with_reducible refine (next_any g 110 _ hS).mono ?_); rintro e w' ⟨r, ⟨r0, r1⟩, rfl, z, rfl, hsrc⟩)
    refine hKP.out _ _ ⟨_, rfl, SrcC.mk (y.btw.trans z.btw) hsrc, Ev.after z, ⟨r.toNat, by rw [Int.toNat_of_nonneg r0], by omega⟩, (fun h => absurd h (by decide))⟩
  case op8 =>
    rintro xv _ ⟨y, rfl, hS⟩ hd
    (try simp only [List.mem_toArray, List.forall_mem_cons, List.not_mem_nil, false_imp_iff, implies_true, and_true, Region.binds, forall_const] at hd)
    obtain ⟨⟨r, e1, hr⟩, -⟩ := hd
    have hg1 : g < y.w.heap.size := hS.lt
    have hsy := y.btw.size
    simp only [putAll, Act.put, List.setIfInBounds_toArray, List.set_cons_zero, List.set_cons_succ, Nat.zero_add, Nat.reduceAdd, e1]
    refine op_loud (by rfl) (by rfl) ?_
    intro KP hKP
    replace hKP := Lib.hid hKP
    go_wp2_with fail
    refine hKP.out _ _ ⟨_, rfl, SrcC.mk y.btw hS, Ev.refl _ _, ⟨1200 + r, by simp⟩, (fun h => absurd h (by decide))⟩
  case op9 =>
    rintro xv _ ⟨y, rfl, hS⟩ hd
    (try simp only [List.mem_toArray, List.forall_mem_cons, List.not_mem_nil, false_imp_iff, implies_true, and_true, Region.binds, forall_const] at hd)
    try obtain ⟨hd, -⟩ := hd
    have hg1 : g < y.w.heap.size := hS.lt
    have hsy := y.btw.size
    simp only [putAll, Act.put, List.setIfInBounds_toArray, List.set_cons_zero, List.set_cons_succ, Nat.zero_add, Nat.reduceAdd, hd]
    refine op_loud (by rfl) (by rfl) ?_
    intro KP hKP
    replace hKP := Lib.hid hKP
    go_wp2_with fail
    refine hKP.out _ _ ⟨_, rfl, SrcC.mk y.btw hS, Ev.refl _ _, rfl, (fun h => absurd h (by decide))⟩
  case op10 =>
    rintro xv _ ⟨y, rfl, hS⟩ hd
    (try simp only [List.mem_toArray, List.forall_mem_cons, List.not_mem_nil, false_imp_iff, implies_true, and_true, Region.binds, forall_const] at hd)
    first | obtain ⟨⟨s, e1, hz⟩, -⟩ := hd | obtain ⟨s, e1, hz⟩ := hd
    have hg1 : g < y.w.heap.size := hS.lt
    have hsy := y.btw.size
    simp only [putAll, Act.put, List.setIfInBounds_toArray, List.set_cons_zero, List.set_cons_succ, Nat.zero_add, Nat.reduceAdd, e1]
    refine op_loud (by rfl) (by rfl) ?_
    intro KP hKP
    replace hKP := Lib.hid hKP
    go_wp2_with fail
    refine hKP.out _ _ ⟨_, rfl, SrcC.mk y.btw hS, Ev.refl _ _, ⟨s, rfl, hz⟩, (fun h => absurd h (by decide))⟩
  case op11 =>
    rintro xv _ ⟨y, rfl, hS⟩ hd
    (try simp only [List.mem_toArray, List.forall_mem_cons, List.not_mem_nil, false_imp_iff, implies_true, and_true, Region.binds, forall_const] at hd)
    first | obtain ⟨⟨r, e1⟩, -⟩ := hd | obtain ⟨r, e1⟩ := hd
    have hg1 : g < y.w.heap.size := hS.lt
    have hsy := y.btw.size
    simp only [putAll, Act.put, List.setIfInBounds_toArray, List.set_cons_zero, List.set_cons_succ, Nat.zero_add, Nat.reduceAdd, e1]
    refine op_loud (by rfl) (by rfl) ?_
    intro KP hKP
    replace hKP := Lib.hid hKP
    go_wp2_with fail
    refine hKP.out _ _ ⟨_, rfl, SrcC.mk y.btw hS, Ev.refl _ _, ⟨r, rfl⟩, (fun h => absurd h (by decide))⟩
  case hst =>
    intro i v w1 w2 hE h
    match i, h with
    | 0, h => exact h
    | 1, ⟨b, h1, h2, h3⟩ => exact ⟨b, h1, h2, h3.ev hE h2⟩
    | 2, h => exact h
    | 3, h => exact h
    | 4, ⟨b, r, h1, h2, h3, h4⟩ => exact ⟨b, r, h1, h2, h3, h4.ev hE h3⟩
    | 5, h => exact h
    | 6, h => exact h
    | 7, h => exact h
    | 8, h => exact h
    | 9, h => exact h
    | 10, h => exact h
    | 11, h => exact h
    | n + 12, h => trivial
  case hend =>
    rintro xv _ ⟨z2, rfl, hS⟩ hall -
    have e9 := hall 9 (by decide)
    obtain ⟨s, e10, hsz⟩ := hall 10 (by decide)
    obtain ⟨r, e11⟩ := hall 11 (by decide)
    clear hall
    simp only at e9
    have hs2 := z2.btw.size
    (try simp only [World.size_alloc, World.size_setCell, World.size_drew] at hs2)
    simp only [putAll, Act.put, List.setIfInBounds_toArray, List.set_cons_zero, List.set_cons_succ, e9, e10, e11]
    go_wp2_with fail
    refine bodyPost_ret (by simp [results, Tryz.results16, go_sem, ↓IntWalk.iteOmega, *]; try rfl) rfl ?_
    refine RetLstSY.mk hokL.out (by omega) hsz rfl ?_ ?_
    · (repeat (first | (with_reducible exact Below.refl _ _) | (with_reducible assumption) | (with_reducible refine Later.out _ ?_) | (with_reducible refine bel_alloc ?_ _) | (with_reducible refine bel_drew ?_) | (with_reducible refine bel_drewN ?_ _) | (with_reducible refine bel_set ?_ ?_ _) | (with_reducible refine After.out _ ?_ ?_) | (dsimp only; omega) | omega | (simp only [World.size_alloc, World.size_setCell, World.size_drew]; omega)))
    · refine owns_wide (lo := y.w.heap.size) (hi := W.heap.size) ?_ (by omega) (by (try simp only [World.size_alloc, World.size_setCell, World.size_drew]); omega)
      (repeat (first | (with_reducible exact hoL.out) | (with_reducible refine owns_after _ ?_ ?_) | (with_reducible refine owns_later _ ?_ ?_) | (with_reducible refine owns_alloc ?_ _) | (with_reducible refine owns_set ?_ ?_ _) | (with_reducible refine Owns.drewN ?_ _) | (with_reducible refine owns_drew ?_) | (dsimp only; omega) | omega | ((try simp only [World.size_alloc, World.size_setCell, World.size_drew]); omega)))
end
end Go.Proofs.YtflcfdiochohgaaGreatDoor

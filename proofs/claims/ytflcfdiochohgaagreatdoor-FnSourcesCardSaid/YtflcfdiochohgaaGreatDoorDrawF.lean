import Derived.Test.YtflcfdiochohgaaGreatDoorDrawE
import Derived.Test.YtflcfdiochohgaaGreatDoorPackD
import Derived.Test.YtflcfdiochohgaaGreatDoorPackE
/- What the laws on claims draw: some claims, whatever they are, and what stands beside them. -/
set_option linter.unusedSimpArgs false
set_option linter.unusedVariables false
namespace Go.Proofs.YtflcfdiochohgaaGreatDoor
open Go.RowKit
/-- Some claims. -/
def RetLst (w : World) (e : Ending) (w' : World) : Prop :=
  ∃ (L : List Clm) (a : Option Addr) (c : Nat), (∀ x ∈ L, OkC x) ∧ L.length ≤ 100 ∧ e = .returned (.slice a L.length c) ∧ ∃ z : Later w, w' = z.w ∧ Owns z.w w.heap.size z.w.heap.size 27 7 L.length a c (clmsCells L)
theorem RetLst.mk {w w' : World} {e : Ending} {L : List Clm} {a : Option Addr} {c : Nat} (hok : ∀ x ∈ L, OkC x) (hl : L.length ≤ 100) (he : e = .returned (.slice a L.length c)) (hb : Below w.heap.size w w') (ho : Owns w' w.heap.size w'.heap.size 27 7 L.length a c (clmsCells L)) : RetLst w e w' := ⟨L, a, c, hok, hl, he, ⟨w', hb⟩, rfl, ho⟩
/-- Some claims and a number. -/
def RetLstI (w : World) (e : Ending) (w' : World) : Prop :=
  ∃ (L : List Clm) (a : Option Addr) (c : Nat) (i : Int), (∀ x ∈ L, OkC x) ∧ L.length ≤ 100 ∧ e = .returned (.tuple #[.slice a L.length c, .int .i64 i]) ∧ ∃ z : Later w, w' = z.w ∧ Owns z.w w.heap.size z.w.heap.size 27 7 L.length a c (clmsCells L)
theorem RetLstI.mk {w w' : World} {e : Ending} {L : List Clm} {a : Option Addr} {c : Nat} {i : Int} (hok : ∀ x ∈ L, OkC x) (hl : L.length ≤ 100) (he : e = .returned (.tuple #[.slice a L.length c, .int .i64 i])) (hb : Below w.heap.size w w') (ho : Owns w' w.heap.size w'.heap.size 27 7 L.length a c (clmsCells L)) : RetLstI w e w' := ⟨L, a, c, i, hok, hl, he, ⟨w', hb⟩, rfl, ho⟩
/-- Some claims, a text and a number. -/
def RetLstSY (w : World) (e : Ending) (w' : World) : Prop :=
  ∃ (L : List Clm) (a : Option Addr) (c : Nat) (s : ByteArray) (i : Int), (∀ x ∈ L, OkC x) ∧ L.length ≤ 100 ∧ s.size ≤ 100 ∧ e = .returned (.tuple #[.slice a L.length c, .string s, .int .i64 i]) ∧ ∃ z : Later w, w' = z.w ∧ Owns z.w w.heap.size z.w.heap.size 27 7 L.length a c (clmsCells L)
theorem RetLstSY.mk {w w' : World} {e : Ending} {L : List Clm} {a : Option Addr} {c : Nat} {s : ByteArray} {i : Int} (hok : ∀ x ∈ L, OkC x) (hl : L.length ≤ 100) (hs : s.size ≤ 100) (he : e = .returned (.tuple #[.slice a L.length c, .string s, .int .i64 i])) (hb : Below w.heap.size w w') (ho : Owns w' w.heap.size w'.heap.size 27 7 L.length a c (clmsCells L)) : RetLstSY w e w' := ⟨L, a, c, s, i, hok, hl, hs, he, ⟨w', hb⟩, rfl, ho⟩
/-- Some claims and some numbers. -/
def RetLstIx (w : World) (e : Ending) (w' : World) : Prop :=
  ∃ (L : List Clm) (a : Option Addr) (c : Nat) (S : List Int) (a' : Option Addr) (c' : Nat), (∀ x ∈ L, OkC x) ∧ L.length ≤ 100 ∧ S.length ≤ 200 ∧ e = .returned (.tuple #[.slice a L.length c, .slice a' S.length c']) ∧ ∃ z : Later w, w' = z.w ∧ Owns z.w w.heap.size z.w.heap.size 27 7 L.length a c (clmsCells L) ∧ Owns z.w w.heap.size z.w.heap.size 2 1 S.length a' c' (intCells S)
theorem RetLstIx.mk {w w' : World} {e : Ending} {L : List Clm} {a : Option Addr} {c : Nat} {S : List Int} {a' : Option Addr} {c' : Nat} (hok : ∀ x ∈ L, OkC x) (hl : L.length ≤ 100) (hS : S.length ≤ 200) (he : e = .returned (.tuple #[.slice a L.length c, .slice a' S.length c'])) (hb : Below w.heap.size w w') (ho : Owns w' w.heap.size w'.heap.size 27 7 L.length a c (clmsCells L)) (ho' : Owns w' w.heap.size w'.heap.size 2 1 S.length a' c' (intCells S)) : RetLstIx w e w' := ⟨L, a, c, S, a', c', hok, hl, hS, he, ⟨w', hb⟩, rfl, ho, ho'⟩
/-- Two claims. -/
def RetTwoC (w : World) (e : Ending) (w' : World) : Prop := ∃ c d : Clm, OkC c ∧ OkC d ∧ e = .returned (.tuple #[clmV c, clmV d]) ∧ ∃ z : Later w, w' = z.w
theorem RetTwoC.mk {w w' : World} {e : Ending} {c d : Clm} (hc : OkC c) (hd : OkC d) (he : e = .returned (.tuple #[clmV c, clmV d])) (hb : Below w.heap.size w w') : RetTwoC w e w' := ⟨c, d, hc, hd, he, ⟨w', hb⟩, rfl⟩
section
variable (a : Option Addr) (n c : Nat) (bs : List Int) (w : World) (hr : Row w a (byteCells bs)) (hl : bs.length = n) (hn : n ≤ 4096) (hx : ∀ x ∈ bs, 0 ≤ x ∧ x ≤ 255)
include hr hl hn hx
set_option maxRecDepth 4000 in
set_option maxHeartbeats 4000000 in
theorem drawSmallestSources_any : Calls Tryz.prog 65 #[.slice a n c] w (RetLst w) := by
  replace hr := Lib.hid hr
  replace hl := Lib.hid hl
  replace hx := Lib.hid hx
  go_enter Tryz.func65, Tryz.ntmps65
  go_wp2_with fail
  with_reducible refine (from_any a n c bs _ (hr.out.bel (by (repeat (first | (with_reducible exact Below.refl _ _) | (with_reducible assumption) | (with_reducible refine Later.out _ ?_) | (with_reducible refine bel_alloc ?_ _) | (with_reducible refine bel_drew ?_) | (with_reducible refine bel_drewN ?_ _) | (with_reducible refine bel_set ?_ ?_ _) | (with_reducible refine After.out _ ?_ ?_) | (dsimp only; omega) | omega | (simp only [World.size_alloc, World.size_setCell, World.size_drew]; omega))))) hl.out hn hx.out).mono ?_
  rintro e w' ⟨g, hg, rfl, y, rfl, hsrc⟩
  have hsy := y.bel.size
  (try simp only [World.size_alloc, World.size_setCell, World.size_drew] at hg hsy)
  have H0 := Lib.hid hsrc
  have hgy := hsrc.lt
  clear hsrc
  go_wp2_with fail
  with_reducible refine (sCircList_any g _ (by (repeat (first | (with_reducible exact H0.out) | (with_reducible refine SrcOk.alloc ?_ _) | (with_reducible refine SrcOk.set ?_ ?_ _) | (with_reducible refine SrcOk.drewN ?_ _) | (with_reducible refine SrcOk.drew ?_) | (with_reducible refine SrcOk.later _ ?_) | (with_reducible refine SrcOk.after _ ?_ ?_) | (dsimp only; omega) | omega | ((try simp only [World.size_alloc, World.size_setCell, World.size_drew]); omega))))).mono ?_
  rintro e w' ⟨L, aL, cL, hokL, hL, rfl, z1, rfl, hsrc, hoL⟩
  have hs1 := z1.btw.size
  have H1 := Lib.hid hsrc
  (try simp only [World.size_alloc, World.size_setCell, World.size_drew] at hs1 hoL)
  replace hoL := Lib.hid hoL
  replace hokL := Lib.hid hokL
  clear hsrc
  go_wp2_with fail
  refine bodyPost_ret (by simp [results, Tryz.results65, go_sem, ↓IntWalk.iteOmega, *]; try rfl) rfl ?_
  refine RetLst.mk hokL.out (by omega) rfl ?_ ?_
  · (repeat (first | (with_reducible exact Below.refl _ _) | (with_reducible assumption) | (with_reducible refine Later.out _ ?_) | (with_reducible refine bel_alloc ?_ _) | (with_reducible refine bel_drew ?_) | (with_reducible refine bel_drewN ?_ _) | (with_reducible refine bel_set ?_ ?_ _) | (with_reducible refine After.out _ ?_ ?_) | (dsimp only; omega) | omega | (simp only [World.size_alloc, World.size_setCell, World.size_drew]; omega)))
  · refine owns_wide (lo := y.w.heap.size) (hi := z1.w.heap.size) ?_ (by omega) (by (try simp only [World.size_alloc, World.size_setCell, World.size_drew]); omega)
    (repeat (first | (with_reducible exact hoL.out) | (with_reducible refine owns_after _ ?_ ?_) | (with_reducible refine owns_later _ ?_ ?_) | (with_reducible refine owns_alloc ?_ _) | (with_reducible refine owns_set ?_ ?_ _) | (with_reducible refine Owns.drewN ?_ _) | (with_reducible refine owns_drew ?_) | (dsimp only; omega) | omega | ((try simp only [World.size_alloc, World.size_setCell, World.size_drew]); omega)))
set_option maxRecDepth 4000 in
set_option maxHeartbeats 4000000 in
theorem drawAreChosenConsistent_any : Calls Tryz.prog 141 #[.slice a n c] w (RetLstIx w) := by
  replace hr := Lib.hid hr
  replace hl := Lib.hid hl
  replace hx := Lib.hid hx
  go_enter Tryz.func141, Tryz.ntmps141
  go_wp2_with fail
  with_reducible refine (from_any a n c bs _ (hr.out.bel (by (repeat (first | (with_reducible exact Below.refl _ _) | (with_reducible assumption) | (with_reducible refine Later.out _ ?_) | (with_reducible refine bel_alloc ?_ _) | (with_reducible refine bel_drew ?_) | (with_reducible refine bel_drewN ?_ _) | (with_reducible refine bel_set ?_ ?_ _) | (with_reducible refine After.out _ ?_ ?_) | (dsimp only; omega) | omega | (simp only [World.size_alloc, World.size_setCell, World.size_drew]; omega))))) hl.out hn hx.out).mono ?_
  rintro e w' ⟨g, hg, rfl, y, rfl, hsrc⟩
  have hsy := y.bel.size
  (try simp only [World.size_alloc, World.size_setCell, World.size_drew] at hg hsy)
  have H0 := Lib.hid hsrc
  have hgy := hsrc.lt
  clear hsrc
  go_wp2_with fail
  with_reducible refine (sCircList_any g _ (by (repeat (first | (with_reducible exact H0.out) | (with_reducible refine SrcOk.alloc ?_ _) | (with_reducible refine SrcOk.set ?_ ?_ _) | (with_reducible refine SrcOk.drewN ?_ _) | (with_reducible refine SrcOk.drew ?_) | (with_reducible refine SrcOk.later _ ?_) | (with_reducible refine SrcOk.after _ ?_ ?_) | (dsimp only; omega) | omega | ((try simp only [World.size_alloc, World.size_setCell, World.size_drew]); omega))))).mono ?_
  rintro e w' ⟨L, aL, cL, hokL, hL, rfl, z1, rfl, hsrc, hoL⟩
  have hs1 := z1.btw.size
  have H1 := Lib.hid hsrc
  (try simp only [World.size_alloc, World.size_setCell, World.size_drew] at hs1 hoL)
  replace hoL := Lib.hid hoL
  replace hokL := Lib.hid hokL
  clear hsrc
  go_wp2_with fail
  with_reducible refine (sIndices_any g _ _ _ _ (by (repeat (first | (with_reducible exact H1.out) | (with_reducible refine SrcOk.alloc ?_ _) | (with_reducible refine SrcOk.set ?_ ?_ _) | (with_reducible refine SrcOk.drewN ?_ _) | (with_reducible refine SrcOk.drew ?_) | (with_reducible refine SrcOk.later _ ?_) | (with_reducible refine SrcOk.after _ ?_ ?_) | (dsimp only; omega) | omega | ((try simp only [World.size_alloc, World.size_setCell, World.size_drew]); omega)))) (by omega)).mono ?_
  rintro e w' ⟨S, aS, cS, hS, rfl, z2, rfl, hsrc, hoS⟩
  have hs2 := z2.btw.size
  have H2 := Lib.hid hsrc
  (try simp only [World.size_alloc, World.size_setCell, World.size_drew] at hs2 hoS)
  replace hoS := Lib.hid hoS
  clear hsrc
  go_wp2_with fail
  refine bodyPost_ret (by simp [results, Tryz.results141, go_sem, ↓IntWalk.iteOmega, *]; try rfl) rfl ?_
  refine RetLstIx.mk hokL.out (by omega) (by omega) rfl ?_ ?_ ?_
  · (repeat (first | (with_reducible exact Below.refl _ _) | (with_reducible assumption) | (with_reducible refine Later.out _ ?_) | (with_reducible refine bel_alloc ?_ _) | (with_reducible refine bel_drew ?_) | (with_reducible refine bel_drewN ?_ _) | (with_reducible refine bel_set ?_ ?_ _) | (with_reducible refine After.out _ ?_ ?_) | (dsimp only; omega) | omega | (simp only [World.size_alloc, World.size_setCell, World.size_drew]; omega)))
  · refine owns_wide (lo := y.w.heap.size) (hi := z1.w.heap.size) ?_ (by omega) (by (try simp only [World.size_alloc, World.size_setCell, World.size_drew]); omega)
    (repeat (first | (with_reducible exact hoL.out) | (with_reducible refine owns_after _ ?_ ?_) | (with_reducible refine owns_later _ ?_ ?_) | (with_reducible refine owns_alloc ?_ _) | (with_reducible refine owns_set ?_ ?_ _) | (with_reducible refine Owns.drewN ?_ _) | (with_reducible refine owns_drew ?_) | (dsimp only; omega) | omega | ((try simp only [World.size_alloc, World.size_setCell, World.size_drew]); omega)))
  · refine owns_wide (lo := z1.w.heap.size) (hi := z2.w.heap.size) ?_ (by omega) (by (try simp only [World.size_alloc, World.size_setCell, World.size_drew]); omega)
    (repeat (first | (with_reducible exact hoS.out) | (with_reducible refine owns_after _ ?_ ?_) | (with_reducible refine owns_later _ ?_ ?_) | (with_reducible refine owns_alloc ?_ _) | (with_reducible refine owns_set ?_ ?_ _) | (with_reducible refine Owns.drewN ?_ _) | (with_reducible refine owns_drew ?_) | (dsimp only; omega) | omega | ((try simp only [World.size_alloc, World.size_setCell, World.size_drew]); omega)))
set_option maxRecDepth 4000 in
set_option maxHeartbeats 4000000 in
theorem drawSourcesOf_any : Calls Tryz.prog 68 #[.slice a n c] w (RetLstIx w) := by
  replace hr := Lib.hid hr
  replace hl := Lib.hid hl
  replace hx := Lib.hid hx
  go_enter Tryz.func68, Tryz.ntmps68
  go_wp2_with fail
  with_reducible refine (drawAreChosenConsistent_any a n c bs _ (hr.out.bel (by (repeat (first | (with_reducible exact Below.refl _ _) | (with_reducible assumption) | (with_reducible refine Later.out _ ?_) | (with_reducible refine bel_alloc ?_ _) | (with_reducible refine bel_drew ?_) | (with_reducible refine bel_drewN ?_ _) | (with_reducible refine bel_set ?_ ?_ _) | (with_reducible refine After.out _ ?_ ?_) | (dsimp only; omega) | omega | (simp only [World.size_alloc, World.size_setCell, World.size_drew]; omega))))) hl.out hn hx.out).mono ?_
  rintro e w' ⟨L, aL, cL, S, aS, cS, hokL, hL, hS, rfl, z, rfl, hoL, hoS⟩
  have hsz := z.bel.size
  (try simp only [World.size_alloc, World.size_setCell, World.size_drew] at hsz hoL hoS)
  replace hoL := Lib.hid hoL
  replace hoS := Lib.hid hoS
  go_wp2_with fail
  refine bodyPost_ret (by simp [results, Tryz.results68, go_sem, ↓IntWalk.iteOmega, *]; try rfl) rfl ?_
  refine RetLstIx.mk hokL hL hS rfl ?_ ?_ ?_
  · (repeat (first | (with_reducible exact Below.refl _ _) | (with_reducible assumption) | (with_reducible refine Later.out _ ?_) | (with_reducible refine bel_alloc ?_ _) | (with_reducible refine bel_drew ?_) | (with_reducible refine bel_drewN ?_ _) | (with_reducible refine bel_set ?_ ?_ _) | (with_reducible refine After.out _ ?_ ?_) | (dsimp only; omega) | omega | (simp only [World.size_alloc, World.size_setCell, World.size_drew]; omega)))
  · refine owns_wide (lo := w.heap.size) (hi := z.w.heap.size) ?_ (by omega) (by (try simp only [World.size_alloc, World.size_setCell, World.size_drew]); omega)
    (repeat (first | (with_reducible exact hoL.out) | (with_reducible refine owns_after _ ?_ ?_) | (with_reducible refine owns_later _ ?_ ?_) | (with_reducible refine owns_alloc ?_ _) | (with_reducible refine owns_set ?_ ?_ _) | (with_reducible refine Owns.drewN ?_ _) | (with_reducible refine owns_drew ?_) | (dsimp only; omega) | omega | ((try simp only [World.size_alloc, World.size_setCell, World.size_drew]); omega)))
  · refine owns_wide (lo := w.heap.size) (hi := z.w.heap.size) ?_ (by omega) (by (try simp only [World.size_alloc, World.size_setCell, World.size_drew]); omega)
    (repeat (first | (with_reducible exact hoS.out) | (with_reducible refine owns_after _ ?_ ?_) | (with_reducible refine owns_later _ ?_ ?_) | (with_reducible refine owns_alloc ?_ _) | (with_reducible refine owns_set ?_ ?_ _) | (with_reducible refine Owns.drewN ?_ _) | (with_reducible refine owns_drew ?_) | (dsimp only; omega) | omega | ((try simp only [World.size_alloc, World.size_setCell, World.size_drew]); omega)))
end
end Go.Proofs.YtflcfdiochohgaaGreatDoor

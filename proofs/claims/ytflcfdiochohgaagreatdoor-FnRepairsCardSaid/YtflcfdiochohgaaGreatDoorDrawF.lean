import Derived.Test.YtflcfdiochohgaaGreatDoorDrawE
import Derived.Test.YtflcfdiochohgaaGreatDoorPackD
import Derived.Test.YtflcfdiochohgaaGreatDoorPackE
/- What the laws on claims draw: some claims, whatever they are, and what stands beside them. -/
set_option linter.unusedSimpArgs false
set_option linter.unusedVariables false
namespace Go.Proofs.YtflcfdiochohgaaGreatDoor
open Go.RowKit
/-- Some claims. -/
def RetLst (w : World) (e : Ending) (w' : World) : Prop :=
  ∃ (L : List Clm) (a : Option Addr) (c : Nat), (∀ x ∈ L, OkC x) ∧ L.length ≤ 100 ∧ e = .returned (.slice a L.length c) ∧ ∃ z : Later w, w' = z.w ∧ Owns z.w w.heap.size z.w.heap.size 27 7 L.length a c (clmsCells L)
theorem RetLst.mk {w w' : World} {e : Ending} {L : List Clm} {a : Option Addr} {c : Nat} (hok : ∀ x ∈ L, OkC x) (hl : L.length ≤ 100) (he : e = .returned (.slice a L.length c)) (hb : Below w.heap.size w w') (ho : Owns w' w.heap.size w'.heap.size 27 7 L.length a c (clmsCells L)) : RetLst w e w' := ⟨L, a, c, hok, hl, he, ⟨w', hb⟩, rfl, ho⟩
/-- Some claims and a number. -/
def RetLstI (w : World) (e : Ending) (w' : World) : Prop :=
  ∃ (L : List Clm) (a : Option Addr) (c : Nat) (i : Int), (∀ x ∈ L, OkC x) ∧ L.length ≤ 100 ∧ e = .returned (.tuple #[.slice a L.length c, .int .i64 i]) ∧ ∃ z : Later w, w' = z.w ∧ Owns z.w w.heap.size z.w.heap.size 27 7 L.length a c (clmsCells L)
theorem RetLstI.mk {w w' : World} {e : Ending} {L : List Clm} {a : Option Addr} {c : Nat} {i : Int} (hok : ∀ x ∈ L, OkC x) (hl : L.length ≤ 100) (he : e = .returned (.tuple #[.slice a L.length c, .int .i64 i])) (hb : Below w.heap.size w w') (ho : Owns w' w.heap.size w'.heap.size 27 7 L.length a c (clmsCells L)) : RetLstI w e w' := ⟨L, a, c, i, hok, hl, he, ⟨w', hb⟩, rfl, ho⟩
/-- Some claims, a text and a number. -/
def RetLstSY (w : World) (e : Ending) (w' : World) : Prop :=
  ∃ (L : List Clm) (a : Option Addr) (c : Nat) (s : ByteArray) (i : Int), (∀ x ∈ L, OkC x) ∧ L.length ≤ 100 ∧ s.size ≤ 100 ∧ e = .returned (.tuple #[.slice a L.length c, .string s, .int .i64 i]) ∧ ∃ z : Later w, w' = z.w ∧ Owns z.w w.heap.size z.w.heap.size 27 7 L.length a c (clmsCells L)
theorem RetLstSY.mk {w w' : World} {e : Ending} {L : List Clm} {a : Option Addr} {c : Nat} {s : ByteArray} {i : Int} (hok : ∀ x ∈ L, OkC x) (hl : L.length ≤ 100) (hs : s.size ≤ 100) (he : e = .returned (.tuple #[.slice a L.length c, .string s, .int .i64 i])) (hb : Below w.heap.size w w') (ho : Owns w' w.heap.size w'.heap.size 27 7 L.length a c (clmsCells L)) : RetLstSY w e w' := ⟨L, a, c, s, i, hok, hl, hs, he, ⟨w', hb⟩, rfl, ho⟩
/-- Some claims and some numbers. -/
def RetLstIx (w : World) (e : Ending) (w' : World) : Prop :=
  ∃ (L : List Clm) (a : Option Addr) (c : Nat) (S : List Int) (a' : Option Addr) (c' : Nat), (∀ x ∈ L, OkC x) ∧ L.length ≤ 100 ∧ S.length ≤ 200 ∧ e = .returned (.tuple #[.slice a L.length c, .slice a' S.length c']) ∧ ∃ z : Later w, w' = z.w ∧ Owns z.w w.heap.size z.w.heap.size 27 7 L.length a c (clmsCells L) ∧ Owns z.w w.heap.size z.w.heap.size 2 1 S.length a' c' (intCells S)
theorem RetLstIx.mk {w w' : World} {e : Ending} {L : List Clm} {a : Option Addr} {c : Nat} {S : List Int} {a' : Option Addr} {c' : Nat} (hok : ∀ x ∈ L, OkC x) (hl : L.length ≤ 100) (hS : S.length ≤ 200) (he : e = .returned (.tuple #[.slice a L.length c, .slice a' S.length c'])) (hb : Below w.heap.size w w') (ho : Owns w' w.heap.size w'.heap.size 27 7 L.length a c (clmsCells L)) (ho' : Owns w' w.heap.size w'.heap.size 2 1 S.length a' c' (intCells S)) : RetLstIx w e w' := ⟨L, a, c, S, a', c', hok, hl, hS, he, ⟨w', hb⟩, rfl, ho, ho'⟩
/-- Two claims. -/
def RetTwoC (w : World) (e : Ending) (w' : World) : Prop := ∃ c d : Clm, OkC c ∧ OkC d ∧ e = .returned (.tuple #[clmV c, clmV d]) ∧ ∃ z : Later w, w' = z.w
theorem RetTwoC.mk {w w' : World} {e : Ending} {c d : Clm} (hc : OkC c) (hd : OkC d) (he : e = .returned (.tuple #[clmV c, clmV d])) (hb : Below w.heap.size w w') : RetTwoC w e w' := ⟨c, d, hc, hd, he, ⟨w', hb⟩, rfl⟩
section
variable (a : Option Addr) (n c : Nat) (bs : List Int) (w : World) (hr : Row w a (byteCells bs)) (hl : bs.length = n) (hn : n ≤ 4096) (hx : ∀ x ∈ bs, 0 ≤ x ∧ x ≤ 255)
include hr hl hn hx
set_option maxRecDepth 4000 in
set_option maxHeartbeats 4000000 in
theorem drawMinimalRepairs_any : Calls Tryz.prog 30 #[.slice a n c] w (RetLst w) := by
  replace hr := Lib.hid hr
  replace hl := Lib.hid hl
  replace hx := Lib.hid hx
  go_enter Tryz.func30, Tryz.ntmps30
  go_wp2_with fail
  with_reducible refine (from_any a n c bs _ (hr.out.bel (by (repeat (first | (with_reducible exact Below.refl _ _) | (with_reducible assumption) | (with_reducible refine Later.out _ ?_) | (with_reducible refine bel_alloc ?_ _) | (with_reducible refine bel_drew ?_) | (with_reducible refine bel_drewN ?_ _) | (with_reducible refine bel_set ?_ ?_ _) | (with_reducible refine After.out _ ?_ ?_) | (dsimp only; omega) | omega | (simp only [World.size_alloc, World.size_setCell, World.size_drew]; omega))))) hl.out hn hx.out).mono ?_
  rintro e w' ⟨g, hg, rfl, y, rfl, hsrc⟩
  have hsy := y.bel.size
  (try simp only [World.size_alloc, World.size_setCell, World.size_drew] at hg hsy)
  have H0 := Lib.hid hsrc
  have hgy := hsrc.lt
  clear hsrc
  go_wp2_with fail
  with_reducible refine (sCircList_any g _ (by (repeat (first | (with_reducible exact H0.out) | (with_reducible refine SrcOk.alloc ?_ _) | (with_reducible refine SrcOk.set ?_ ?_ _) | (with_reducible refine SrcOk.drewN ?_ _) | (with_reducible refine SrcOk.drew ?_) | (with_reducible refine SrcOk.later _ ?_) | (with_reducible refine SrcOk.after _ ?_ ?_) | (dsimp only; omega) | omega | ((try simp only [World.size_alloc, World.size_setCell, World.size_drew]); omega))))).mono ?_
  rintro e w' ⟨L, aL, cL, hokL, hL, rfl, z1, rfl, hsrc, hoL⟩
  have hs1 := z1.btw.size
  have H1 := Lib.hid hsrc
  (try simp only [World.size_alloc, World.size_setCell, World.size_drew] at hs1 hoL)
  replace hoL := Lib.hid hoL
  replace hokL := Lib.hid hokL
  clear hsrc
  go_wp2_with fail
  refine bodyPost_ret (by simp [results, Tryz.results30, go_sem, ↓IntWalk.iteOmega, *]; try rfl) rfl ?_
  refine RetLst.mk hokL.out (by omega) rfl ?_ ?_
  · (repeat (first | (with_reducible exact Below.refl _ _) | (with_reducible assumption) | (with_reducible refine Later.out _ ?_) | (with_reducible refine bel_alloc ?_ _) | (with_reducible refine bel_drew ?_) | (with_reducible refine bel_drewN ?_ _) | (with_reducible refine bel_set ?_ ?_ _) | (with_reducible refine After.out _ ?_ ?_) | (dsimp only; omega) | omega | (simp only [World.size_alloc, World.size_setCell, World.size_drew]; omega)))
  · refine owns_wide (lo := y.w.heap.size) (hi := z1.w.heap.size) ?_ (by omega) (by (try simp only [World.size_alloc, World.size_setCell, World.size_drew]); omega)
    (repeat (first | (with_reducible exact hoL.out) | (with_reducible refine owns_after _ ?_ ?_) | (with_reducible refine owns_later _ ?_ ?_) | (with_reducible refine owns_alloc ?_ _) | (with_reducible refine owns_set ?_ ?_ _) | (with_reducible refine Owns.drewN ?_ _) | (with_reducible refine owns_drew ?_) | (dsimp only; omega) | omega | ((try simp only [World.size_alloc, World.size_setCell, World.size_drew]); omega)))
omit hr hl hn hx in
theorem bestR_short {L : List Clm} (h12 : L.length ≤ 12) : (bestR L).length ≤ 12 := by
  unfold bestR bestL
  rcases Nat.lt_or_ge (minI (wtLt L) (minZ (repG L) L.length []) ((minZ (repG L) L.length []).length - 1)) (minZ (repG L) L.length []).length with h1 | h1
  · rw [getD_at h1]
    have := ixs_len ((mem_minZ (repG_mono L) (ixs_nil _) _).1 (List.getElem_mem h1)).1
    omega
  · rw [getD_out h1]; simp
set_option maxRecDepth 4000 in
set_option maxHeartbeats 8000000 in
theorem drawRemoved_any : Calls Tryz.prog 107 #[.slice a n c] w (RetLstIx w) := by
  obtain ⟨ii, j1, j2, j3, j4⟩ := info_i64'
  have Jii := Lib.hid (And.intro j1 (And.intro j2 (And.intro j3 j4)))
  clear j1 j2 j3 j4
  replace hr := Lib.hid hr
  replace hl := Lib.hid hl
  replace hx := Lib.hid hx
  go_enter Tryz.func107, Tryz.ntmps107
  go_wp2_with fail
  with_reducible refine (from_any a n c bs _ (hr.out.bel (by (repeat (first | (with_reducible exact Below.refl _ _) | (with_reducible assumption) | (with_reducible refine Later.out _ ?_) | (with_reducible refine bel_alloc ?_ _) | (with_reducible refine bel_drew ?_) | (with_reducible refine bel_drewN ?_ _) | (with_reducible refine bel_set ?_ ?_ _) | (with_reducible refine After.out _ ?_ ?_) | (dsimp only; omega) | omega | (simp only [World.size_alloc, World.size_setCell, World.size_drew]; omega))))) hl.out hn hx.out).mono ?_
  rintro e w' ⟨g, hg, rfl, y, rfl, hsrc⟩
  have hsy := y.bel.size
  (try simp only [World.size_alloc, World.size_setCell, World.size_drew] at hg hsy)
  have H0 := Lib.hid hsrc
  have hgy := hsrc.lt
  clear hsrc
  go_wp2_with fail
  with_reducible refine (sCircList_any g _ (by (repeat (first | (with_reducible exact H0.out) | (with_reducible refine SrcOk.alloc ?_ _) | (with_reducible refine SrcOk.set ?_ ?_ _) | (with_reducible refine SrcOk.drewN ?_ _) | (with_reducible refine SrcOk.drew ?_) | (with_reducible refine SrcOk.later _ ?_) | (with_reducible refine SrcOk.after _ ?_ ?_) | (dsimp only; omega) | omega | ((try simp only [World.size_alloc, World.size_setCell, World.size_drew]); omega))))).mono ?_
  rintro e w' ⟨L, aL, cL, hokL, hL, rfl, z1, rfl, hsrc, hoL⟩
  have hs1 := z1.btw.size
  have H1 := Lib.hid hsrc
  (try simp only [World.size_alloc, World.size_setCell, World.size_drew] at hs1 hoL)
  replace hoL := Lib.hid hoL
  replace hokL := Lib.hid hokL
  clear hsrc
  have okL : ∀ x ∈ L, ClmOk x := fun x hx => okC_ok (hokL.out x hx)
  cases hcl : claimsB L
  · have CA := Lib.hid (fun w hr => sAreClaims_b (L := L) (a := aL) (n := L.length) (c := cL) (w := w) rfl (by omega) hr okL hcl)
    clear hcl okL
    go_wp2_with fail
    with_reducible refine (CA.out _ (hoL.out.row.bel (by (repeat (first | (with_reducible exact Below.refl _ _) | (with_reducible assumption) | (with_reducible refine Later.out _ ?_) | (with_reducible refine bel_alloc ?_ _) | (with_reducible refine bel_drew ?_) | (with_reducible refine bel_drewN ?_ _) | (with_reducible refine bel_set ?_ ?_ _) | (with_reducible refine After.out _ ?_ ?_) | (dsimp only; omega) | omega | (simp only [World.size_alloc, World.size_setCell, World.size_drew]; omega)))))).mono ?_
    rintro e w' ⟨rfl, y4, rfl⟩
    have hsy4 := y4.bel.size
    (try simp only [World.size_alloc, World.size_setCell, World.size_drew] at hsy4)
    go_wp2_with fail
    with_reducible refine (sIndices_any g _ _ _ _ (by (repeat (first | (with_reducible exact H1.out) | (with_reducible refine SrcOk.alloc ?_ _) | (with_reducible refine SrcOk.set ?_ ?_ _) | (with_reducible refine SrcOk.drewN ?_ _) | (with_reducible refine SrcOk.drew ?_) | (with_reducible refine SrcOk.later _ ?_) | (with_reducible refine SrcOk.after _ ?_ ?_) | (dsimp only; omega) | omega | ((try simp only [World.size_alloc, World.size_setCell, World.size_drew]); omega)))) (by omega)).mono ?_
    rintro e w' ⟨S, aS, cS, hS, rfl, z2, rfl, hsrc, hoS⟩
    have hs2 := z2.btw.size
    have H2 := Lib.hid hsrc
    (try simp only [World.size_alloc, World.size_setCell, World.size_drew] at hs2 hoS)
    replace hoS := Lib.hid hoS
    clear hsrc
    go_wp2_with fail
    refine bodyPost_ret (by simp [results, Tryz.results107, go_sem, ↓IntWalk.iteOmega, *]; try rfl) rfl ?_
    refine RetLstIx.mk hokL.out (by omega) (by omega) rfl ?_ ?_ ?_
    · (repeat (first | (with_reducible exact Below.refl _ _) | (with_reducible assumption) | (with_reducible refine Later.out _ ?_) | (with_reducible refine bel_alloc ?_ _) | (with_reducible refine bel_drew ?_) | (with_reducible refine bel_drewN ?_ _) | (with_reducible refine bel_set ?_ ?_ _) | (with_reducible refine After.out _ ?_ ?_) | (dsimp only; omega) | omega | (simp only [World.size_alloc, World.size_setCell, World.size_drew]; omega)))
    · refine owns_wide (lo := y.w.heap.size) (hi := z1.w.heap.size) ?_ (by omega) (by (try simp only [World.size_alloc, World.size_setCell, World.size_drew]); omega)
      (repeat (first | (with_reducible exact hoL.out) | (with_reducible refine owns_after _ ?_ ?_) | (with_reducible refine owns_later _ ?_ ?_) | (with_reducible refine owns_alloc ?_ _) | (with_reducible refine owns_set ?_ ?_ _) | (with_reducible refine Owns.drewN ?_ _) | (with_reducible refine owns_drew ?_) | (dsimp only; omega) | omega | ((try simp only [World.size_alloc, World.size_setCell, World.size_drew]); omega)))
    · refine owns_wide (lo := y4.w.heap.size) (hi := z2.w.heap.size) ?_ (by omega) (by (try simp only [World.size_alloc, World.size_setCell, World.size_drew]); omega)
      (repeat (first | (with_reducible exact hoS.out) | (with_reducible refine owns_after _ ?_ ?_) | (with_reducible refine owns_later _ ?_ ?_) | (with_reducible refine owns_alloc ?_ _) | (with_reducible refine owns_set ?_ ?_ _) | (with_reducible refine Owns.drewN ?_ _) | (with_reducible refine owns_drew ?_) | (dsimp only; omega) | omega | ((try simp only [World.size_alloc, World.size_setCell, World.size_drew]); omega)))
  · have h12 := len_of_claims hcl
    have hv : Named L := named_of fun c hc => claim_of_claims hcl hc
    have CA := Lib.hid (fun w hr => sAreClaims_b (L := L) (a := aL) (n := L.length) (c := cL) (w := w) rfl (by omega) hr okL hcl)
    have CB := Lib.hid (fun (w : World) hr => sBest_any L aL cL w h12 hv hr)
    have hT := bestR_short h12
    obtain ⟨T, hTe⟩ : ∃ T, bestR L = T := ⟨_, rfl⟩
    rw [hTe] at CB hT
    clear hcl okL hv hTe
    go_wp2_with fail
    with_reducible refine (CA.out _ (hoL.out.row.bel (by (repeat (first | (with_reducible exact Below.refl _ _) | (with_reducible assumption) | (with_reducible refine Later.out _ ?_) | (with_reducible refine bel_alloc ?_ _) | (with_reducible refine bel_drew ?_) | (with_reducible refine bel_drewN ?_ _) | (with_reducible refine bel_set ?_ ?_ _) | (with_reducible refine After.out _ ?_ ?_) | (dsimp only; omega) | omega | (simp only [World.size_alloc, World.size_setCell, World.size_drew]; omega)))))).mono ?_
    rintro e w' ⟨rfl, y4, rfl⟩
    have hsy4 := y4.bel.size
    (try simp only [World.size_alloc, World.size_setCell, World.size_drew] at hsy4)
    go_wp2_with fail
    with_reducible refine (next_any g 3 _ (by (repeat (first | (with_reducible exact H1.out) | (with_reducible refine SrcOk.alloc ?_ _) | (with_reducible refine SrcOk.set ?_ ?_ _) | (with_reducible refine SrcOk.drewN ?_ _) | (with_reducible refine SrcOk.drew ?_) | (with_reducible refine SrcOk.later _ ?_) | (with_reducible refine SrcOk.after _ ?_ ?_) | (dsimp only; omega) | omega | ((try simp only [World.size_alloc, World.size_setCell, World.size_drew]); omega))))).mono ?_
    rintro e w' ⟨p5, hdraw, rfl, z5, rfl, hsrc⟩
    have hsz5 := z5.btw.size
    (try simp only [World.size_alloc, World.size_setCell, World.size_drew] at hsz5)
    have H5 := Lib.hid hsrc
    clear hsrc
    obtain ⟨p50, p51⟩ := hdraw
    by_cases hp5 : p5 > 0
    · skip
      go_wp2_with fail
      with_reducible refine (CB.out _ ((by (repeat (first | (with_reducible exact hoL.out) | (with_reducible refine owns_after _ ?_ ?_) | (with_reducible refine owns_later _ ?_ ?_) | (with_reducible refine owns_alloc ?_ _) | (with_reducible refine owns_set ?_ ?_ _) | (with_reducible refine Owns.drewN ?_ _) | (with_reducible refine owns_drew ?_) | (dsimp only; omega) | omega | ((try simp only [World.size_alloc, World.size_setCell, World.size_drew]); omega))) : Owns _ y.w.heap.size z1.w.heap.size 27 7 L.length aL cL (clmsCells L))).row).mono ?_
      rintro e w' ⟨a6, c6, rfl, hown, y6, rfl⟩
      have hsy6 := y6.bel.size
      (try simp only [World.size_alloc, World.size_setCell, World.size_drew] at hsy6)
      have O6 := Lib.hid (Owns.of hown)
      clear hown
      have CH := Lib.hid (fun (x : Int) (b : Bool) (h : T.contains x = b) (w : World) hr => sHas_b (x := x) (S := T) (a := a6) (n := T.length) (c := c6) (w := w) rfl (by omega) hr h)
      go_wp2_with fail
      with_reducible refine (next_any g 2 _ (by (repeat (first | (with_reducible exact H5.out) | (with_reducible refine SrcOk.alloc ?_ _) | (with_reducible refine SrcOk.set ?_ ?_ _) | (with_reducible refine SrcOk.drewN ?_ _) | (with_reducible refine SrcOk.drew ?_) | (with_reducible refine SrcOk.later _ ?_) | (with_reducible refine SrcOk.after _ ?_ ?_) | (dsimp only; omega) | omega | ((try simp only [World.size_alloc, World.size_setCell, World.size_drew]); omega))))).mono ?_
      rintro e w' ⟨p7, hdraw, rfl, z7, rfl, hsrc⟩
      have hsz7 := z7.btw.size
      (try simp only [World.size_alloc, World.size_setCell, World.size_drew] at hsz7)
      have H7 := Lib.hid hsrc
      clear hsrc
      obtain ⟨p70, p71⟩ := hdraw
      rcases (show p7 = 0 ∨ p7 = 1 by omega) with rfl | rfl
      · go_wp2_with fail
        refine bodyPost_ret (by simp [results, Tryz.results107, go_sem, ↓IntWalk.iteOmega, *]; try rfl) rfl ?_
        refine RetLstIx.mk (S := T) hokL.out (by omega) (by omega) rfl ?_ ?_ ?_
        · (repeat (first | (with_reducible exact Below.refl _ _) | (with_reducible assumption) | (with_reducible refine Later.out _ ?_) | (with_reducible refine bel_alloc ?_ _) | (with_reducible refine bel_drew ?_) | (with_reducible refine bel_drewN ?_ _) | (with_reducible refine bel_set ?_ ?_ _) | (with_reducible refine After.out _ ?_ ?_) | (dsimp only; omega) | omega | (simp only [World.size_alloc, World.size_setCell, World.size_drew]; omega)))
        · refine owns_wide (lo := y.w.heap.size) (hi := z1.w.heap.size) ?_ (by omega) (by (try simp only [World.size_alloc, World.size_setCell, World.size_drew]); omega)
          (repeat (first | (with_reducible exact hoL.out) | (with_reducible refine owns_after _ ?_ ?_) | (with_reducible refine owns_later _ ?_ ?_) | (with_reducible refine owns_alloc ?_ _) | (with_reducible refine owns_set ?_ ?_ _) | (with_reducible refine Owns.drewN ?_ _) | (with_reducible refine owns_drew ?_) | (dsimp only; omega) | omega | ((try simp only [World.size_alloc, World.size_setCell, World.size_drew]); omega)))
        · refine owns_wide (lo := z5.w.heap.size) (hi := y6.w.heap.size) ?_ (by omega) (by (try simp only [World.size_alloc, World.size_setCell, World.size_drew]); omega)
          (repeat (first | (with_reducible exact O6.out) | (with_reducible refine owns_after _ ?_ ?_) | (with_reducible refine owns_later _ ?_ ?_) | (with_reducible refine owns_alloc ?_ _) | (with_reducible refine owns_set ?_ ?_ _) | (with_reducible refine Owns.drewN ?_ _) | (with_reducible refine owns_drew ?_) | (dsimp only; omega) | omega | ((try simp only [World.size_alloc, World.size_setCell, World.size_drew]); omega)))
      · skip
        obtain ⟨V, hV⟩ : ∃ V, z7.w = V := ⟨_, rfl⟩
        have hBV : Below w.heap.size w V := by rw [← hV]; (repeat (first | (with_reducible exact Below.refl _ _) | (with_reducible assumption) | (with_reducible refine Later.out _ ?_) | (with_reducible refine bel_alloc ?_ _) | (with_reducible refine bel_drew ?_) | (with_reducible refine bel_drewN ?_ _) | (with_reducible refine bel_set ?_ ?_ _) | (with_reducible refine After.out _ ?_ ?_) | (dsimp only; omega) | omega | (simp only [World.size_alloc, World.size_setCell, World.size_drew]; omega)))
        have hOV : Owns V y.w.heap.size z1.w.heap.size 27 7 L.length aL cL (clmsCells L) := by rw [← hV]; (repeat (first | (with_reducible exact hoL.out) | (with_reducible refine owns_after _ ?_ ?_) | (with_reducible refine owns_later _ ?_ ?_) | (with_reducible refine owns_alloc ?_ _) | (with_reducible refine owns_set ?_ ?_ _) | (with_reducible refine Owns.drewN ?_ _) | (with_reducible refine owns_drew ?_) | (dsimp only; omega) | omega | ((try simp only [World.size_alloc, World.size_setCell, World.size_drew]); omega)))
        have HSV : SrcOk V g := by rw [← hV]; (repeat (first | (with_reducible exact H7.out) | (with_reducible refine SrcOk.alloc ?_ _) | (with_reducible refine SrcOk.set ?_ ?_ _) | (with_reducible refine SrcOk.drewN ?_ _) | (with_reducible refine SrcOk.drew ?_) | (with_reducible refine SrcOk.later _ ?_) | (with_reducible refine SrcOk.after _ ?_ ?_) | (dsimp only; omega) | omega | ((try simp only [World.size_alloc, World.size_setCell, World.size_drew]); omega)))
        have hzV : z1.w.heap.size ≤ V.heap.size := by rw [← hV]; omega
        have hO0 : Owns (V.alloc (.cells #[] 2)) V.heap.size (V.alloc (.cells #[] 2)).heap.size 2 1 0 (some ⟨V.heap.size, 0, none⟩) 0 (intCells []) := by
          have := Owns.of (World.ownsRow_lit (base := V.heap.size) (e := 2) (size := 1) V #[] 0 (Nat.le_refl _) (by unfold maxLen; omega) rfl)
          rw [show intCells [] = [] from rfl]
          exact this
        have hgV := HSV.lt
        have hTV : Owns V z5.w.heap.size y6.w.heap.size 2 1 T.length a6 c6 (intCells T) := by rw [← hV]; (repeat (first | (with_reducible exact O6.out) | (with_reducible refine owns_after _ ?_ ?_) | (with_reducible refine owns_later _ ?_ ?_) | (with_reducible refine owns_alloc ?_ _) | (with_reducible refine owns_set ?_ ?_ _) | (with_reducible refine Owns.drewN ?_ _) | (with_reducible refine owns_drew ?_) | (dsimp only; omega) | omega | ((try simp only [World.size_alloc, World.size_setCell, World.size_drew]); omega)))
        replace hTV := Lib.hid hTV
        have hzT : y6.w.heap.size ≤ V.heap.size := by rw [← hV]; omega
        rw [hV]
        replace hO0 := Lib.hid hO0
        replace hOV := Lib.hid hOV
        replace HSV := Lib.hid HSV
        clear hV
        go_wp2_with fail
        go_loopw [8, 9] (fun o i wr => ∃ (S : List Int) (k : Nat) (a : Option Addr) (c : Nat), S.length ≤ k ∧ k ≤ L.length ∧ i = .int .i64 k ∧ o = .slice a S.length c ∧ Owns wr V.heap.size wr.heap.size 2 1 S.length a c (intCells S) ∧ SrcOk wr g ∧ Between g (g + 1) V wr) (fun _ i _ => L.length - (intOf i).toNat)
        case atStart => exact ⟨[], 0, _, _, Nat.le_refl _, Nat.zero_le _, rfl, rfl, hO0.out, HSV.out.alloc _, btw_alloc (Between.refl _ _ _) _⟩
        case round =>
          obtain ⟨S, k, aS, cS, hSk, hk, rfl, rfl, ho, hs, hb⟩ := hrel
          obtain ⟨q, rfl⟩ := AfterC.mk hb
          have hqs := q.btw.size
          clear hb
          replace hs := Lib.hid hs
          replace ho := Lib.hid ho
          have hoL9 : Owns q.w y.w.heap.size z1.w.heap.size 27 7 L.length aL cL (clmsCells L) := by (repeat (first | (with_reducible exact hOV.out) | (with_reducible refine owns_after _ ?_ ?_) | (with_reducible refine owns_later _ ?_ ?_) | (with_reducible refine owns_alloc ?_ _) | (with_reducible refine owns_set ?_ ?_ _) | (with_reducible refine Owns.drewN ?_ _) | (with_reducible refine owns_drew ?_) | (dsimp only; omega) | omega | ((try simp only [World.size_alloc, World.size_setCell, World.size_drew]); omega)))
          have hT9 : Owns q.w z5.w.heap.size y6.w.heap.size 2 1 T.length a6 c6 (intCells T) := by (repeat (first | (with_reducible exact hTV.out) | (with_reducible refine owns_after _ ?_ ?_) | (with_reducible refine owns_later _ ?_ ?_) | (with_reducible refine owns_alloc ?_ _) | (with_reducible refine owns_set ?_ ?_ _) | (with_reducible refine Owns.drewN ?_ _) | (with_reducible refine owns_drew ?_) | (dsimp only; omega) | omega | ((try simp only [World.size_alloc, World.size_setCell, World.size_drew]); omega)))
          clear hO0 hOV HSV hTV
          by_cases hlt : k < L.length
          · have hi1 : (k : Int) < (L.length : Int) := by omega
            replace hoL9 := Lib.hid hoL9
            replace hT9 := Lib.hid hT9
            obtain ⟨B, hB⟩ : ∃ B, T.contains (k : Int) = B := ⟨_, rfl⟩
            have CK := Lib.hid (fun w hr => CH.out (k : Int) B hB w hr)
            clear hB
            go_wp2_with fail
            with_reducible refine (CK.out _ hT9.out.row).mono ?_
            rintro e w' ⟨rfl, y8, rfl⟩
            have hsy8 := y8.bel.size
            (try simp only [World.size_alloc, World.size_setCell, World.size_drew] at hsy8)
            cases B
            · skip
              go_wp2_with fail
              with_reducible refine (next_any g 4 _ (by (repeat (first | (with_reducible exact hs.out) | (with_reducible refine SrcOk.alloc ?_ _) | (with_reducible refine SrcOk.set ?_ ?_ _) | (with_reducible refine SrcOk.drewN ?_ _) | (with_reducible refine SrcOk.drew ?_) | (with_reducible refine SrcOk.later _ ?_) | (with_reducible refine SrcOk.after _ ?_ ?_) | (dsimp only; omega) | omega | ((try simp only [World.size_alloc, World.size_setCell, World.size_drew]); omega))))).mono ?_
              rintro e w' ⟨p, hdraw, rfl, z9, rfl, hsrc⟩
              have hsz9 := z9.btw.size
              (try simp only [World.size_alloc, World.size_setCell, World.size_drew] at hsz9)
              have H9 := Lib.hid hsrc
              clear hsrc
              obtain ⟨p0, p1⟩ := hdraw
              by_cases hp : p = 0
              · subst hp
                go_wp2_with (at_builtin; (refine wpList_append_apart _ rfl _ _ _ rfl 2 ii _ 1 8 Tryz.underlying35 Jii.out.1 Jii.out.2.1 Jii.out.2.2.1 Jii.out.2.2.2 rfl (by decide) (V.heap.size) (q.w.heap.size) ?qb9 _ _ _ (intCells S) rfl ?qb10 ?qb16 _ _ _ ([.int .i64 k]) rfl ?qb11 ?qb12 ?qb13 ?qb14 ?qb15 ?_); (case qb9 => (first | (dsimp only; omega) | omega | (simp only [World.size_alloc, World.size_setCell, World.size_drew]; omega))); (case qb10 => exact ((by (repeat (first | (with_reducible exact ho.out) | (with_reducible refine owns_after _ ?_ ?_) | (with_reducible refine owns_later _ ?_ ?_) | (with_reducible refine owns_alloc ?_ _) | (with_reducible refine owns_set ?_ ?_ _) | (with_reducible refine Owns.drewN ?_ _) | (with_reducible refine owns_drew ?_) | (dsimp only; omega) | omega | ((try simp only [World.size_alloc, World.size_setCell, World.size_drew]); omega))) : Owns _ V.heap.size q.w.heap.size 2 1 S.length aS cS (intCells S))).own); (case qb16 => exact ho.out.lt); (case qb11 => (first | rfl | (simp [boolCells]; done) | (simp [intCells]; done) | (simp; done) | (first | omega | (simp only [List.length_append, List.length_cons, List.length_nil]; omega)))); (case qb12 => exact Row.made _ _ _); (case qb13 => exact one_int1 _); (case qb14 => (unfold maxLen; (first | omega | (simp only [List.length_append, List.length_cons, List.length_nil]; omega)))); (case qb15 => (first | omega | (simp only [List.length_append, List.length_cons, List.length_nil]; omega))); intro a9 c9 x9 hown9 hat9; replace hat9 := Lib.hid hat9; replace hown9 := Lib.hid hown9; have hs9 := x9.btw.size; (try simp only [World.size_alloc, World.size_setCell, World.size_drew] at hs9))
                go_roundw
                case rel =>
                  refine ⟨S ++ [(k : Int)], k + 1, a9, c9, by simp; omega, by omega, by go_num, by simp, ?_, ?_, ?_⟩
                  · rw [intCells_snoc, show (S ++ [(k : Int)]).length = S.length + 1 by simp]
                    exact Owns.of hown9.out
                  · (repeat (first | (with_reducible exact H9.out) | (with_reducible refine SrcOk.alloc ?_ _) | (with_reducible refine SrcOk.set ?_ ?_ _) | (with_reducible refine SrcOk.drewN ?_ _) | (with_reducible refine SrcOk.drew ?_) | (with_reducible refine SrcOk.later _ ?_) | (with_reducible refine SrcOk.after _ ?_ ?_) | (dsimp only; omega) | omega | ((try simp only [World.size_alloc, World.size_setCell, World.size_drew]); omega)))
                  · (repeat (first | (with_reducible exact Between.refl _ _ _) | (with_reducible refine Between.drew ?_) | (with_reducible refine Between.drewN ?_ _) | (with_reducible refine btw_own ?_ ?_ _) | (with_reducible refine btw_later _ ?_) | (with_reducible refine btw_alloc ?_ _) | (with_reducible refine btw_after _ ?_) | (with_reducible refine btw_beyond _ ?_ ?_) | (with_reducible refine Aft.btw _ ?_ ?_) | (with_reducible assumption) | (dsimp only; omega) | omega | ((try simp only [World.size_alloc, World.size_setCell, World.size_drew]); omega)))
                case measure => first | (simp [intOf]; done) | (simp [intOf]; omega) | omega
              · have hp' : (p == 0) = false := by rw [beq_eq_false_iff_ne]; exact hp
                go_wp2_with fail
                go_roundw
                case rel =>
                  refine ⟨S, k + 1, aS, cS, by omega, by omega, by go_num, rfl, ?_, ?_, ?_⟩
                  · refine owns_wide (lo := V.heap.size) (hi := q.w.heap.size) ?_ (Nat.le_refl _) (by omega)
                    (repeat (first | (with_reducible exact ho.out) | (with_reducible refine owns_after _ ?_ ?_) | (with_reducible refine owns_later _ ?_ ?_) | (with_reducible refine owns_alloc ?_ _) | (with_reducible refine owns_set ?_ ?_ _) | (with_reducible refine Owns.drewN ?_ _) | (with_reducible refine owns_drew ?_) | (dsimp only; omega) | omega | ((try simp only [World.size_alloc, World.size_setCell, World.size_drew]); omega)))
                  · (repeat (first | (with_reducible exact H9.out) | (with_reducible refine SrcOk.alloc ?_ _) | (with_reducible refine SrcOk.set ?_ ?_ _) | (with_reducible refine SrcOk.drewN ?_ _) | (with_reducible refine SrcOk.drew ?_) | (with_reducible refine SrcOk.later _ ?_) | (with_reducible refine SrcOk.after _ ?_ ?_) | (dsimp only; omega) | omega | ((try simp only [World.size_alloc, World.size_setCell, World.size_drew]); omega)))
                  · (repeat (first | (with_reducible exact Between.refl _ _ _) | (with_reducible refine Between.drew ?_) | (with_reducible refine Between.drewN ?_ _) | (with_reducible refine btw_own ?_ ?_ _) | (with_reducible refine btw_later _ ?_) | (with_reducible refine btw_alloc ?_ _) | (with_reducible refine btw_after _ ?_) | (with_reducible refine btw_beyond _ ?_ ?_) | (with_reducible refine Aft.btw _ ?_ ?_) | (with_reducible assumption) | (dsimp only; omega) | omega | ((try simp only [World.size_alloc, World.size_setCell, World.size_drew]); omega)))
                case measure => first | (simp [intOf]; done) | (simp [intOf]; omega) | omega
            · skip
              go_wp2_with (at_builtin; (refine wpList_append_apart _ rfl _ _ _ rfl 2 ii _ 1 8 Tryz.underlying35 Jii.out.1 Jii.out.2.1 Jii.out.2.2.1 Jii.out.2.2.2 rfl (by decide) (V.heap.size) (q.w.heap.size) ?qb17 _ _ _ (intCells S) rfl ?qb18 ?qb24 _ _ _ ([.int .i64 k]) rfl ?qb19 ?qb20 ?qb21 ?qb22 ?qb23 ?_); (case qb17 => (first | (dsimp only; omega) | omega | (simp only [World.size_alloc, World.size_setCell, World.size_drew]; omega))); (case qb18 => exact ((by (repeat (first | (with_reducible exact ho.out) | (with_reducible refine owns_after _ ?_ ?_) | (with_reducible refine owns_later _ ?_ ?_) | (with_reducible refine owns_alloc ?_ _) | (with_reducible refine owns_set ?_ ?_ _) | (with_reducible refine Owns.drewN ?_ _) | (with_reducible refine owns_drew ?_) | (dsimp only; omega) | omega | ((try simp only [World.size_alloc, World.size_setCell, World.size_drew]); omega))) : Owns _ V.heap.size q.w.heap.size 2 1 S.length aS cS (intCells S))).own); (case qb24 => exact ho.out.lt); (case qb19 => (first | rfl | (simp [boolCells]; done) | (simp [intCells]; done) | (simp; done) | (first | omega | (simp only [List.length_append, List.length_cons, List.length_nil]; omega)))); (case qb20 => exact Row.made _ _ _); (case qb21 => exact one_int1 _); (case qb22 => (unfold maxLen; (first | omega | (simp only [List.length_append, List.length_cons, List.length_nil]; omega)))); (case qb23 => (first | omega | (simp only [List.length_append, List.length_cons, List.length_nil]; omega))); intro a9 c9 x9 hown9 hat9; replace hat9 := Lib.hid hat9; replace hown9 := Lib.hid hown9; have hs9 := x9.btw.size; (try simp only [World.size_alloc, World.size_setCell, World.size_drew] at hs9))
              go_roundw
              case rel =>
                refine ⟨S ++ [(k : Int)], k + 1, a9, c9, by simp; omega, by omega, by go_num, by simp, ?_, ?_, ?_⟩
                · rw [intCells_snoc, show (S ++ [(k : Int)]).length = S.length + 1 by simp]
                  exact Owns.of hown9.out
                · (repeat (first | (with_reducible exact hs.out) | (with_reducible refine SrcOk.alloc ?_ _) | (with_reducible refine SrcOk.set ?_ ?_ _) | (with_reducible refine SrcOk.drewN ?_ _) | (with_reducible refine SrcOk.drew ?_) | (with_reducible refine SrcOk.later _ ?_) | (with_reducible refine SrcOk.after _ ?_ ?_) | (dsimp only; omega) | omega | ((try simp only [World.size_alloc, World.size_setCell, World.size_drew]); omega)))
                · (repeat (first | (with_reducible exact Between.refl _ _ _) | (with_reducible refine Between.drew ?_) | (with_reducible refine Between.drewN ?_ _) | (with_reducible refine btw_own ?_ ?_ _) | (with_reducible refine btw_later _ ?_) | (with_reducible refine btw_alloc ?_ _) | (with_reducible refine btw_after _ ?_) | (with_reducible refine btw_beyond _ ?_ ?_) | (with_reducible refine Aft.btw _ ?_ ?_) | (with_reducible assumption) | (dsimp only; omega) | omega | ((try simp only [World.size_alloc, World.size_setCell, World.size_drew]); omega)))
              case measure => first | (simp [intOf]; done) | (simp [intOf]; omega) | omega
          · obtain rfl : k = L.length := by omega
            have hi1 : ¬ (L.length : Int) < (L.length : Int) := by omega
            go_wp2_with fail
            refine bodyPost_ret (by simp [results, Tryz.results107, go_sem, ↓IntWalk.iteOmega, *]; try rfl) rfl ?_
            refine RetLstIx.mk (S := S) hokL.out (by omega) (by omega) rfl ?_ ?_ ?_
            · have hbq : Below w.heap.size w q.w := ⟨q.btw.os.trans hBV.os, q.btw.tape.trans hBV.tape, q.btw.output.trans hBV.output, Nat.le_trans hBV.size q.btw.size, fun i hi => (q.btw.block i (Nat.lt_of_lt_of_le hi hBV.size) (by omega)).trans (hBV.block i hi)⟩
              (repeat (first | (with_reducible exact Below.refl _ _) | (with_reducible assumption) | (with_reducible refine Later.out _ ?_) | (with_reducible refine bel_alloc ?_ _) | (with_reducible refine bel_drew ?_) | (with_reducible refine bel_drewN ?_ _) | (with_reducible refine bel_set ?_ ?_ _) | (with_reducible refine After.out _ ?_ ?_) | (dsimp only; omega) | omega | (simp only [World.size_alloc, World.size_setCell, World.size_drew]; omega)))
            · refine owns_wide (lo := y.w.heap.size) (hi := z1.w.heap.size) ?_ (by omega) (by (try simp only [World.size_alloc, World.size_setCell, World.size_drew]); omega)
              (repeat (first | (with_reducible exact hoL9) | (with_reducible refine owns_after _ ?_ ?_) | (with_reducible refine owns_later _ ?_ ?_) | (with_reducible refine owns_alloc ?_ _) | (with_reducible refine owns_set ?_ ?_ _) | (with_reducible refine Owns.drewN ?_ _) | (with_reducible refine owns_drew ?_) | (dsimp only; omega) | omega | ((try simp only [World.size_alloc, World.size_setCell, World.size_drew]); omega)))
            · refine owns_wide (lo := V.heap.size) (hi := q.w.heap.size) ?_ (by omega) (by (try simp only [World.size_alloc, World.size_setCell, World.size_drew]); omega)
              (repeat (first | (with_reducible exact ho.out) | (with_reducible refine owns_after _ ?_ ?_) | (with_reducible refine owns_later _ ?_ ?_) | (with_reducible refine owns_alloc ?_ _) | (with_reducible refine owns_set ?_ ?_ _) | (with_reducible refine Owns.drewN ?_ _) | (with_reducible refine owns_drew ?_) | (dsimp only; omega) | omega | ((try simp only [World.size_alloc, World.size_setCell, World.size_drew]); omega)))
    · skip
      go_wp2_with fail
      with_reducible refine (sIndices_any g _ _ _ _ (by (repeat (first | (with_reducible exact H5.out) | (with_reducible refine SrcOk.alloc ?_ _) | (with_reducible refine SrcOk.set ?_ ?_ _) | (with_reducible refine SrcOk.drewN ?_ _) | (with_reducible refine SrcOk.drew ?_) | (with_reducible refine SrcOk.later _ ?_) | (with_reducible refine SrcOk.after _ ?_ ?_) | (dsimp only; omega) | omega | ((try simp only [World.size_alloc, World.size_setCell, World.size_drew]); omega)))) (by omega)).mono ?_
      rintro e w' ⟨S, aS, cS, hS, rfl, z2, rfl, hsrc, hoS⟩
      have hs2 := z2.btw.size
      have H2 := Lib.hid hsrc
      (try simp only [World.size_alloc, World.size_setCell, World.size_drew] at hs2 hoS)
      replace hoS := Lib.hid hoS
      clear hsrc
      go_wp2_with fail
      refine bodyPost_ret (by simp [results, Tryz.results107, go_sem, ↓IntWalk.iteOmega, *]; try rfl) rfl ?_
      refine RetLstIx.mk hokL.out (by omega) (by omega) rfl ?_ ?_ ?_
      · (repeat (first | (with_reducible exact Below.refl _ _) | (with_reducible assumption) | (with_reducible refine Later.out _ ?_) | (with_reducible refine bel_alloc ?_ _) | (with_reducible refine bel_drew ?_) | (with_reducible refine bel_drewN ?_ _) | (with_reducible refine bel_set ?_ ?_ _) | (with_reducible refine After.out _ ?_ ?_) | (dsimp only; omega) | omega | (simp only [World.size_alloc, World.size_setCell, World.size_drew]; omega)))
      · refine owns_wide (lo := y.w.heap.size) (hi := z1.w.heap.size) ?_ (by omega) (by (try simp only [World.size_alloc, World.size_setCell, World.size_drew]); omega)
        (repeat (first | (with_reducible exact hoL.out) | (with_reducible refine owns_after _ ?_ ?_) | (with_reducible refine owns_later _ ?_ ?_) | (with_reducible refine owns_alloc ?_ _) | (with_reducible refine owns_set ?_ ?_ _) | (with_reducible refine Owns.drewN ?_ _) | (with_reducible refine owns_drew ?_) | (dsimp only; omega) | omega | ((try simp only [World.size_alloc, World.size_setCell, World.size_drew]); omega)))
      · refine owns_wide (lo := z5.w.heap.size) (hi := z2.w.heap.size) ?_ (by omega) (by (try simp only [World.size_alloc, World.size_setCell, World.size_drew]); omega)
        (repeat (first | (with_reducible exact hoS.out) | (with_reducible refine owns_after _ ?_ ?_) | (with_reducible refine owns_later _ ?_ ?_) | (with_reducible refine owns_alloc ?_ _) | (with_reducible refine owns_set ?_ ?_ _) | (with_reducible refine Owns.drewN ?_ _) | (with_reducible refine owns_drew ?_) | (dsimp only; omega) | omega | ((try simp only [World.size_alloc, World.size_setCell, World.size_drew]); omega)))
set_option maxRecDepth 4000 in
set_option maxHeartbeats 4000000 in
theorem drawIsRepair_any : Calls Tryz.prog 33 #[.slice a n c] w (RetLstIx w) := by
  replace hr := Lib.hid hr
  replace hl := Lib.hid hl
  replace hx := Lib.hid hx
  go_enter Tryz.func33, Tryz.ntmps33
  go_wp2_with fail
  with_reducible refine (drawRemoved_any a n c bs _ (hr.out.bel (by (repeat (first | (with_reducible exact Below.refl _ _) | (with_reducible assumption) | (with_reducible refine Later.out _ ?_) | (with_reducible refine bel_alloc ?_ _) | (with_reducible refine bel_drew ?_) | (with_reducible refine bel_drewN ?_ _) | (with_reducible refine bel_set ?_ ?_ _) | (with_reducible refine After.out _ ?_ ?_) | (dsimp only; omega) | omega | (simp only [World.size_alloc, World.size_setCell, World.size_drew]; omega))))) hl.out hn hx.out).mono ?_
  rintro e w' ⟨L, aL, cL, S, aS, cS, hokL, hL, hS, rfl, z, rfl, hoL, hoS⟩
  have hsz := z.bel.size
  (try simp only [World.size_alloc, World.size_setCell, World.size_drew] at hsz hoL hoS)
  replace hoL := Lib.hid hoL
  replace hoS := Lib.hid hoS
  go_wp2_with fail
  refine bodyPost_ret (by simp [results, Tryz.results33, go_sem, ↓IntWalk.iteOmega, *]; try rfl) rfl ?_
  refine RetLstIx.mk hokL hL hS rfl ?_ ?_ ?_
  · (repeat (first | (with_reducible exact Below.refl _ _) | (with_reducible assumption) | (with_reducible refine Later.out _ ?_) | (with_reducible refine bel_alloc ?_ _) | (with_reducible refine bel_drew ?_) | (with_reducible refine bel_drewN ?_ _) | (with_reducible refine bel_set ?_ ?_ _) | (with_reducible refine After.out _ ?_ ?_) | (dsimp only; omega) | omega | (simp only [World.size_alloc, World.size_setCell, World.size_drew]; omega)))
  · refine owns_wide (lo := w.heap.size) (hi := z.w.heap.size) ?_ (by omega) (by (try simp only [World.size_alloc, World.size_setCell, World.size_drew]); omega)
    (repeat (first | (with_reducible exact hoL.out) | (with_reducible refine owns_after _ ?_ ?_) | (with_reducible refine owns_later _ ?_ ?_) | (with_reducible refine owns_alloc ?_ _) | (with_reducible refine owns_set ?_ ?_ _) | (with_reducible refine Owns.drewN ?_ _) | (with_reducible refine owns_drew ?_) | (dsimp only; omega) | omega | ((try simp only [World.size_alloc, World.size_setCell, World.size_drew]); omega)))
  · refine owns_wide (lo := w.heap.size) (hi := z.w.heap.size) ?_ (by omega) (by (try simp only [World.size_alloc, World.size_setCell, World.size_drew]); omega)
    (repeat (first | (with_reducible exact hoS.out) | (with_reducible refine owns_after _ ?_ ?_) | (with_reducible refine owns_later _ ?_ ?_) | (with_reducible refine owns_alloc ?_ _) | (with_reducible refine owns_set ?_ ?_ _) | (with_reducible refine Owns.drewN ?_ _) | (with_reducible refine owns_drew ?_) | (dsimp only; omega) | omega | ((try simp only [World.size_alloc, World.size_setCell, World.size_drew]); omega)))
end
end Go.Proofs.YtflcfdiochohgaaGreatDoor

import Derived.Test.YtflcfdiochohgaaGreatDoorDrawD
import Derived.Test.YtflcfdiochohgaaGreatDoorPackB
import Derived.Test.YtflcfdiochohgaaGreatDoorPackA
import Derived.Test.YtflcfdiochohgaaGreatDoorPackAb
/- The draws of indices and of lists of claims with circles. -/
set_option linter.unusedSimpArgs false
set_option linter.unusedVariables false
namespace Go.Proofs.YtflcfdiochohgaaGreatDoor
open Go.RowKit
/-- Some numbers, whatever they are. -/
def RetIxD (w : World) (g M : Nat) (e : Ending) (w' : World) : Prop :=
  ∃ (S : List Int) (a : Option Addr) (c : Nat), S.length ≤ M ∧ e = .returned (.slice a S.length c) ∧ ∃ z : After w g (g + 1), w' = z.w ∧ SrcOk z.w g ∧ Owns z.w w.heap.size z.w.heap.size 2 1 S.length a c (intCells S)
theorem RetIxD.mk {w w' : World} {g M : Nat} {e : Ending} {S : List Int} {a : Option Addr} {c : Nat} (hl : S.length ≤ M) (he : e = .returned (.slice a S.length c)) (hb : Between g (g + 1) w w') (hs : SrcOk w' g) (ho : Owns w' w.heap.size w'.heap.size 2 1 S.length a c (intCells S)) : RetIxD w g M e w' :=
  ⟨S, a, c, hl, he, ⟨w', hb⟩, rfl, hs, ho⟩
set_option maxRecDepth 4000 in
set_option maxHeartbeats 8000000 in
theorem sIndices_any (g : Nat) (al : Option Addr) (n cl : Nat) (w : World) (h : SrcOk w g) (hn : n ≤ 100) : Calls Tryz.prog 96 #[.pointer (some ⟨g, 0, none⟩), .slice al n cl] w (RetIxD w g 101) := by
  have hg := h.lt
  have H0 := Lib.hid h
  obtain ⟨ii, j1, j2, j3, j4⟩ := info_i64'
  have Jii := Lib.hid (And.intro j1 (And.intro j2 (And.intro j3 j4)))
  have hO0 : Owns (w.alloc (.cells #[] 2)) w.heap.size (w.heap.size + 1) 2 1 0 (some ⟨w.heap.size, 0, none⟩) 0 (intCells []) := by
    have := Owns.of (World.ownsRow_lit (base := w.heap.size) (e := 2) (size := 1) w #[] 0 (Nat.le_refl _) (by unfold maxLen; omega) rfl)
    rw [show intCells [] = [] from rfl]
    simpa [World.size_alloc] using this
  have hO1 := owns_wide hO0 (Nat.le_refl _) (show w.heap.size + 1 ≤ (w.alloc (.cells #[] 2)).heap.size by simp)
  have hB1 : Between g (g + 1) w (w.alloc (.cells #[] 2)) := by (repeat (first | (with_reducible exact Between.refl _ _ _) | (with_reducible refine Between.drew ?_) | (with_reducible refine Between.drewN ?_ _) | (with_reducible refine btw_own ?_ ?_ _) | (with_reducible refine btw_later _ ?_) | (with_reducible refine btw_alloc ?_ _) | (with_reducible refine btw_after _ ?_) | (with_reducible refine btw_beyond _ ?_ ?_) | (with_reducible refine Aft.btw _ ?_ ?_) | (with_reducible assumption) | (dsimp only; omega) | omega | ((try simp only [World.size_alloc, World.size_setCell, World.size_drew]); omega)))
  have H1 : SrcOk (w.alloc (.cells #[] 2)) g := by (repeat (first | (with_reducible exact H0.out) | (with_reducible refine SrcOk.alloc ?_ _) | (with_reducible refine SrcOk.set ?_ ?_ _) | (with_reducible refine SrcOk.drewN ?_ _) | (with_reducible refine SrcOk.drew ?_) | (with_reducible refine SrcOk.later _ ?_) | (with_reducible refine SrcOk.after _ ?_ ?_) | (dsimp only; omega) | omega | ((try simp only [World.size_alloc, World.size_setCell, World.size_drew]); omega)))
  replace hO1 := Lib.hid hO1
  replace hB1 := Lib.hid hB1
  replace H1 := Lib.hid H1
  clear h j1 j2 j3 j4 hO0
  go_enter Tryz.func96, Tryz.ntmps96
  go_wp2_with fail
  go_loopw [5, 6] (fun o i wr => ∃ (S : List Int) (k : Nat) (a : Option Addr) (c : Nat), S.length ≤ k ∧ k ≤ n ∧ i = .int .i64 k ∧ o = .slice a S.length c ∧ Owns wr w.heap.size wr.heap.size 2 1 S.length a c (intCells S) ∧ SrcOk wr g ∧ Between g (g + 1) w wr) (fun _ i _ => n - (intOf i).toNat)
  case atStart => exact ⟨[], 0, _, _, Nat.le_refl _, Nat.zero_le _, rfl, rfl, hO1.out, H1.out, hB1.out⟩
  case round =>
    obtain ⟨S, k, a, c, hSk, hk, rfl, rfl, ho, hs, hb⟩ := hrel
    obtain ⟨q, rfl⟩ := AfterC.mk hb
    have hqs := q.btw.size
    clear hb hO1 hB1 H1
    replace hs := Lib.hid hs
    replace ho := Lib.hid ho
    by_cases hlt : k < n
    · have hi1 : (k : Int) < (n : Int) := by omega
      go_wp2_with fail
      with_reducible refine (next_any g 2 _ (by (repeat (first | (with_reducible exact hs.out) | (with_reducible refine SrcOk.alloc ?_ _) | (with_reducible refine SrcOk.set ?_ ?_ _) | (with_reducible refine SrcOk.drewN ?_ _) | (with_reducible refine SrcOk.drew ?_) | (with_reducible refine SrcOk.later _ ?_) | (with_reducible refine SrcOk.after _ ?_ ?_) | (dsimp only; omega) | omega | ((try simp only [World.size_alloc, World.size_setCell, World.size_drew]); omega))))).mono ?_
      rintro e w' ⟨p, hdraw, rfl, z5, rfl, hsrc⟩
      have hsz5 := z5.btw.size
      (try simp only [World.size_alloc, World.size_setCell, World.size_drew] at hsz5)
      have H5 := Lib.hid hsrc
      clear hsrc
      obtain ⟨p0, p1⟩ := hdraw
      rcases (show p = 0 ∨ p = 1 by omega) with rfl | rfl
      · go_wp2_with (at_builtin; (refine wpList_append_apart _ rfl _ _ _ rfl 2 ii _ 1 8 Tryz.underlying35 Jii.out.1 Jii.out.2.1 Jii.out.2.2.1 Jii.out.2.2.2 rfl (by decide) (w.heap.size) (q.w.heap.size) ?qb1 _ _ _ (intCells S) rfl ?qb2 ?qb8 _ _ _ ([.int .i64 k]) rfl ?qb3 ?qb4 ?qb5 ?qb6 ?qb7 ?_); (case qb1 => (first | (dsimp only; omega) | omega | (simp only [World.size_alloc, World.size_setCell, World.size_drew]; omega))); (case qb2 => exact ((by (repeat (first | (with_reducible exact ho.out) | (with_reducible refine owns_after _ ?_ ?_) | (with_reducible refine owns_later _ ?_ ?_) | (with_reducible refine owns_alloc ?_ _) | (with_reducible refine owns_set ?_ ?_ _) | (with_reducible refine Owns.drewN ?_ _) | (with_reducible refine owns_drew ?_) | (dsimp only; omega) | omega | ((try simp only [World.size_alloc, World.size_setCell, World.size_drew]); omega))) : Owns _ w.heap.size q.w.heap.size 2 1 S.length a c (intCells S))).own); (case qb8 => exact ho.out.lt); (case qb3 => (first | rfl | (simp [boolCells]; done) | (simp [intCells]; done) | (simp; done) | (first | omega | (simp only [List.length_append, List.length_cons, List.length_nil]; omega)))); (case qb4 => exact Row.made _ _ _); (case qb5 => exact one_int1 _); (case qb6 => (unfold maxLen; (first | omega | (simp only [List.length_append, List.length_cons, List.length_nil]; omega)))); (case qb7 => (first | omega | (simp only [List.length_append, List.length_cons, List.length_nil]; omega))); intro a9 c9 x9 hown9 hat9; replace hat9 := Lib.hid hat9; replace hown9 := Lib.hid hown9; have hs9 := x9.btw.size; (try simp only [World.size_alloc, World.size_setCell, World.size_drew] at hs9))
        go_roundw
        case rel =>
          refine ⟨S ++ [(k : Int)], k + 1, a9, c9, by simp; omega, by omega, by go_num, by simp, ?_, ?_, ?_⟩
          · rw [intCells_snoc, show (S ++ [(k : Int)]).length = S.length + 1 by simp]
            exact Owns.of hown9.out
          · (repeat (first | (with_reducible exact H5.out) | (with_reducible refine SrcOk.alloc ?_ _) | (with_reducible refine SrcOk.set ?_ ?_ _) | (with_reducible refine SrcOk.drewN ?_ _) | (with_reducible refine SrcOk.drew ?_) | (with_reducible refine SrcOk.later _ ?_) | (with_reducible refine SrcOk.after _ ?_ ?_) | (dsimp only; omega) | omega | ((try simp only [World.size_alloc, World.size_setCell, World.size_drew]); omega)))
          · (repeat (first | (with_reducible exact Between.refl _ _ _) | (with_reducible refine Between.drew ?_) | (with_reducible refine Between.drewN ?_ _) | (with_reducible refine btw_own ?_ ?_ _) | (with_reducible refine btw_later _ ?_) | (with_reducible refine btw_alloc ?_ _) | (with_reducible refine btw_after _ ?_) | (with_reducible refine btw_beyond _ ?_ ?_) | (with_reducible refine Aft.btw _ ?_ ?_) | (with_reducible assumption) | (dsimp only; omega) | omega | ((try simp only [World.size_alloc, World.size_setCell, World.size_drew]); omega)))
        case measure => first | (simp [intOf]; done) | (simp [intOf]; omega) | omega
      · go_wp2_with fail
        go_roundw
        case rel =>
          refine ⟨S, k + 1, a, c, by omega, by omega, by go_num, rfl, ?_, ?_, ?_⟩
          · refine owns_wide (lo := w.heap.size) (hi := q.w.heap.size) ?_ (Nat.le_refl _) (by omega)
            (repeat (first | (with_reducible exact ho.out) | (with_reducible refine owns_after _ ?_ ?_) | (with_reducible refine owns_later _ ?_ ?_) | (with_reducible refine owns_alloc ?_ _) | (with_reducible refine owns_set ?_ ?_ _) | (with_reducible refine Owns.drewN ?_ _) | (with_reducible refine owns_drew ?_) | (dsimp only; omega) | omega | ((try simp only [World.size_alloc, World.size_setCell, World.size_drew]); omega)))
          · (repeat (first | (with_reducible exact H5.out) | (with_reducible refine SrcOk.alloc ?_ _) | (with_reducible refine SrcOk.set ?_ ?_ _) | (with_reducible refine SrcOk.drewN ?_ _) | (with_reducible refine SrcOk.drew ?_) | (with_reducible refine SrcOk.later _ ?_) | (with_reducible refine SrcOk.after _ ?_ ?_) | (dsimp only; omega) | omega | ((try simp only [World.size_alloc, World.size_setCell, World.size_drew]); omega)))
          · (repeat (first | (with_reducible exact Between.refl _ _ _) | (with_reducible refine Between.drew ?_) | (with_reducible refine Between.drewN ?_ _) | (with_reducible refine btw_own ?_ ?_ _) | (with_reducible refine btw_later _ ?_) | (with_reducible refine btw_alloc ?_ _) | (with_reducible refine btw_after _ ?_) | (with_reducible refine btw_beyond _ ?_ ?_) | (with_reducible refine Aft.btw _ ?_ ?_) | (with_reducible assumption) | (dsimp only; omega) | omega | ((try simp only [World.size_alloc, World.size_setCell, World.size_drew]); omega)))
        case measure => first | (simp [intOf]; done) | (simp [intOf]; omega) | omega
    · obtain rfl : k = n := by omega
      have hi1 : ¬ (k : Int) < (k : Int) := by omega
      go_wp2_with fail
      with_reducible refine (next_any g 16 _ (by (repeat (first | (with_reducible exact hs.out) | (with_reducible refine SrcOk.alloc ?_ _) | (with_reducible refine SrcOk.set ?_ ?_ _) | (with_reducible refine SrcOk.drewN ?_ _) | (with_reducible refine SrcOk.drew ?_) | (with_reducible refine SrcOk.later _ ?_) | (with_reducible refine SrcOk.after _ ?_ ?_) | (dsimp only; omega) | omega | ((try simp only [World.size_alloc, World.size_setCell, World.size_drew]); omega))))).mono ?_
      rintro e w' ⟨p, hdraw, rfl, z5, rfl, hsrc⟩
      have hsz5 := z5.btw.size
      (try simp only [World.size_alloc, World.size_setCell, World.size_drew] at hsz5)
      have H5 := Lib.hid hsrc
      clear hsrc
      obtain ⟨p0, p1⟩ := hdraw
      by_cases hp : p = 0
      · subst hp
        go_wp2_with fail
        with_reducible refine (next_any g 14 _ (by (repeat (first | (with_reducible exact H5.out) | (with_reducible refine SrcOk.alloc ?_ _) | (with_reducible refine SrcOk.set ?_ ?_ _) | (with_reducible refine SrcOk.drewN ?_ _) | (with_reducible refine SrcOk.drew ?_) | (with_reducible refine SrcOk.later _ ?_) | (with_reducible refine SrcOk.after _ ?_ ?_) | (dsimp only; omega) | omega | ((try simp only [World.size_alloc, World.size_setCell, World.size_drew]); omega))))).mono ?_
        rintro e w' ⟨p2, hdraw, rfl, z6, rfl, hsrc⟩
        have hsz6 := z6.btw.size
        (try simp only [World.size_alloc, World.size_setCell, World.size_drew] at hsz6)
        have H6 := Lib.hid hsrc
        clear hsrc
        obtain ⟨p20, p21⟩ := hdraw
        go_wp2_with (at_builtin; (refine wpList_append_apart _ rfl _ _ _ rfl 2 ii _ 1 8 Tryz.underlying35 Jii.out.1 Jii.out.2.1 Jii.out.2.2.1 Jii.out.2.2.2 rfl (by decide) (w.heap.size) (q.w.heap.size) ?qb9 _ _ _ (intCells S) rfl ?qb10 ?qb16 _ _ _ ([.int .i64 (p2 - 1)]) rfl ?qb11 ?qb12 ?qb13 ?qb14 ?qb15 ?_); (case qb9 => (first | (dsimp only; omega) | omega | (simp only [World.size_alloc, World.size_setCell, World.size_drew]; omega))); (case qb10 => exact ((by (repeat (first | (with_reducible exact ho.out) | (with_reducible refine owns_after _ ?_ ?_) | (with_reducible refine owns_later _ ?_ ?_) | (with_reducible refine owns_alloc ?_ _) | (with_reducible refine owns_set ?_ ?_ _) | (with_reducible refine Owns.drewN ?_ _) | (with_reducible refine owns_drew ?_) | (dsimp only; omega) | omega | ((try simp only [World.size_alloc, World.size_setCell, World.size_drew]); omega))) : Owns _ w.heap.size q.w.heap.size 2 1 S.length a c (intCells S))).own); (case qb16 => exact ho.out.lt); (case qb11 => (first | rfl | (simp [boolCells]; done) | (simp [intCells]; done) | (simp; done) | (first | omega | (simp only [List.length_append, List.length_cons, List.length_nil]; omega)))); (case qb12 => exact Row.made _ _ _); (case qb13 => exact one_int1 _); (case qb14 => (unfold maxLen; (first | omega | (simp only [List.length_append, List.length_cons, List.length_nil]; omega)))); (case qb15 => (first | omega | (simp only [List.length_append, List.length_cons, List.length_nil]; omega))); intro a9 c9 x9 hown9 hat9; replace hat9 := Lib.hid hat9; replace hown9 := Lib.hid hown9; have hs9 := x9.btw.size; (try simp only [World.size_alloc, World.size_setCell, World.size_drew] at hs9))
        refine bodyPost_ret (by simp [results, Tryz.results96, go_sem, ↓IntWalk.iteOmega, *]; try rfl) rfl ?_
        refine RetIxD.mk (S := S ++ [p2 - 1]) (a := a9) (c := c9) (by simp; omega) (by simp) ?_ ?_ ?_
        · (repeat (first | (with_reducible exact Between.refl _ _ _) | (with_reducible refine Between.drew ?_) | (with_reducible refine Between.drewN ?_ _) | (with_reducible refine btw_own ?_ ?_ _) | (with_reducible refine btw_later _ ?_) | (with_reducible refine btw_alloc ?_ _) | (with_reducible refine btw_after _ ?_) | (with_reducible refine btw_beyond _ ?_ ?_) | (with_reducible refine Aft.btw _ ?_ ?_) | (with_reducible assumption) | (dsimp only; omega) | omega | ((try simp only [World.size_alloc, World.size_setCell, World.size_drew]); omega)))
        · (repeat (first | (with_reducible exact H6.out) | (with_reducible refine SrcOk.alloc ?_ _) | (with_reducible refine SrcOk.set ?_ ?_ _) | (with_reducible refine SrcOk.drewN ?_ _) | (with_reducible refine SrcOk.drew ?_) | (with_reducible refine SrcOk.later _ ?_) | (with_reducible refine SrcOk.after _ ?_ ?_) | (dsimp only; omega) | omega | ((try simp only [World.size_alloc, World.size_setCell, World.size_drew]); omega)))
        · rw [intCells_snoc, show (S ++ [p2 - 1]).length = S.length + 1 by simp]
          exact Owns.of hown9.out
      · have hp' : (p == 0) = false := by rw [beq_eq_false_iff_ne]; exact hp
        go_wp2_with fail
        refine bodyPost_ret (by simp [results, Tryz.results96, go_sem, ↓IntWalk.iteOmega, *]; try rfl) rfl ?_
        refine RetIxD.mk (S := S) (by omega) rfl ?_ ?_ ?_
        · (repeat (first | (with_reducible exact Between.refl _ _ _) | (with_reducible refine Between.drew ?_) | (with_reducible refine Between.drewN ?_ _) | (with_reducible refine btw_own ?_ ?_ _) | (with_reducible refine btw_later _ ?_) | (with_reducible refine btw_alloc ?_ _) | (with_reducible refine btw_after _ ?_) | (with_reducible refine btw_beyond _ ?_ ?_) | (with_reducible refine Aft.btw _ ?_ ?_) | (with_reducible assumption) | (dsimp only; omega) | omega | ((try simp only [World.size_alloc, World.size_setCell, World.size_drew]); omega)))
        · (repeat (first | (with_reducible exact H5.out) | (with_reducible refine SrcOk.alloc ?_ _) | (with_reducible refine SrcOk.set ?_ ?_ _) | (with_reducible refine SrcOk.drewN ?_ _) | (with_reducible refine SrcOk.drew ?_) | (with_reducible refine SrcOk.later _ ?_) | (with_reducible refine SrcOk.after _ ?_ ?_) | (dsimp only; omega) | omega | ((try simp only [World.size_alloc, World.size_setCell, World.size_drew]); omega)))
        · refine owns_wide (lo := w.heap.size) (hi := q.w.heap.size) ?_ (Nat.le_refl _) (by omega)
          (repeat (first | (with_reducible exact ho.out) | (with_reducible refine owns_after _ ?_ ?_) | (with_reducible refine owns_later _ ?_ ?_) | (with_reducible refine owns_alloc ?_ _) | (with_reducible refine owns_set ?_ ?_ _) | (with_reducible refine Owns.drewN ?_ _) | (with_reducible refine owns_drew ?_) | (dsimp only; omega) | omega | ((try simp only [World.size_alloc, World.size_setCell, World.size_drew]); omega)))

/-- The block in which a row of one's own lies, apart from other blocks. -/
theorem tight_apart {W : World} {p p' e s n : Nat} {a' : Option Addr} {c' : Nat} {xs : List Value} (x : After W p p') (h : x.w.ownsRow p e s (.slice a' n c') n xs) (hat : ∀ q : Addr, a' = some q → q.block < p' ∨ W.heap.size ≤ q.block) {lo2 hi2 : Nat} (hd : p' ≤ lo2 ∨ hi2 ≤ p) (hp : p ≤ p') (hw : hi2 ≤ W.heap.size) (hpw : p' ≤ W.heap.size) :
    ∃ r r', p ≤ r ∧ r ≤ r' ∧ r' ≤ x.w.heap.size ∧ Owns x.w r r' e s n a' c' xs ∧ (r' ≤ lo2 ∨ hi2 ≤ r) := by
  have hsz := x.btw.size
  obtain ⟨r, r', h1, h2, h3, h4, h5, h6⟩ := (Owns.of h).tight (by omega)
  by_cases hr : r < r'
  · have hb := (h6 r (Nat.le_refl _) hr).1
    obtain ⟨e1, e2⟩ := h5 r hb
    cases a' with
    | none => simp [Value.ownBlock] at hb
    | some q =>
      have e3 : q.block = r := by simpa [Value.ownBlock] using hb
      have := hat q rfl
      refine ⟨r, r', h1, h2, h3, h4, ?_⟩
      omega
  · have hrr : r' = r := by omega
    subst hrr
    -- an empty interval: it may lie anywhere
    have hx : Owns x.w x.w.heap.size x.w.heap.size e s n a' c' xs := by
      rcases h.2 with ⟨hv, hn⟩ | ⟨g, cap, cur, hv, hg, hh, rr⟩
      · have ha : a' = none := by injection hv
        subst ha
        exact ⟨⟨h.1, .inl ⟨hv, hn⟩⟩, fun q hq => by cases hq⟩
      · exfalso
        have ha : a' = some ⟨g, 0, none⟩ := by injection hv
        have := h4.lt _ ha
        have h7 := h4.ge _ ha
        simp only at this h7
        omega
    exact ⟨x.w.heap.size, x.w.heap.size, by omega, Nat.le_refl _, Nat.le_refl _, hx, .inr (by omega)⟩
theorem StrBlk.apart {w : World} {b m p p' lo hi n : Nat} {a : Option Addr} {c : Nat} {xs : List Value} (h : StrBlk w b m) (h6 : ∀ k, p ≤ k → k < p' → (Value.slice a n c).ownBlock = some k ∧ ∃ cur fr, w.heap[k]? = some (.cells cur 27 fr)) : b < p ∨ p' ≤ b := by
  obtain ⟨cs, fr, h1, _⟩ := h
  by_cases hb : p ≤ b ∧ b < p'
  · obtain ⟨_, cur, fr', h2⟩ := h6 b hb.1 hb.2
    rw [h1] at h2
    cases h2
  · omega
theorem StrBlk.btw {w w' : World} {b m lo hi : Nat} (h : StrBlk w b m) (hb : Between lo hi w w') (ho : b < lo ∨ hi ≤ b) : StrBlk w' b m := by
  obtain ⟨cs, fr, h1, h2⟩ := h
  exact ⟨cs, fr, (hb.block b (lt_of_heap h1) ho).trans h1, h2⟩
theorem StrBlk.bel {w w' : World} {b m : Nat} (h : StrBlk w b m) (hb : Below w.heap.size w w') : StrBlk w' b m := by
  obtain ⟨cs, fr, h1, h2⟩ := h
  exact ⟨cs, fr, (hb.block b (lt_of_heap h1)).trans h1, h2⟩
theorem okC_ok {c : Clm} (h : OkC c) : ClmOk c := ⟨by have := h.1; omega, by have := h.2.1; omega, by have := h.2.2.1; omega⟩

set_option maxRecDepth 8000 in
set_option maxHeartbeats 8000000 in
theorem sCircList_any (g : Nat) (w : World) (h : SrcOk w g) : Calls Tryz.prog 101 #[.pointer (some ⟨g, 0, none⟩)] w (RetClmsD w g 13) := by
  have hg := h.lt
  have H0 := Lib.hid h
  obtain ⟨ii, j1, j2, j3, j4⟩ := info_claim'
  have Jii := Lib.hid (And.intro j1 (And.intro j2 (And.intro j3 j4)))
  clear h j1 j2 j3 j4
  go_enter Tryz.func101, Tryz.ntmps101
  go_wp2_with fail
  with_reducible refine (next_any g 3 _ (by (repeat (first | (with_reducible exact H0.out) | (with_reducible refine SrcOk.alloc ?_ _) | (with_reducible refine SrcOk.set ?_ ?_ _) | (with_reducible refine SrcOk.drewN ?_ _) | (with_reducible refine SrcOk.drew ?_) | (with_reducible refine SrcOk.later _ ?_) | (with_reducible refine SrcOk.after _ ?_ ?_) | (dsimp only; omega) | omega | ((try simp only [World.size_alloc, World.size_setCell, World.size_drew]); omega))))).mono ?_
  rintro e w' ⟨p1, hdraw, rfl, z1, rfl, hsrc⟩
  have hsz1 := z1.btw.size
  (try simp only [World.size_alloc, World.size_setCell, World.size_drew] at hsz1)
  have H1 := Lib.hid hsrc
  clear hsrc
  obtain ⟨p10, p11⟩ := hdraw
  have hO0 : Owns z1.w w.heap.size z1.w.heap.size 27 7 0 (some ⟨w.heap.size, 0, none⟩) 0 (clmsCells []) := by
    have h0 : Owns (w.alloc (.cells #[] 27)) w.heap.size (w.heap.size + 1) 27 7 0 (some ⟨w.heap.size, 0, none⟩) 0 (clmsCells []) := by
      have := Owns.of (World.ownsRow_lit (base := w.heap.size) (e := 27) (size := 7) w #[] 0 (Nat.le_refl _) (by unfold maxLen; omega) rfl)
      rw [show clmsCells [] = [] from rfl]
      simpa [World.size_alloc] using this
    refine owns_wide (lo := w.heap.size) (hi := w.heap.size + 1) ?_ (Nat.le_refl _) (by omega)
    (repeat (first | (with_reducible exact h0) | (with_reducible refine owns_after _ ?_ ?_) | (with_reducible refine owns_later _ ?_ ?_) | (with_reducible refine owns_alloc ?_ _) | (with_reducible refine owns_set ?_ ?_ _) | (with_reducible refine Owns.drewN ?_ _) | (with_reducible refine owns_drew ?_) | (dsimp only; omega) | omega | ((try simp only [World.size_alloc, World.size_setCell, World.size_drew]); omega)))
  have hB1 : Between g (g + 1) w z1.w := by (repeat (first | (with_reducible exact Between.refl _ _ _) | (with_reducible refine Between.drew ?_) | (with_reducible refine Between.drewN ?_ _) | (with_reducible refine btw_own ?_ ?_ _) | (with_reducible refine btw_later _ ?_) | (with_reducible refine btw_alloc ?_ _) | (with_reducible refine btw_after _ ?_) | (with_reducible refine btw_beyond _ ?_ ?_) | (with_reducible refine Aft.btw _ ?_ ?_) | (with_reducible assumption) | (dsimp only; omega) | omega | ((try simp only [World.size_alloc, World.size_setCell, World.size_drew]); omega)))
  replace hO0 := Lib.hid hO0
  replace hB1 := Lib.hid hB1
  go_upto_if 12 with fail
  go_cut [3, 4, 5, 6] from 13 to 47 (fun o _ _ _ wr => ∃ (L : List Clm) (a : Option Addr) (c : Nat), L.length ≤ 3 ∧ (∀ x ∈ L, OkC x) ∧ o = .slice a L.length c ∧ Owns wr w.heap.size wr.heap.size 27 7 L.length a c (clmsCells L) ∧ SrcOk wr g ∧ Between g (g + 1) w wr)
  case first =>
    by_cases hp1 : p1 = 0
    · subst hp1
      have hP0 : StrBlk (z1.w.alloc (.cells #[.string ⟨#[97, 115, 104]⟩, .string ⟨#[98, 114, 105, 103]⟩, .string ⟨#[99, 111, 114, 107]⟩, .string ⟨#[97, 115, 104]⟩] 9)) z1.w.heap.size 4 := StrBlk.of (heap_alloc_new _ _) rfl (by decide)
      replace hP0 := Lib.hid hP0
      have hO1 := owns_wide (owns_alloc hO0.out (.cells #[.string ⟨#[97, 115, 104]⟩, .string ⟨#[98, 114, 105, 103]⟩, .string ⟨#[99, 111, 114, 107]⟩, .string ⟨#[97, 115, 104]⟩] 9)) (Nat.le_refl _) (show z1.w.heap.size ≤ (z1.w.alloc (.cells #[.string ⟨#[97, 115, 104]⟩, .string ⟨#[98, 114, 105, 103]⟩, .string ⟨#[99, 111, 114, 107]⟩, .string ⟨#[97, 115, 104]⟩] 9)).heap.size by simp)
      replace hO1 := Lib.hid hO1
      go_wp2_with fail
      go_loopw [3, 5, 6] (fun o i _ wr => ∃ (L : List Clm) (k : Nat) (a : Option Addr) (c : Nat), L.length ≤ k ∧ k ≤ 3 ∧ (∀ x ∈ L, OkC x) ∧ i = .int .i64 k ∧ o = .slice a L.length c ∧ Owns wr w.heap.size wr.heap.size 27 7 L.length a c (clmsCells L) ∧ StrBlk wr z1.w.heap.size 4 ∧ SrcOk wr g ∧ Between g (g + 1) w wr) (fun _ i _ _ => 3 - (intOf i).toNat)
      case atStart =>
        refine ⟨[], 0, _, _, Nat.le_refl _, by omega, by simp, rfl, rfl, hO1.out, hP0.out, ?_, ?_⟩
        · (repeat (first | (with_reducible exact H1.out) | (with_reducible refine SrcOk.alloc ?_ _) | (with_reducible refine SrcOk.set ?_ ?_ _) | (with_reducible refine SrcOk.drewN ?_ _) | (with_reducible refine SrcOk.drew ?_) | (with_reducible refine SrcOk.later _ ?_) | (with_reducible refine SrcOk.after _ ?_ ?_) | (dsimp only; omega) | omega | ((try simp only [World.size_alloc, World.size_setCell, World.size_drew]); omega)))
        · exact btw_alloc hB1.out _
      case round =>
        obtain ⟨L, k, a, c, hLk, hk, hok, rfl, rfl, ho, hP, hs, hb⟩ := hrel
        obtain ⟨q, rfl⟩ := AfterC.mk hb
        have hqs := q.btw.size
        have hpq := lt_of_heap hP.choose_spec.choose_spec.1
        obtain ⟨p, p', t1, t2, t3, t4, t5, t6⟩ := ho.tight (by omega)
        have hap := hP.apart (lo := 0) (hi := 0) (xs := []) t6
        clear hb hO0 hO1 hP0 hB1 H1 t5 t6
        have hgp : z1.w.heap.size ≠ g := by omega
        by_cases hlt : k < 3
        · have i1 : (k : Int) < 3 := by omega
          have i3 : (k : Int) < 4 := by omega
          have hplaces := Lib.hid (show StrBlk q.w.drew z1.w.heap.size 4 from hP)
          have HS := Lib.hid hs
          replace ho := Lib.hid ho
          replace t4 := Lib.hid t4
          replace hok := Lib.hid hok
          replace hP := Lib.hid hP
          clear hs
          go_wp2_with fail
          refine wp_region_inv (SrcC q.w.drew g) (Ev g) (fun i v w' => match i with
            | 0 => ∃ b, v = .slice (some ⟨b, 0, none⟩) 3 3 ∧ b ≠ g ∧ StrBlk w' b 3
            | 1 | 5 | 9 => v = .int .i64 k
            | 2 => ∃ b, v = .pointer (some ⟨b, k, none⟩) ∧ b ≠ g ∧ StrBlk w' b 3
            | 3 | 7 | 12 => ∃ s : ByteArray, v = .string s ∧ s.size ≤ 100
            | 4 | 8 => v = .slice (some ⟨z1.w.heap.size, 0, none⟩) 4 4 ∧ StrBlk w' z1.w.heap.size 4
            | 6 => v = .pointer (some ⟨z1.w.heap.size, k, none⟩) ∧ StrBlk w' z1.w.heap.size 4
            | 10 => v = .int .i64 ((k : Int) + 1)
            | 11 => v = .pointer (some ⟨z1.w.heap.size, k + 1, none⟩) ∧ StrBlk w' z1.w.heap.size 4
            | 13 | 16 | 20 => v = .pointer (some ⟨g, 0, none⟩)
            | 14 => ∃ r : Nat, v = .int .i64 r ∧ r < 20
            | 15 => ∃ r : Nat, v = .int .i64 r ∧ r < 2000
            | 17 => ∃ r : Nat, v = .int .i64 r ∧ r < 30
            | 18 => ∃ r : Nat, v = .int .i64 r ∧ r < 2000
            | 19 => ∃ r r2 : Nat, v = .agg #[.int .i64 r, .int .i64 r2] ∧ r < 2000
            | 21 => ∃ r : Nat, v = .int .i64 r ∧ r < 9
            | 22 => ∃ r : Nat, v = .int .i64 r
            | 23 => ∃ c, OkC c ∧ v = clmV c
            | 24 => ∃ b, v = .pointer (some ⟨b, 0, none⟩) ∧ q.w.heap.size ≤ b ∧ ClmRaw w' b
            | _ => True) 25 24 (fun v w' => ∃ b, v = .pointer (some ⟨b, 0, none⟩) ∧ q.w.heap.size ≤ b ∧ GoodBlk w' b) (by kernel_rfl) (by kernel_rfl) (by kernel_rfl) (by kernel_rfl) (SrcC.mk (Between.refl _ _ _) HS.out) ?hst ?hstP ⟨?op0, ?op1, ?op2, ?op3, ?op4, ?op5, ?op6, ?op7, ?op8, ?op9, ?op10, ?op11, ?op12, ?op13, ?op14, ?op15, ?op16, ?op17, ?op18, ?op19, ?op20, ?op21, ?op22, ?op23, ?op24, ?op25, trivial⟩ ?hend
          case op0 =>
            rintro xv _ ⟨y, rfl, hS⟩ hd
            (try simp only [List.mem_toArray, List.forall_mem_cons, List.not_mem_nil, false_imp_iff, implies_true, and_true, Region.binds, forall_const] at hd)
            have hg1 : g < y.w.heap.size := hS.lt
            have hsy := y.btw.size
            simp only [putAll, Act.put, List.setIfInBounds_toArray, List.set_cons_zero, List.set_cons_succ, Nat.zero_add, Nat.reduceAdd]
            refine op_loud (by rfl) (by rfl) ?_
            intro KP hKP
            replace hKP := Lib.hid hKP
            go_wp2_with fail
            refine hKP.out _ _ ⟨_, rfl, SrcC.mk (btw_alloc y.btw _) (hS.alloc _), Ev.alloc _ _ _, ⟨y.w.heap.size, rfl, by omega, StrBlk.of (heap_alloc_new _ _) rfl (by decide)⟩, (fun h => absurd h (by decide))⟩
          case op1 =>
            rintro xv _ ⟨y, rfl, hS⟩ hd
            (try simp only [List.mem_toArray, List.forall_mem_cons, List.not_mem_nil, false_imp_iff, implies_true, and_true, Region.binds, forall_const] at hd)
            have hg1 : g < y.w.heap.size := hS.lt
            have hsy := y.btw.size
            simp only [putAll, Act.put, List.setIfInBounds_toArray, List.set_cons_zero, List.set_cons_succ, Nat.zero_add, Nat.reduceAdd]
            refine op_loud (by rfl) (by rfl) ?_
            intro KP hKP
            replace hKP := Lib.hid hKP
            go_wp2_with fail
            refine hKP.out _ _ ⟨_, rfl, SrcC.mk y.btw hS, Ev.refl _ _, rfl, (fun h => absurd h (by decide))⟩
          case op2 =>
            rintro xv _ ⟨y, rfl, hS⟩ hd
            (try simp only [List.mem_toArray, List.forall_mem_cons, List.not_mem_nil, false_imp_iff, implies_true, and_true, Region.binds, forall_const] at hd)
            obtain ⟨⟨b, e1, hb, hB⟩, e2⟩ := hd
            have hg1 : g < y.w.heap.size := hS.lt
            have hsy := y.btw.size
            simp only [putAll, Act.put, List.setIfInBounds_toArray, List.set_cons_zero, List.set_cons_succ, Nat.zero_add, Nat.reduceAdd, e1, e2]
            refine op_loud (by rfl) (by rfl) ?_
            intro KP hKP
            replace hKP := Lib.hid hKP
            go_wp2_with fail
            refine hKP.out _ _ ⟨_, rfl, SrcC.mk y.btw hS, Ev.refl _ _, ⟨b, rfl, hb, hB⟩, (fun h => absurd h (by decide))⟩
          case op3 =>
            rintro xv _ ⟨y, rfl, hS⟩ hd
            (try simp only [List.mem_toArray, List.forall_mem_cons, List.not_mem_nil, false_imp_iff, implies_true, and_true, Region.binds, forall_const] at hd)
            obtain ⟨b, e1, hb, hB⟩ := hd
            have hg1 : g < y.w.heap.size := hS.lt
            have hsy := y.btw.size
            obtain ⟨s, hs, hz⟩ := hB.row (i := k) (by omega)
            simp only [putAll, Act.put, List.setIfInBounds_toArray, List.set_cons_zero, List.set_cons_succ, Nat.zero_add, Nat.reduceAdd, e1]
            refine op_loud (by rfl) (by rfl) ?_
            intro KP hKP
            replace hKP := Lib.hid hKP
            go_wp2_with fail
            refine hKP.out _ _ ⟨_, rfl, SrcC.mk y.btw hS, Ev.refl _ _, ⟨s, rfl, hz⟩, (fun h => absurd h (by decide))⟩
          case op4 =>
            rintro xv _ ⟨y, rfl, hS⟩ hd
            (try simp only [List.mem_toArray, List.forall_mem_cons, List.not_mem_nil, false_imp_iff, implies_true, and_true, Region.binds, forall_const] at hd)
            have hg1 : g < y.w.heap.size := hS.lt
            have hsy := y.btw.size
            simp only [putAll, Act.put, List.setIfInBounds_toArray, List.set_cons_zero, List.set_cons_succ, Nat.zero_add, Nat.reduceAdd]
            refine op_loud (by rfl) (by rfl) ?_
            intro KP hKP
            replace hKP := Lib.hid hKP
            go_wp2_with fail
            refine hKP.out _ _ ⟨_, rfl, SrcC.mk y.btw hS, Ev.refl _ _, ⟨rfl, hplaces.out.ev (Ev.after y) (by omega)⟩, (fun h => absurd h (by decide))⟩
          case op8 =>
            rintro xv _ ⟨y, rfl, hS⟩ hd
            (try simp only [List.mem_toArray, List.forall_mem_cons, List.not_mem_nil, false_imp_iff, implies_true, and_true, Region.binds, forall_const] at hd)
            have hg1 : g < y.w.heap.size := hS.lt
            have hsy := y.btw.size
            simp only [putAll, Act.put, List.setIfInBounds_toArray, List.set_cons_zero, List.set_cons_succ, Nat.zero_add, Nat.reduceAdd]
            refine op_loud (by rfl) (by rfl) ?_
            intro KP hKP
            replace hKP := Lib.hid hKP
            go_wp2_with fail
            refine hKP.out _ _ ⟨_, rfl, SrcC.mk y.btw hS, Ev.refl _ _, ⟨rfl, hplaces.out.ev (Ev.after y) (by omega)⟩, (fun h => absurd h (by decide))⟩
          case op5 =>
            rintro xv _ ⟨y, rfl, hS⟩ hd
            (try simp only [List.mem_toArray, List.forall_mem_cons, List.not_mem_nil, false_imp_iff, implies_true, and_true, Region.binds, forall_const] at hd)
            have hg1 : g < y.w.heap.size := hS.lt
            have hsy := y.btw.size
            simp only [putAll, Act.put, List.setIfInBounds_toArray, List.set_cons_zero, List.set_cons_succ, Nat.zero_add, Nat.reduceAdd]
            refine op_loud (by rfl) (by rfl) ?_
            intro KP hKP
            replace hKP := Lib.hid hKP
            go_wp2_with fail
            refine hKP.out _ _ ⟨_, rfl, SrcC.mk y.btw hS, Ev.refl _ _, rfl, (fun h => absurd h (by decide))⟩
          case op6 =>
            rintro xv _ ⟨y, rfl, hS⟩ hd
            (try simp only [List.mem_toArray, List.forall_mem_cons, List.not_mem_nil, false_imp_iff, implies_true, and_true, Region.binds, forall_const] at hd)
            obtain ⟨⟨e1, hB⟩, e2⟩ := hd
            have hg1 : g < y.w.heap.size := hS.lt
            have hsy := y.btw.size
            simp only [putAll, Act.put, List.setIfInBounds_toArray, List.set_cons_zero, List.set_cons_succ, Nat.zero_add, Nat.reduceAdd, e1, e2]
            refine op_loud (by rfl) (by rfl) ?_
            intro KP hKP
            replace hKP := Lib.hid hKP
            go_wp2_with fail
            refine hKP.out _ _ ⟨_, rfl, SrcC.mk y.btw hS, Ev.refl _ _, ⟨rfl, hB⟩, (fun h => absurd h (by decide))⟩
          case op7 =>
            rintro xv _ ⟨y, rfl, hS⟩ hd
            (try simp only [List.mem_toArray, List.forall_mem_cons, List.not_mem_nil, false_imp_iff, implies_true, and_true, Region.binds, forall_const] at hd)
            obtain ⟨e1, hB⟩ := hd
            have hg1 : g < y.w.heap.size := hS.lt
            have hsy := y.btw.size
            obtain ⟨s, hs, hz⟩ := hB.row (i := k) (by omega)
            simp only [putAll, Act.put, List.setIfInBounds_toArray, List.set_cons_zero, List.set_cons_succ, Nat.zero_add, Nat.reduceAdd, e1]
            refine op_loud (by rfl) (by rfl) ?_
            intro KP hKP
            replace hKP := Lib.hid hKP
            go_wp2_with fail
            refine hKP.out _ _ ⟨_, rfl, SrcC.mk y.btw hS, Ev.refl _ _, ⟨s, rfl, hz⟩, (fun h => absurd h (by decide))⟩
          case op9 =>
            rintro xv _ ⟨y, rfl, hS⟩ hd
            (try simp only [List.mem_toArray, List.forall_mem_cons, List.not_mem_nil, false_imp_iff, implies_true, and_true, Region.binds, forall_const] at hd)
            have hg1 : g < y.w.heap.size := hS.lt
            have hsy := y.btw.size
            simp only [putAll, Act.put, List.setIfInBounds_toArray, List.set_cons_zero, List.set_cons_succ, Nat.zero_add, Nat.reduceAdd]
            refine op_loud (by rfl) (by rfl) ?_
            intro KP hKP
            replace hKP := Lib.hid hKP
            go_wp2_with fail
            refine hKP.out _ _ ⟨_, rfl, SrcC.mk y.btw hS, Ev.refl _ _, rfl, (fun h => absurd h (by decide))⟩
          case op10 =>
            rintro xv _ ⟨y, rfl, hS⟩ hd
            (try simp only [List.mem_toArray, List.forall_mem_cons, List.not_mem_nil, false_imp_iff, implies_true, and_true, Region.binds, forall_const] at hd)
            have hg1 : g < y.w.heap.size := hS.lt
            have hsy := y.btw.size
            simp only [putAll, Act.put, List.setIfInBounds_toArray, List.set_cons_zero, List.set_cons_succ, Nat.zero_add, Nat.reduceAdd, hd]
            refine op_loud (by rfl) (by rfl) ?_
            intro KP hKP
            replace hKP := Lib.hid hKP
            go_wp2_with fail
            refine hKP.out _ _ ⟨_, rfl, SrcC.mk y.btw hS, Ev.refl _ _, (by simp), (fun h => absurd h (by decide))⟩
          case op11 =>
            rintro xv _ ⟨y, rfl, hS⟩ hd
            (try simp only [List.mem_toArray, List.forall_mem_cons, List.not_mem_nil, false_imp_iff, implies_true, and_true, Region.binds, forall_const] at hd)
            obtain ⟨⟨e1, hB⟩, e2⟩ := hd
            have hg1 : g < y.w.heap.size := hS.lt
            have hsy := y.btw.size
            have i2 : ((k : Int) + 1) < 4 := by omega
            simp only [putAll, Act.put, List.setIfInBounds_toArray, List.set_cons_zero, List.set_cons_succ, Nat.zero_add, Nat.reduceAdd, e1, e2]
            refine op_loud (by rfl) (by rfl) ?_
            intro KP hKP
            replace hKP := Lib.hid hKP
            go_wp2_with fail
            refine hKP.out _ _ ⟨_, rfl, SrcC.mk y.btw hS, Ev.refl _ _, ⟨by simp, hB⟩, (fun h => absurd h (by decide))⟩
          case op12 =>
            rintro xv _ ⟨y, rfl, hS⟩ hd
            (try simp only [List.mem_toArray, List.forall_mem_cons, List.not_mem_nil, false_imp_iff, implies_true, and_true, Region.binds, forall_const] at hd)
            obtain ⟨e1, hB⟩ := hd
            have hg1 : g < y.w.heap.size := hS.lt
            have hsy := y.btw.size
            obtain ⟨s, hs, hz⟩ := hB.row (i := k + 1) (by omega)
            simp only [putAll, Act.put, List.setIfInBounds_toArray, List.set_cons_zero, List.set_cons_succ, Nat.zero_add, Nat.reduceAdd, e1]
            refine op_loud (by rfl) (by rfl) ?_
            intro KP hKP
            replace hKP := Lib.hid hKP
            go_wp2_with fail
            refine hKP.out _ _ ⟨_, rfl, SrcC.mk y.btw hS, Ev.refl _ _, ⟨s, rfl, hz⟩, (fun h => absurd h (by decide))⟩
          case op13 =>
            rintro xv _ ⟨y, rfl, hS⟩ hd
            (try simp only [List.mem_toArray, List.forall_mem_cons, List.not_mem_nil, false_imp_iff, implies_true, and_true, Region.binds, forall_const] at hd)
            have hg1 : g < y.w.heap.size := hS.lt
            have hsy := y.btw.size
            simp only [putAll, Act.put, List.setIfInBounds_toArray, List.set_cons_zero, List.set_cons_succ, Nat.zero_add, Nat.reduceAdd]
            refine op_loud (by rfl) (by rfl) ?_
            intro KP hKP
            replace hKP := Lib.hid hKP
            go_wp2_with fail
            refine hKP.out _ _ ⟨_, rfl, SrcC.mk y.btw hS, Ev.refl _ _, rfl, (fun h => absurd h (by decide))⟩
          case op16 =>
            rintro xv _ ⟨y, rfl, hS⟩ hd
            (try simp only [List.mem_toArray, List.forall_mem_cons, List.not_mem_nil, false_imp_iff, implies_true, and_true, Region.binds, forall_const] at hd)
            have hg1 : g < y.w.heap.size := hS.lt
            have hsy := y.btw.size
            simp only [putAll, Act.put, List.setIfInBounds_toArray, List.set_cons_zero, List.set_cons_succ, Nat.zero_add, Nat.reduceAdd]
            refine op_loud (by rfl) (by rfl) ?_
            intro KP hKP
            replace hKP := Lib.hid hKP
            go_wp2_with fail
            refine hKP.out _ _ ⟨_, rfl, SrcC.mk y.btw hS, Ev.refl _ _, rfl, (fun h => absurd h (by decide))⟩
          case op20 =>
            rintro xv _ ⟨y, rfl, hS⟩ hd
            (try simp only [List.mem_toArray, List.forall_mem_cons, List.not_mem_nil, false_imp_iff, implies_true, and_true, Region.binds, forall_const] at hd)
            have hg1 : g < y.w.heap.size := hS.lt
            have hsy := y.btw.size
            simp only [putAll, Act.put, List.setIfInBounds_toArray, List.set_cons_zero, List.set_cons_succ, Nat.zero_add, Nat.reduceAdd]
            refine op_loud (by rfl) (by rfl) ?_
            intro KP hKP
            replace hKP := Lib.hid hKP
            go_wp2_with fail
            refine hKP.out _ _ ⟨_, rfl, SrcC.mk y.btw hS, Ev.refl _ _, rfl, (fun h => absurd h (by decide))⟩
          case op14 =>
            rintro xv _ ⟨y, rfl, hS⟩ hd
            (try simp only [List.mem_toArray, List.forall_mem_cons, List.not_mem_nil, false_imp_iff, implies_true, and_true, Region.binds, forall_const] at hd)
            have hg1 : g < y.w.heap.size := hS.lt
            have hsy := y.btw.size
            simp only [putAll, Act.put, List.setIfInBounds_toArray, List.set_cons_zero, List.set_cons_succ, Nat.zero_add, Nat.reduceAdd, hd]
            refine op_loud (by rfl) (by rfl) ?_
            intro KP hKP
            replace hKP := Lib.hid hKP
            go_wp2_with (go_at_call 87; (with_reducible refine (next_any g 20 _ hS).mono ?_); rintro e w' ⟨r, ⟨r0, r1⟩, rfl, z, rfl, hsrc⟩)
            refine hKP.out _ _ ⟨_, rfl, SrcC.mk (y.btw.trans z.btw) hsrc, Ev.after z, ⟨r.toNat, by rw [Int.toNat_of_nonneg r0], by omega⟩, (fun h => absurd h (by decide))⟩
          case op15 =>
            rintro xv _ ⟨y, rfl, hS⟩ hd
            (try simp only [List.mem_toArray, List.forall_mem_cons, List.not_mem_nil, false_imp_iff, implies_true, and_true, Region.binds, forall_const] at hd)
            obtain ⟨r, e1, hr⟩ := hd
            have hg1 : g < y.w.heap.size := hS.lt
            have hsy := y.btw.size
            simp only [putAll, Act.put, List.setIfInBounds_toArray, List.set_cons_zero, List.set_cons_succ, Nat.zero_add, Nat.reduceAdd, e1]
            refine op_loud (by rfl) (by rfl) ?_
            intro KP hKP
            replace hKP := Lib.hid hKP
            go_wp2_with fail
            refine hKP.out _ _ ⟨_, rfl, SrcC.mk y.btw hS, Ev.refl _ _, ⟨1200 + r, by simp, by omega⟩, (fun h => absurd h (by decide))⟩
          case op17 =>
            rintro xv _ ⟨y, rfl, hS⟩ hd
            (try simp only [List.mem_toArray, List.forall_mem_cons, List.not_mem_nil, false_imp_iff, implies_true, and_true, Region.binds, forall_const] at hd)
            obtain ⟨e1, -⟩ := hd
            have hg1 : g < y.w.heap.size := hS.lt
            have hsy := y.btw.size
            simp only [putAll, Act.put, List.setIfInBounds_toArray, List.set_cons_zero, List.set_cons_succ, Nat.zero_add, Nat.reduceAdd, e1]
            refine op_loud (by rfl) (by rfl) ?_
            intro KP hKP
            replace hKP := Lib.hid hKP
            go_wp2_with (go_at_call 87; (with_reducible refine (next_any g 30 _ hS).mono ?_); rintro e w' ⟨r, ⟨r0, r1⟩, rfl, z, rfl, hsrc⟩)
            refine hKP.out _ _ ⟨_, rfl, SrcC.mk (y.btw.trans z.btw) hsrc, Ev.after z, ⟨r.toNat, by rw [Int.toNat_of_nonneg r0], by omega⟩, (fun h => absurd h (by decide))⟩
          case op18 =>
            rintro xv _ ⟨y, rfl, hS⟩ hd
            (try simp only [List.mem_toArray, List.forall_mem_cons, List.not_mem_nil, false_imp_iff, implies_true, and_true, Region.binds, forall_const] at hd)
            obtain ⟨r, e1, hr⟩ := hd
            have hg1 : g < y.w.heap.size := hS.lt
            have hsy := y.btw.size
            simp only [putAll, Act.put, List.setIfInBounds_toArray, List.set_cons_zero, List.set_cons_succ, Nat.zero_add, Nat.reduceAdd, e1]
            refine op_loud (by rfl) (by rfl) ?_
            intro KP hKP
            replace hKP := Lib.hid hKP
            go_wp2_with fail
            refine hKP.out _ _ ⟨_, rfl, SrcC.mk y.btw hS, Ev.refl _ _, ⟨1215 + r, by simp, by omega⟩, (fun h => absurd h (by decide))⟩
          case op19 =>
            rintro xv _ ⟨y, rfl, hS⟩ hd
            (try simp only [List.mem_toArray, List.forall_mem_cons, List.not_mem_nil, false_imp_iff, implies_true, and_true, Region.binds, forall_const] at hd)
            obtain ⟨⟨r, e1, hr⟩, ⟨r2, e2, hr2⟩⟩ := hd
            have hg1 : g < y.w.heap.size := hS.lt
            have hsy := y.btw.size
            simp only [putAll, Act.put, List.setIfInBounds_toArray, List.set_cons_zero, List.set_cons_succ, Nat.zero_add, Nat.reduceAdd, e1, e2]
            refine op_loud (by rfl) (by rfl) ?_
            intro KP hKP
            replace hKP := Lib.hid hKP
            go_wp2_with fail
            refine hKP.out _ _ ⟨_, rfl, SrcC.mk y.btw hS, Ev.refl _ _, ⟨r, r2, rfl, hr⟩, (fun h => absurd h (by decide))⟩
          case op21 =>
            rintro xv _ ⟨y, rfl, hS⟩ hd
            (try simp only [List.mem_toArray, List.forall_mem_cons, List.not_mem_nil, false_imp_iff, implies_true, and_true, Region.binds, forall_const] at hd)
            obtain ⟨e1, -⟩ := hd
            have hg1 : g < y.w.heap.size := hS.lt
            have hsy := y.btw.size
            simp only [putAll, Act.put, List.setIfInBounds_toArray, List.set_cons_zero, List.set_cons_succ, Nat.zero_add, Nat.reduceAdd, e1]
            refine op_loud (by rfl) (by rfl) ?_
            intro KP hKP
            replace hKP := Lib.hid hKP
            go_wp2_with (go_at_call 87; (with_reducible refine (next_any g 9 _ hS).mono ?_); rintro e w' ⟨r, ⟨r0, r1⟩, rfl, z, rfl, hsrc⟩)
            refine hKP.out _ _ ⟨_, rfl, SrcC.mk (y.btw.trans z.btw) hsrc, Ev.after z, ⟨r.toNat, by rw [Int.toNat_of_nonneg r0], by omega⟩, (fun h => absurd h (by decide))⟩
          case op22 =>
            rintro xv _ ⟨y, rfl, hS⟩ hd
            (try simp only [List.mem_toArray, List.forall_mem_cons, List.not_mem_nil, false_imp_iff, implies_true, and_true, Region.binds, forall_const] at hd)
            obtain ⟨r, e1, hr⟩ := hd
            have hg1 : g < y.w.heap.size := hS.lt
            have hsy := y.btw.size
            simp only [putAll, Act.put, List.setIfInBounds_toArray, List.set_cons_zero, List.set_cons_succ, Nat.zero_add, Nat.reduceAdd, e1]
            refine op_loud (by rfl) (by rfl) ?_
            intro KP hKP
            replace hKP := Lib.hid hKP
            go_wp2_with fail
            refine hKP.out _ _ ⟨_, rfl, SrcC.mk y.btw hS, Ev.refl _ _, ⟨1 + r, by simp⟩, (fun h => absurd h (by decide))⟩
          case op23 =>
            rintro xv _ ⟨y, rfl, hS⟩ hd
            (try simp only [List.mem_toArray, List.forall_mem_cons, List.not_mem_nil, false_imp_iff, implies_true, and_true, Region.binds, forall_const] at hd)
            obtain ⟨⟨s1, e1, z1⟩, ⟨s2, e3, z2⟩, ⟨s3, e4, z3⟩, ⟨r1, r2, e5, hr1⟩, ⟨r3, e6⟩⟩ := hd
            have hg1 : g < y.w.heap.size := hS.lt
            have hsy := y.btw.size
            simp only [putAll, Act.put, List.setIfInBounds_toArray, List.set_cons_zero, List.set_cons_succ, Nat.zero_add, Nat.reduceAdd, e1, e3, e4, e5, e6]
            refine op_loud (by rfl) (by rfl) ?_
            intro KP hKP
            replace hKP := Lib.hid hKP
            go_wp2_with fail
            refine hKP.out _ _ ⟨_, rfl, SrcC.mk y.btw hS, Ev.refl _ _, ⟨⟨s1, 1, s2, s3, r1, r2, r3⟩, ⟨z1, z2, z3, by dsimp only; omega, by dsimp only; omega⟩, rfl⟩, (fun h => absurd h (by decide))⟩
          case op24 =>
            rintro xv _ ⟨y, rfl, hS⟩ hd
            (try simp only [List.mem_toArray, List.forall_mem_cons, List.not_mem_nil, false_imp_iff, implies_true, and_true, Region.binds, forall_const] at hd)
            have hg1 : g < y.w.heap.size := hS.lt
            have hsy := y.btw.size
            simp only [putAll, Act.put, List.setIfInBounds_toArray, List.set_cons_zero, List.set_cons_succ, Nat.zero_add, Nat.reduceAdd]
            refine op_loud (by rfl) (by rfl) ?_
            intro KP hKP
            replace hKP := Lib.hid hKP
            go_wp2_with fail
            refine hKP.out _ _ ⟨_, rfl, SrcC.mk (btw_alloc y.btw _) (hS.alloc _), Ev.alloc _ _ _, ⟨y.w.heap.size, rfl, by simpa using hsy, _, heap_alloc_new _ _, rfl⟩, (fun h => absurd h (by decide))⟩
          case op25 =>
            rintro xv _ ⟨y, rfl, hS⟩ hd
            (try simp only [List.mem_toArray, List.forall_mem_cons, List.not_mem_nil, false_imp_iff, implies_true, and_true, Region.binds, forall_const] at hd)
            obtain ⟨⟨b, e2, hb, hB⟩, ⟨c, hc, e1⟩, -⟩ := hd
            obtain ⟨v0, c0⟩ := hB.cells (i := 0) (by omega)
            obtain ⟨v1, c1⟩ := hB.cells (i := 1) (by omega)
            obtain ⟨v2, c2⟩ := hB.cells (i := 2) (by omega)
            obtain ⟨v3, c3⟩ := hB.cells (i := 3) (by omega)
            obtain ⟨v4, c4⟩ := hB.cells (i := 4) (by omega)
            obtain ⟨v5, c5⟩ := hB.cells (i := 5) (by omega)
            obtain ⟨v6, c6⟩ := hB.cells (i := 6) (by omega)
            have f0 := hB.free 0
            have f1 := hB.free 1
            have f2 := hB.free 2
            have f3 := hB.free 3
            have f4 := hB.free 4
            have f5 := hB.free 5
            have f6 := hB.free 6
            replace hB := Lib.hid hB
            replace e2 := Lib.hid e2
            simp only [putAll, Act.put, List.setIfInBounds_toArray, List.set_cons_zero, List.set_cons_succ, Nat.zero_add, Nat.reduceAdd, e1, e2.out]
            refine op_loud (by rfl) (by rfl) ?_
            intro KP hKP
            replace hKP := Lib.hid hKP
            go_wp2_with fail
            refine hKP.out _ _ ⟨undef, rfl, SrcC.mk (btw_store y.btw (by simpa using hb) c) (src_store hS (by omega) c), Ev.store hB.out hc, trivial, fun _ => ⟨b, rfl, hb, c, hc, hB.out.stored c⟩⟩
          case hst =>
            intro i v w1 w2 hE h
            match i, h with
            | 0, ⟨b, h1, h2, h3⟩ => exact ⟨b, h1, h2, h3.ev hE h2⟩
            | 1, h => exact h
            | 2, ⟨b, h1, h2, h3⟩ => exact ⟨b, h1, h2, h3.ev hE h2⟩
            | 3, h => exact h
            | 4, ⟨h1, h2⟩ => exact ⟨h1, h2.ev hE (by omega)⟩
            | 5, h => exact h
            | 6, ⟨h1, h2⟩ => exact ⟨h1, h2.ev hE (by omega)⟩
            | 7, h => exact h
            | 8, ⟨h1, h2⟩ => exact ⟨h1, h2.ev hE (by omega)⟩
            | 9, h => exact h
            | 10, h => exact h
            | 11, ⟨h1, h2⟩ => exact ⟨h1, h2.ev hE (by omega)⟩
            | 12, h => exact h
            | 13, h => exact h
            | 14, h => exact h
            | 15, h => exact h
            | 16, h => exact h
            | 17, h => exact h
            | 18, h => exact h
            | 19, h => exact h
            | 20, h => exact h
            | 21, h => exact h
            | 22, h => exact h
            | 23, h => exact h
            | 24, ⟨b, h1, h2, h3⟩ => exact ⟨b, h1, h2, h3.ev hE (by omega)⟩
            | n + 25, h => trivial
          case hstP =>
            rintro v w1 w2 hE ⟨b, rfl, hb, hG⟩
            exact ⟨b, rfl, hb, hG.ev hE (by omega)⟩
          case hend =>
            rintro xv _ ⟨y, rfl, hS⟩ hall hP2
            obtain ⟨b, e24, hb, x, hx, hBlk⟩ := hP2 (by decide)
            clear hall hP2
            have hsy := y.btw.size
            simp only [World.size_drew] at hsy
            have hbl := lt_of_heap hBlk
            obtain ⟨q0, q1, q2, q3, q4, q5, q6, qf⟩ := clm_heap hBlk
            clear qf hBlk
            have hgb : g < b := by omega
            have H1 := Lib.hid hS
            clear hS
            have okx := okC_ok hx
            replace hx := Lib.hid hx
            obtain ⟨B, hB⟩ : ∃ B, claimB x = B := ⟨_, rfl⟩
            have CI := Lib.hid (fun w => sIsClaim_b (c := x) (w := w) okx hB)
            clear hB okx
            simp only [putAll, Act.put, List.setIfInBounds_toArray, List.set_cons_zero, List.set_cons_succ, e24]
            clear e24
            go_wp2_with fail
            with_reducible refine (CI.out _).mono ?_
            rintro e w' ⟨rfl, y4, rfl⟩
            have hsy4 := y4.bel.size
            (try simp only [World.size_alloc, World.size_setCell, World.size_drew] at hsy4)
            have hO4 : Owns y4.w p p' 27 7 L.length a c (clmsCells L) := by (repeat (first | (with_reducible exact t4.out) | (with_reducible refine owns_after _ ?_ ?_) | (with_reducible refine owns_later _ ?_ ?_) | (with_reducible refine owns_alloc ?_ _) | (with_reducible refine owns_set ?_ ?_ _) | (with_reducible refine Owns.drewN ?_ _) | (with_reducible refine owns_drew ?_) | (dsimp only; omega) | omega | ((try simp only [World.size_alloc, World.size_setCell, World.size_drew]); omega)))
            have hP4 : StrBlk y4.w z1.w.heap.size 4 := (StrBlk.ev hplaces.out (Ev.after y) hgp).bel y4.bel
            have hB4 : Between g (g + 1) w y4.w := by (repeat (first | (with_reducible exact Between.refl _ _ _) | (with_reducible refine Between.drew ?_) | (with_reducible refine Between.drewN ?_ _) | (with_reducible refine btw_own ?_ ?_ _) | (with_reducible refine btw_later _ ?_) | (with_reducible refine btw_alloc ?_ _) | (with_reducible refine btw_after _ ?_) | (with_reducible refine btw_beyond _ ?_ ?_) | (with_reducible refine Aft.btw _ ?_ ?_) | (with_reducible assumption) | (dsimp only; omega) | omega | ((try simp only [World.size_alloc, World.size_setCell, World.size_drew]); omega)))
            have HS4 : SrcOk y4.w g := by (repeat (first | (with_reducible exact H1.out) | (with_reducible refine SrcOk.alloc ?_ _) | (with_reducible refine SrcOk.set ?_ ?_ _) | (with_reducible refine SrcOk.drewN ?_ _) | (with_reducible refine SrcOk.drew ?_) | (with_reducible refine SrcOk.later _ ?_) | (with_reducible refine SrcOk.after _ ?_ ?_) | (dsimp only; omega) | omega | ((try simp only [World.size_alloc, World.size_setCell, World.size_drew]); omega)))
            replace hO4 := Lib.hid hO4
            replace hP4 := Lib.hid hP4
            replace hB4 := Lib.hid hB4
            replace HS4 := Lib.hid HS4
            have hw4 : p' ≤ y4.w.heap.size := by omega
            have hz4 := lt_of_heap hP4.out.choose_spec.choose_spec.1
            cases B
            · go_wp2_with fail
              go_roundw
              case rel => exact ⟨L, k + 1, a, c, by omega, by omega, hok.out, by go_num, rfl, owns_wide hO4.out (by omega) (by omega), hP4.out, HS4.out, hB4.out⟩
              case measure => first | (simp [intOf]; done) | (simp [intOf]; omega) | omega
            · have b0 : y4.w.cell? ⟨b, 0, none⟩ = some (.string x.src) := (y4.bel.cell (by simp only; omega)).trans q0
              have b1 : y4.w.cell? ⟨b, 1, none⟩ = some (.int .i64 x.kind) := (y4.bel.cell (by simp only; omega)).trans q1
              have b2 : y4.w.cell? ⟨b, 2, none⟩ = some (.string x.place) := (y4.bel.cell (by simp only; omega)).trans q2
              have b3 : y4.w.cell? ⟨b, 3, none⟩ = some (.string x.val) := (y4.bel.cell (by simp only; omega)).trans q3
              have b4 : y4.w.cell? ⟨b, 4, none⟩ = some (.int .i64 x.fr) := (y4.bel.cell (by simp only; omega)).trans q4
              have b5 : y4.w.cell? ⟨b, 5, none⟩ = some (.int .i64 x.to) := (y4.bel.cell (by simp only; omega)).trans q5
              have b6 : y4.w.cell? ⟨b, 6, none⟩ = some (.int .i64 x.wt) := (y4.bel.cell (by simp only; omega)).trans q6
              clear q0 q1 q2 q3 q4 q5 q6
              go_wp2_with (at_builtin; (refine wpList_append_apart _ rfl _ _ _ rfl 27 ii _ 7 80 Tryz.underlying32 Jii.out.1 Jii.out.2.1 Jii.out.2.2.1 Jii.out.2.2.2 rfl (by decide) (p) (p') ?qb17 _ _ _ (clmsCells L) rfl ?qb18 ?qb24 _ _ _ (clmCells x) rfl ?qb19 ?qb20 ?qb21 ?qb22 ?qb23 ?_); (case qb17 => (first | (dsimp only; omega) | omega | (simp only [World.size_alloc, World.size_setCell, World.size_drew]; omega))); (case qb18 => exact ((by (repeat (first | (with_reducible exact hO4.out) | (with_reducible refine owns_after _ ?_ ?_) | (with_reducible refine owns_later _ ?_ ?_) | (with_reducible refine owns_alloc ?_ _) | (with_reducible refine owns_set ?_ ?_ _) | (with_reducible refine Owns.drewN ?_ _) | (with_reducible refine owns_drew ?_) | (dsimp only; omega) | omega | ((try simp only [World.size_alloc, World.size_setCell, World.size_drew]); omega))) : Owns _ p p' 27 7 L.length a c (clmsCells L))).own); (case qb24 => exact hO4.out.lt); (case qb19 => (first | rfl | (simp [boolCells]; done) | (simp [intCells]; done) | (simp; done) | (first | omega | (simp only [List.length_append, List.length_cons, List.length_nil]; omega)))); (case qb20 => exact Row.made _ _ _); (case qb21 => exact one_clm1 _); (case qb22 => (unfold maxLen; (first | omega | (simp only [List.length_append, List.length_cons, List.length_nil]; omega)))); (case qb23 => (first | omega | (simp only [List.length_append, List.length_cons, List.length_nil]; omega))); intro a9 c9 x9 hown9 hat9; replace hat9 := Lib.hid hat9; replace hown9 := Lib.hid hown9; have hs9 := x9.btw.size; (try simp only [World.size_alloc, World.size_setCell, World.size_drew] at hs9))
              go_roundw
              case rel =>
                refine ⟨L ++ [x], k + 1, a9, c9, by simp; omega, by omega, okC_snoc hok.out hx.out, by go_num, by simp, ?_, ?_, ?_, ?_⟩
                · rw [clmsCells_snoc, show (L ++ [x]).length = L.length + 1 by simp]
                  exact Owns.of (own_mono hown9.out (by omega))
                · exact (hP4.out.bel ((Below.refl _ _).alloc (Nat.le_refl _) _)).btw x9.btw (by omega)
                · (repeat (first | (with_reducible exact HS4.out) | (with_reducible refine SrcOk.alloc ?_ _) | (with_reducible refine SrcOk.set ?_ ?_ _) | (with_reducible refine SrcOk.drewN ?_ _) | (with_reducible refine SrcOk.drew ?_) | (with_reducible refine SrcOk.later _ ?_) | (with_reducible refine SrcOk.after _ ?_ ?_) | (dsimp only; omega) | omega | ((try simp only [World.size_alloc, World.size_setCell, World.size_drew]); omega)))
                · have hB := hB4.out
                  (repeat (first | (with_reducible exact Between.refl _ _ _) | (with_reducible refine Between.drew ?_) | (with_reducible refine Between.drewN ?_ _) | (with_reducible refine btw_own ?_ ?_ _) | (with_reducible refine btw_later _ ?_) | (with_reducible refine btw_alloc ?_ _) | (with_reducible refine btw_after _ ?_) | (with_reducible refine btw_beyond _ ?_ ?_) | (with_reducible refine Aft.btw _ ?_ ?_) | (with_reducible assumption) | (dsimp only; omega) | omega | ((try simp only [World.size_alloc, World.size_setCell, World.size_drew]); omega)))
              case measure => first | (simp [intOf]; done) | (simp [intOf]; omega) | omega
        · obtain rfl : k = 3 := by omega
          go_wp2_with fail
          go_meet
          exact ⟨L, a, c, hLk, hok, rfl, ho, hs, q.btw⟩
    · have hp1' : (p1 == 0) = false := by rw [beq_eq_false_iff_ne]; exact hp1
      go_wp2_with fail
      go_meet
      exact ⟨[], _, _, by simp, by simp, rfl, hO0.out, H1.out, hB1.out⟩
  case rest =>
    obtain ⟨L, a, c, hL3, hok, rfl, ho, hs, hb⟩ := hcut
    obtain ⟨q, rfl⟩ := AfterC.mk hb
    have hqs := q.btw.size
    obtain ⟨p, p', t1, t2, t3, t4, t5, t6⟩ := ho.tight (by omega)
    clear hb ho t5 t6 hO0 hB1 H1
    replace hs := Lib.hid hs
    replace t4 := Lib.hid t4
    go_wp2_with fail
    with_reducible refine (sClmList_any g _ (by (repeat (first | (with_reducible exact hs.out) | (with_reducible refine SrcOk.alloc ?_ _) | (with_reducible refine SrcOk.set ?_ ?_ _) | (with_reducible refine SrcOk.drewN ?_ _) | (with_reducible refine SrcOk.drew ?_) | (with_reducible refine SrcOk.later _ ?_) | (with_reducible refine SrcOk.after _ ?_ ?_) | (dsimp only; omega) | omega | ((try simp only [World.size_alloc, World.size_setCell, World.size_drew]); omega))))).mono ?_
    rintro e w' ⟨M, am, cm, hokM, hM, rfl, z3, rfl, hsrc, hom⟩
    have H3 := Lib.hid hsrc
    have hs3 := z3.btw.size
    (try simp only [World.size_alloc, World.size_setCell, World.size_drew] at hs3)
    clear hsrc
    have hO3 : Owns z3.w p p' 27 7 L.length a c (clmsCells L) := by (repeat (first | (with_reducible exact t4.out) | (with_reducible refine owns_after _ ?_ ?_) | (with_reducible refine owns_later _ ?_ ?_) | (with_reducible refine owns_alloc ?_ _) | (with_reducible refine owns_set ?_ ?_ _) | (with_reducible refine Owns.drewN ?_ _) | (with_reducible refine owns_drew ?_) | (dsimp only; omega) | omega | ((try simp only [World.size_alloc, World.size_setCell, World.size_drew]); omega)))
    have hB3 : Between g (g + 1) w z3.w := by (repeat (first | (with_reducible exact Between.refl _ _ _) | (with_reducible refine Between.drew ?_) | (with_reducible refine Between.drewN ?_ _) | (with_reducible refine btw_own ?_ ?_ _) | (with_reducible refine btw_later _ ?_) | (with_reducible refine btw_alloc ?_ _) | (with_reducible refine btw_after _ ?_) | (with_reducible refine btw_beyond _ ?_ ?_) | (with_reducible refine Aft.btw _ ?_ ?_) | (with_reducible assumption) | (dsimp only; omega) | omega | ((try simp only [World.size_alloc, World.size_setCell, World.size_drew]); omega)))
    have hok0 := hok
    replace hok := Lib.hid hok
    replace hokM := Lib.hid hokM
    replace hO3 := Lib.hid hO3
    replace hB3 := Lib.hid hB3
    replace hom := Lib.hid hom
    clear hok0
    go_wp2_with fail
    go_loopw [3, 8] (fun o i wr => ∃ (L : List Clm) (k : Nat) (a : Option Addr) (c p p' : Nat), L.length ≤ 9 ∧ k ≤ M.length ∧ (∀ x ∈ L, OkC x) ∧ i = .int .i64 k ∧ o = .slice a L.length c ∧ Owns wr p p' 27 7 L.length a c (clmsCells L) ∧ w.heap.size ≤ p ∧ p ≤ p' ∧ p' ≤ wr.heap.size ∧ (p' ≤ q.w.heap.size ∨ z3.w.heap.size ≤ p) ∧ z3.w.heap.size ≤ wr.heap.size ∧ Owns wr q.w.heap.size z3.w.heap.size 27 7 M.length am cm (clmsCells M) ∧ SrcOk wr g ∧ Between g (g + 1) w wr) (fun _ i _ => M.length - (intOf i).toNat)
    case atStart => exact ⟨L, 0, a, c, p, p', by omega, Nat.zero_le _, hok.out, rfl, rfl, hO3.out, t1, t2, by omega, .inl t3, Nat.le_refl _, hom.out, H3.out, hB3.out⟩
    case round =>
      clear hok hO3 hB3 hom H3 t4 t1 t2 t3
      obtain ⟨L, k, a, c, p, p', hL9, hk, hok, rfl, rfl, ho, t1, t2, t3, hd, hz, hom, hs5, hb⟩ := hrel
      obtain ⟨y, rfl⟩ := AfterC.mk hb
      have hys := y.btw.size
      clear hb
      replace hs5 := Lib.hid hs5
      replace ho := Lib.hid ho
      replace hok := Lib.hid hok
      by_cases hlt : k < M.length
      · have i1 : (k : Int) < (M.length : Int) := by omega
        by_cases hlt2 : L.length < 9
        · have i2 : (L.length : Int) < 9 := by omega
          obtain ⟨bm, om, rfl, hbm, c0, c1, c2, c3, c4, c5, c6⟩ := hom.row.clm hlt
          have hxM := Lib.hid (hokM.out _ (List.getElem_mem hlt))
          obtain ⟨x, hx⟩ : ∃ x, M[k] = x := ⟨_, rfl⟩
          rw [hx] at c0 c1 c2 c3 c4 c5 c6 hxM
          clear hx
          replace hom := Lib.hid hom
          go_wp2_with (at_builtin; (refine wpList_append_apart _ rfl _ _ _ rfl 27 ii _ 7 80 Tryz.underlying32 Jii.out.1 Jii.out.2.1 Jii.out.2.2.1 Jii.out.2.2.2 rfl (by decide) (p) (p') ?qb25 _ _ _ (clmsCells L) rfl ?qb26 ?qb32 _ _ _ (clmCells x) rfl ?qb27 ?qb28 ?qb29 ?qb30 ?qb31 ?_); (case qb25 => (first | (dsimp only; omega) | omega | (simp only [World.size_alloc, World.size_setCell, World.size_drew]; omega))); (case qb26 => exact ((by (repeat (first | (with_reducible exact ho.out) | (with_reducible refine owns_after _ ?_ ?_) | (with_reducible refine owns_later _ ?_ ?_) | (with_reducible refine owns_alloc ?_ _) | (with_reducible refine owns_set ?_ ?_ _) | (with_reducible refine Owns.drewN ?_ _) | (with_reducible refine owns_drew ?_) | (dsimp only; omega) | omega | ((try simp only [World.size_alloc, World.size_setCell, World.size_drew]); omega))) : Owns _ p p' 27 7 L.length a c (clmsCells L))).own); (case qb32 => exact ho.out.lt); (case qb27 => (first | rfl | (simp [boolCells]; done) | (simp [intCells]; done) | (simp; done) | (first | omega | (simp only [List.length_append, List.length_cons, List.length_nil]; omega)))); (case qb28 => exact Row.made _ _ _); (case qb29 => exact one_clm1 _); (case qb30 => (unfold maxLen; (first | omega | (simp only [List.length_append, List.length_cons, List.length_nil]; omega)))); (case qb31 => (first | omega | (simp only [List.length_append, List.length_cons, List.length_nil]; omega))); intro a9 c9 x9 hown9 hat9; obtain ⟨r, r', g1, g2, g3, g4, g5⟩ := tight_apart x9 hown9 hat9 hd t2 (by (try simp only [World.size_alloc]); omega) (by (try simp only [World.size_alloc]); omega); replace g4 := Lib.hid g4; clear hown9 hat9; have hs9 := x9.btw.size; (try simp only [World.size_alloc, World.size_setCell, World.size_drew] at hs9))
          go_roundw
          case rel =>
            refine ⟨L ++ [x], k + 1, a9, c9, r, r', by simp; omega, by omega, okC_snoc hok.out hxM.out, by go_num, by simp, ?_, by omega, g2, g3, g5, by omega, ?_, ?_, ?_⟩
            · rw [clmsCells_snoc, show (L ++ [x]).length = L.length + 1 by simp]
              exact g4.out
            · (repeat (first | (with_reducible exact hom.out) | (with_reducible refine owns_after _ ?_ ?_) | (with_reducible refine owns_later _ ?_ ?_) | (with_reducible refine owns_alloc ?_ _) | (with_reducible refine owns_set ?_ ?_ _) | (with_reducible refine Owns.drewN ?_ _) | (with_reducible refine owns_drew ?_) | (dsimp only; omega) | omega | ((try simp only [World.size_alloc, World.size_setCell, World.size_drew]); omega)))
            · (repeat (first | (with_reducible exact hs5.out) | (with_reducible refine SrcOk.alloc ?_ _) | (with_reducible refine SrcOk.set ?_ ?_ _) | (with_reducible refine SrcOk.drewN ?_ _) | (with_reducible refine SrcOk.drew ?_) | (with_reducible refine SrcOk.later _ ?_) | (with_reducible refine SrcOk.after _ ?_ ?_) | (dsimp only; omega) | omega | ((try simp only [World.size_alloc, World.size_setCell, World.size_drew]); omega)))
            · (repeat (first | (with_reducible exact Between.refl _ _ _) | (with_reducible refine Between.drew ?_) | (with_reducible refine Between.drewN ?_ _) | (with_reducible refine btw_own ?_ ?_ _) | (with_reducible refine btw_later _ ?_) | (with_reducible refine btw_alloc ?_ _) | (with_reducible refine btw_after _ ?_) | (with_reducible refine btw_beyond _ ?_ ?_) | (with_reducible refine Aft.btw _ ?_ ?_) | (with_reducible assumption) | (dsimp only; omega) | omega | ((try simp only [World.size_alloc, World.size_setCell, World.size_drew]); omega)))
          case measure => first | (simp [intOf]; done) | (simp [intOf]; omega) | omega
        · have i2 : ¬ (L.length : Int) < 9 := by omega
          go_wp2_with fail
          refine bodyPost_ret (by simp [results, Tryz.results101, go_sem, ↓IntWalk.iteOmega, *]; try rfl) rfl ?_
          refine RetClmsD.mk (L := L) hok.out (by omega) rfl y.btw hs5.out ?_
          exact owns_wide ho.out (by omega) (by omega)
      · obtain rfl : k = M.length := by omega
        have i1 : ¬ (M.length : Int) < (M.length : Int) := by omega
        go_wp2_with fail
        refine bodyPost_ret (by simp [results, Tryz.results101, go_sem, ↓IntWalk.iteOmega, *]; try rfl) rfl ?_
        refine RetClmsD.mk (L := L) hok.out (by omega) rfl y.btw hs5.out ?_
        exact owns_wide ho.out (by omega) (by omega)
end Go.Proofs.YtflcfdiochohgaaGreatDoor

import Derived.Test.YtklcaphkfdlipaaGreatDoorPackVa
import Derived.Test.YtklcaphkfdlipaaGreatDoorDrGood
/- The draw of maps: some rings, rarely too many or one that does not fit. -/
set_option linter.unusedSimpArgs false
set_option linter.unusedVariables false
namespace Go.Proofs.YtklcaphkfdlipaaGreatDoor
open Go.RowKit
theorem RowsG.keep {w w' : World} {lo g g' : Nat} {a : Option Addr} {T : List (List Pt)} {vs : List Value} (h : RowsG w lo a T vs) (hb : Between g g' w w') (hg : g' ≤ lo) : RowsG w' lo a T vs := fun i hi => by
  obtain ⟨ai, ci, e1, e3, e4, e5, e6⟩ := h i hi
  exact ⟨ai, ci, e1, e3.btw hb (fun p hp => .inr (by have := (e6 p hp).1; omega)), e4, e5, fun p hp => ⟨(e6 p hp).1, by have := (e6 p hp).2.1; have := hb.size; omega, (e6 p hp).2.2⟩⟩
set_option maxRecDepth 8000 in
set_option maxHeartbeats 8000000 in
theorem l17Draw_any (g : Nat) (w : World) (h : SrcOk w g) : Calls Tryz.prog 121 #[.pointer (some ⟨g, 0, none⟩)] w (RetRgD w g 7) := by
  have hg := h.lt
  have H0 := Lib.hid h
  clear h
  obtain ⟨ii, j1, j2, j3, j4⟩ := info_sp'
  have Jii := Lib.hid (And.intro j1 (And.intro j2 (And.intro j3 j4)))
  clear j1 j2 j3 j4
  go_enter Tryz.func121, Tryz.ntmps121
  go_wp2_with fail
  with_reducible refine (l17Good_any g _ (by (repeat (first | (with_reducible exact H0.out) | (with_reducible refine SrcOk.alloc ?_ _) | (with_reducible refine SrcOk.set ?_ ?_ _) | (with_reducible refine SrcOk.drewN ?_ _) | (with_reducible refine SrcOk.drew ?_) | (with_reducible refine SrcOk.later _ ?_) | (with_reducible refine SrcOk.after _ ?_ ?_) | (dsimp only; omega) | omega | ((try simp only [World.size_alloc, World.size_setCell, World.size_drew]); omega))))).mono ?_
  rintro e w' ⟨T, a, n, c, rfl, hn6, hG, z1, rfl, hsrc⟩
  have H1 := Lib.hid hsrc
  have hs1 := z1.btw.size
  (try simp only [World.size_alloc, World.size_setCell, World.size_drew] at hs1 hG)
  replace hG := Lib.hid hG
  clear hsrc
  go_wp2_with fail
  with_reducible refine (next_any g 16 _ (by (repeat (first | (with_reducible exact H1.out) | (with_reducible refine SrcOk.alloc ?_ _) | (with_reducible refine SrcOk.set ?_ ?_ _) | (with_reducible refine SrcOk.drewN ?_ _) | (with_reducible refine SrcOk.drew ?_) | (with_reducible refine SrcOk.later _ ?_) | (with_reducible refine SrcOk.after _ ?_ ?_) | (dsimp only; omega) | omega | ((try simp only [World.size_alloc, World.size_setCell, World.size_drew]); omega))))).mono ?_
  rintro e w' ⟨r, hdraw, rfl, z2, rfl, hsrc⟩
  have hsz2 := z2.btw.size
  (try simp only [World.size_alloc, World.size_setCell, World.size_drew] at hsz2)
  have H2 := Lib.hid hsrc
  clear hsrc
  obtain ⟨r0, r1⟩ := hdraw
  have hB2 : Between g (g + 1) w z2.w := by (repeat (first | (with_reducible exact Between.refl _ _ _) | (with_reducible refine Between.drew ?_) | (with_reducible refine Between.drewN ?_ _) | (with_reducible refine btw_own ?_ ?_ _) | (with_reducible refine btw_later _ ?_) | (with_reducible refine btw_alloc ?_ _) | (with_reducible refine btw_after _ ?_) | (with_reducible refine btw_beyond _ ?_ ?_) | (with_reducible refine Aft.btw _ ?_ ?_) | (with_reducible assumption) | (dsimp only; omega) | omega | ((try simp only [World.size_alloc, World.size_setCell, World.size_drew]); omega)))
  have hG2 : GRg z2.w w.heap.size T a n c := hG.out.keep (g := g) (g' := g + 1) (by (repeat (first | (with_reducible exact Between.refl _ _ _) | (with_reducible refine Between.drew ?_) | (with_reducible refine Between.drewN ?_ _) | (with_reducible refine btw_own ?_ ?_ _) | (with_reducible refine btw_later _ ?_) | (with_reducible refine btw_alloc ?_ _) | (with_reducible refine btw_after _ ?_) | (with_reducible refine btw_beyond _ ?_ ?_) | (with_reducible refine Aft.btw _ ?_ ?_) | (with_reducible assumption) | (dsimp only; omega) | omega | ((try simp only [World.size_alloc, World.size_setCell, World.size_drew]); omega)))) (by omega)
  have u2 : w.heap.size ≤ z2.w.heap.size := by omega
  replace hG2 := Lib.hid hG2
  replace hB2 := Lib.hid hB2
  clear hG
  rcases (show r = 0 ∨ r = 1 ∨ 2 ≤ r by omega) with rfl | rfl | hr2
  · go_wp2_with fail
    with_reducible refine (sRingDraw_any g _ (by (repeat (first | (with_reducible exact H2.out) | (with_reducible refine SrcOk.alloc ?_ _) | (with_reducible refine SrcOk.set ?_ ?_ _) | (with_reducible refine SrcOk.drewN ?_ _) | (with_reducible refine SrcOk.drew ?_) | (with_reducible refine SrcOk.later _ ?_) | (with_reducible refine SrcOk.after _ ?_ ?_) | (dsimp only; omega) | omega | ((try simp only [World.size_alloc, World.size_setCell, World.size_drew]); omega))))).mono ?_
    rintro e w' ⟨M, ar, m, cr, hsm, hm12, hm, hcr1, hcr2, rfl, hat, z3, rfl, hsrc, hrow⟩
    subst hm
    have H3 := Lib.hid hsrc
    have hs3 := z3.btw.size
    (try simp only [World.size_alloc, World.size_setCell, World.size_drew] at hs3 hat)
    obtain ⟨hGl, hGo, vs, hv, hrows⟩ := hG2.out
    obtain ⟨p, p', hp1, hp2, hp3, hpo, hgo⟩ := grg_own (Owns.of hv) u2
    have hvl : vs.length = n := by have := hv.1; omega
    have hrows3 := Lib.hid (hrows.keep z3.btw (by omega))
    have hB3 : Between g (g + 1) w z3.w := by (repeat (first | (with_reducible exact Between.refl _ _ _) | (with_reducible refine Between.drew ?_) | (with_reducible refine Between.drewN ?_ _) | (with_reducible refine btw_own ?_ ?_ _) | (with_reducible refine btw_later _ ?_) | (with_reducible refine btw_alloc ?_ _) | (with_reducible refine btw_after _ ?_) | (with_reducible refine btw_beyond _ ?_ ?_) | (with_reducible refine Aft.btw _ ?_ ?_) | (with_reducible assumption) | (dsimp only; omega) | omega | ((try simp only [World.size_alloc, World.size_setCell, World.size_drew]); omega)))
    have hSm := Lib.hid (show SmG M from ⟨by omega, hsm⟩)
    replace hrow := Lib.hid hrow
    replace hat := Lib.hid hat
    replace hpo := Lib.hid hpo
    replace hgo := Lib.hid hgo
    replace hGo := Lib.hid hGo
    replace hGl := Lib.hid hGl
    replace hB3 := Lib.hid hB3
    clear hv hG2 hsm hsrc hrows
    go_wp2_with (at_builtin; (refine wpList_append_apart _ rfl _ _ _ rfl 83 ii _ 1 24 Tryz.underlying29 Jii.out.1 Jii.out.2.1 Jii.out.2.2.1 Jii.out.2.2.2 rfl (by decide) (p) (p') ?qb1 _ _ _ (vs) rfl ?qb2 ?qb8 _ _ _ ([.slice ar M.length cr]) rfl ?qb3 ?qb4 ?qb5 ?qb6 ?qb7 ?_); (case qb1 => (first | (dsimp only; omega) | omega | (simp only [World.size_alloc, World.size_setCell, World.size_drew]; omega))); (case qb2 => exact ((by (repeat (first | (with_reducible exact hpo.out) | (with_reducible refine owns_after _ ?_ ?_) | (with_reducible refine owns_later _ ?_ ?_) | (with_reducible refine owns_alloc ?_ _) | (with_reducible refine owns_set ?_ ?_ _) | (with_reducible refine Owns.drewN ?_ _) | (with_reducible refine owns_drew ?_) | (dsimp only; omega) | omega | ((try simp only [World.size_alloc, World.size_setCell, World.size_drew]); omega))) : Owns _ p p' 83 1 n a c vs)).own); (case qb8 => exact hpo.out.lt); (case qb3 => (first | rfl | (simp [boolCells]; done) | (simp [intCells]; done) | (simp; done) | (first | omega | (simp only [List.length_append, List.length_cons, List.length_nil]; omega)))); (case qb4 => exact Row.made _ _ _); (case qb5 => exact one_sp _ _ _); (case qb6 => (unfold maxLen; (first | omega | (simp only [List.length_append, List.length_cons, List.length_nil]; omega)))); (case qb7 => (first | omega | (simp only [List.length_append, List.length_cons, List.length_nil]; omega))); intro a9 c9 x9 hown9 hat9; replace hat9 := Lib.hid hat9; replace hown9 := Lib.hid hown9)
    refine bodyPost_ret (by simp [results, Tryz.results121, go_sem, ↓IntWalk.iteOmega, *]; try rfl) rfl ?_
    refine ⟨T ++ [M], a9, n + 1, c9, rfl, by omega, ?_, ⟨x9.w, btw_over (hB3.out.later bb) x9.btw hp1⟩, rfl, ?_⟩
    · refine GRg.snoc (c := c) (w := z3.w.alloc (.cells #[.slice ar M.length cr] 83)) hGl.out hGo.out (hrows3.out.bel bb) hvl hgo.out x9.btw hown9.out hp1 hat9.out hSm.out (hrow.out.bel bb) hcr1 hcr2 fun q' hq' => ?_
      obtain ⟨h1, h2⟩ := hat.out q' hq'
      refine ⟨by omega, by simp only [World.size_alloc]; omega, fun q2 hq2 => ?_⟩
      have h3 := hpo.out.lt q2 hq2
      omega
    · show SrcOk x9.w g
      (repeat (first | (with_reducible exact H3.out) | (with_reducible refine SrcOk.alloc ?_ _) | (with_reducible refine SrcOk.set ?_ ?_ _) | (with_reducible refine SrcOk.drewN ?_ _) | (with_reducible refine SrcOk.drew ?_) | (with_reducible refine SrcOk.later _ ?_) | (with_reducible refine SrcOk.after _ ?_ ?_) | (dsimp only; omega) | omega | ((try simp only [World.size_alloc, World.size_setCell, World.size_drew]); omega)))
  · go_wp2_with fail
    go_loopw [3, 4] (fun t3 t4 wr => ∃ (i : Nat) (T : List (List Pt)) (a : Option Addr) (n c : Nat), n ≤ 7 ∧ i ≤ n ∧ t4 = .int .i64 i ∧ t3 = .slice a n c ∧ GRg wr w.heap.size T a n c ∧ Between g (g + 1) w wr ∧ SrcOk wr g) (fun _ t4 _ => 8 - (intOf t4).toNat)
    case atStart => exact ⟨0, T, a, n, c, by omega, by omega, rfl, rfl, hG2.out, hB2.out, H2.out⟩
    case round =>
      clear hG2 hn6
      obtain ⟨i, T, a, n, c, hn7, hin, rfl, rfl, hG, hbt, hs⟩ := hrel
      obtain ⟨q, rfl⟩ := AfterC.mk hbt
      have hqs := q.btw.size
      replace hs := Lib.hid hs
      replace hG := Lib.hid hG
      clear hbt H1 H2 H0
      go_wp2_with fail
      with_reducible refine (next_any g 2 _ (by (repeat (first | (with_reducible exact hs.out) | (with_reducible refine SrcOk.alloc ?_ _) | (with_reducible refine SrcOk.set ?_ ?_ _) | (with_reducible refine SrcOk.drewN ?_ _) | (with_reducible refine SrcOk.drew ?_) | (with_reducible refine SrcOk.later _ ?_) | (with_reducible refine SrcOk.after _ ?_ ?_) | (dsimp only; omega) | omega | ((try simp only [World.size_alloc, World.size_setCell, World.size_drew]); omega))))).mono ?_
      rintro e w' ⟨v, hdraw, rfl, z3, rfl, hsrc⟩
      have hsz3 := z3.btw.size
      (try simp only [World.size_alloc, World.size_setCell, World.size_drew] at hsz3)
      have H3 := Lib.hid hsrc
      clear hsrc
      obtain ⟨v0, v1⟩ := hdraw
      have hG3 : GRg z3.w w.heap.size T a n c := hG.out.keep (g := g) (g' := g + 1) (by (repeat (first | (with_reducible exact Between.refl _ _ _) | (with_reducible refine Between.drew ?_) | (with_reducible refine Between.drewN ?_ _) | (with_reducible refine btw_own ?_ ?_ _) | (with_reducible refine btw_later _ ?_) | (with_reducible refine btw_alloc ?_ _) | (with_reducible refine btw_after _ ?_) | (with_reducible refine btw_beyond _ ?_ ?_) | (with_reducible refine Aft.btw _ ?_ ?_) | (with_reducible assumption) | (dsimp only; omega) | omega | ((try simp only [World.size_alloc, World.size_setCell, World.size_drew]); omega)))) (by omega)
      have hB3 : Between g (g + 1) w z3.w := by (repeat (first | (with_reducible exact Between.refl _ _ _) | (with_reducible refine Between.drew ?_) | (with_reducible refine Between.drewN ?_ _) | (with_reducible refine btw_own ?_ ?_ _) | (with_reducible refine btw_later _ ?_) | (with_reducible refine btw_alloc ?_ _) | (with_reducible refine btw_after _ ?_) | (with_reducible refine btw_beyond _ ?_ ?_) | (with_reducible refine Aft.btw _ ?_ ?_) | (with_reducible assumption) | (dsimp only; omega) | omega | ((try simp only [World.size_alloc, World.size_setCell, World.size_drew]); omega)))
      have u3 : w.heap.size ≤ z3.w.heap.size := by omega
      replace hG3 := Lib.hid hG3
      replace hB3 := Lib.hid hB3
      clear hG
      by_cases hlt : (n : Int) < 6 + v
      · have CP := Lib.hid (fun (a5 : Option Addr) (w : World) (hr : Row w a5 (intCells [100 + 10 * (i : Int), 0, 101 + 10 * (i : Int), 0, 100 + 10 * (i : Int), 1])) => l17Points_any [100 + 10 * (i : Int), 0, 101 + 10 * (i : Int), 0, 100 + 10 * (i : Int), 1] 0 1000 a5 6 6 w rfl (by omega) (by intro x hx; simp only [List.mem_cons, List.not_mem_nil, or_false] at hx; omega) hr)
        go_wp2_with fail
        with_reducible refine (CP.out _ _ (Row.madeAt (w := z3.w) (cs := #[.int .i64 (100 + 10 * (i : Int)), .int .i64 0, .int .i64 (101 + 10 * (i : Int)), .int .i64 0, .int .i64 (100 + 10 * (i : Int)), .int .i64 1]) (e := 2) (n := z3.w.heap.size) rfl rfl)).mono ?_
        rintro e w' ⟨M, ar, m, cr, hL, hm6, hm, rfl, hown, z5, rfl⟩
        subst hm
        have hs5 := z5.bel.size
        (try simp only [World.size_alloc, World.size_setCell, World.size_drew] at hs5 hown)
        obtain ⟨hcr1, hcr2⟩ := own_caps2 hown
        have hSm := Lib.hid (show SmG M from ⟨by omega, fun p hp => by
          obtain ⟨k1, k2, k3, k4⟩ := hL p hp
          exact ⟨by omega, by omega, by omega, by omega⟩⟩)
        have hOr := Lib.hid (Row.of_own hown)
        have hoge := Lib.hid ((Owns.of hown).ge)
        have hplt := Lib.hid ((Owns.of hown).lt)
        obtain ⟨hGl, hGo, vs, hv, hrows⟩ := hG3.out
        obtain ⟨p, p', hp1, hp2, hp3, hpo, hgo⟩ := grg_own (Owns.of hv) u3
        have hvl : vs.length = n := by have := hv.1; omega
        replace hpo := Lib.hid hpo
        replace hrows := Lib.hid hrows
        replace hgo := Lib.hid hgo
        replace hGo := Lib.hid hGo
        replace hGl := Lib.hid hGl
        clear hv hG3 hown hL
        go_wp2_with (at_builtin; (refine wpList_append_apart _ rfl _ _ _ rfl 83 ii _ 1 24 Tryz.underlying29 Jii.out.1 Jii.out.2.1 Jii.out.2.2.1 Jii.out.2.2.2 rfl (by decide) (p) (p') ?qb9 _ _ _ (vs) rfl ?qb10 ?qb16 _ _ _ ([.slice ar M.length cr]) rfl ?qb11 ?qb12 ?qb13 ?qb14 ?qb15 ?_); (case qb9 => (first | (dsimp only; omega) | omega | (simp only [World.size_alloc, World.size_setCell, World.size_drew]; omega))); (case qb10 => exact own_bel hpo.out.own bb); (case qb16 => exact hpo.out.lt); (case qb11 => (first | rfl | (simp [boolCells]; done) | (simp [intCells]; done) | (simp; done) | (first | omega | (simp only [List.length_append, List.length_cons, List.length_nil]; omega)))); (case qb12 => exact Row.made _ _ _); (case qb13 => exact one_sp _ _ _); (case qb14 => (unfold maxLen; (first | omega | (simp only [List.length_append, List.length_cons, List.length_nil]; omega)))); (case qb15 => (first | omega | (simp only [List.length_append, List.length_cons, List.length_nil]; omega))); intro a9 c9 x9 hown9 hat9; replace hat9 := Lib.hid hat9; replace hown9 := Lib.hid hown9)
        go_roundw
        case rel =>
          refine ⟨i + 1, T ++ [M], a9, n + 1, c9, by omega, by omega, by go_num, rfl, ?_, ?_, ?_⟩
          · refine GRg.snoc (c := c) (w := z5.w.alloc (.cells #[.slice ar M.length cr] 83)) hGl.out hGo.out (hrows.out.bel bb) hvl hgo.out x9.btw hown9.out hp1 hat9.out hSm.out (hOr.out.bel bb) hcr1 hcr2 fun q' hq' => ?_
            have h1 := hoge.out q' hq'
            have h2 := hplt.out q' hq'
            refine ⟨by omega, by simp only [World.size_alloc]; omega, fun q2 hq2 => ?_⟩
            have h3 := hpo.out.lt q2 hq2
            omega
          · exact btw_over (hB3.out.later bb) x9.btw hp1
          · (repeat (first | (with_reducible exact H3.out) | (with_reducible refine SrcOk.alloc ?_ _) | (with_reducible refine SrcOk.set ?_ ?_ _) | (with_reducible refine SrcOk.drewN ?_ _) | (with_reducible refine SrcOk.drew ?_) | (with_reducible refine SrcOk.later _ ?_) | (with_reducible refine SrcOk.after _ ?_ ?_) | (dsimp only; omega) | omega | ((try simp only [World.size_alloc, World.size_setCell, World.size_drew]); omega)))
        case measure => first | (simp [intOf]; done) | (simp [intOf]; omega) | omega
      · go_wp2_with fail
        refine bodyPost_ret (by simp [results, Tryz.results121, go_sem, ↓IntWalk.iteOmega, *]; try rfl) rfl ?_
        exact ⟨T, a, n, c, rfl, by omega, hG3.out, ⟨z3.w, hB3.out⟩, rfl, H3.out⟩
  · have e0 : (r == 0) = false := by rw [beq_eq_false_iff_ne]; omega
    have e1 : (r == 1) = false := by rw [beq_eq_false_iff_ne]; omega
    go_wp2_with fail
    refine bodyPost_ret (by simp [results, Tryz.results121, go_sem, ↓IntWalk.iteOmega, *]; try rfl) rfl ?_
    exact ⟨T, a, n, c, rfl, by omega, hG2.out, ⟨z2.w, hB2.out⟩, rfl, H2.out⟩
end Go.Proofs.YtklcaphkfdlipaaGreatDoor

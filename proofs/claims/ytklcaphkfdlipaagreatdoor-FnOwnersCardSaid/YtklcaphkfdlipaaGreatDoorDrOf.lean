import Derived.Test.YtklcaphkfdlipaaGreatDoorPackVa
import Derived.Test.YtklcaphkfdlipaaGreatDoorDrVf
/- The draws of the law on owners. Printed by drofgen.py. -/
set_option linter.unusedSimpArgs false
set_option linter.unusedVariables false
namespace Go.Proofs.YtklcaphkfdlipaaGreatDoor
open Go.RowKit
/-- Some number, a little beyond the rings. -/
def RetIdx (w : World) (g n : Nat) (e : Ending) (w' : World) : Prop :=
  ∃ r : Int, -1 ≤ r ∧ r ≤ n + 2 ∧ e = .returned (.int .i64 r) ∧ ∃ z : After w g (g + 1), w' = z.w ∧ SrcOk z.w g
set_option maxHeartbeats 4000000 in
theorem l17Index_any (g : Nat) (a : Option Addr) (n c : Nat) (w : World) (h : SrcOk w g) (hn : n ≤ 1000) : Calls Tryz.prog 92 #[.pointer (some ⟨g, 0, none⟩), .slice a n c] w (RetIdx w g n) := by
  have hg := h.lt
  have H0 := Lib.hid h
  clear h
  go_enter Tryz.func92, Tryz.ntmps92
  go_wp2_with fail
  with_reducible refine (next_any g 12 _ (by (repeat (first | (with_reducible exact H0.out) | (with_reducible refine SrcOk.alloc ?_ _) | (with_reducible refine SrcOk.set ?_ ?_ _) | (with_reducible refine SrcOk.drewN ?_ _) | (with_reducible refine SrcOk.drew ?_) | (with_reducible refine SrcOk.later _ ?_) | (with_reducible refine SrcOk.after _ ?_ ?_) | (dsimp only; omega) | omega | ((try simp only [World.size_alloc, World.size_setCell, World.size_drew]); omega))))).mono ?_
  rintro e w' ⟨x, hdraw, rfl, z1, rfl, hsrc⟩
  have hsz1 := z1.btw.size
  (try simp only [World.size_alloc, World.size_setCell, World.size_drew] at hsz1)
  have H1 := Lib.hid hsrc
  clear hsrc
  obtain ⟨x0, x1⟩ := hdraw
  go_wp2_with fail
  with_reducible refine (next_any g ((n : Int) + 1 + x / 11) _ (by (repeat (first | (with_reducible exact H1.out) | (with_reducible refine SrcOk.alloc ?_ _) | (with_reducible refine SrcOk.set ?_ ?_ _) | (with_reducible refine SrcOk.drewN ?_ _) | (with_reducible refine SrcOk.drew ?_) | (with_reducible refine SrcOk.later _ ?_) | (with_reducible refine SrcOk.after _ ?_ ?_) | (dsimp only; omega) | omega | ((try simp only [World.size_alloc, World.size_setCell, World.size_drew]); omega))))).mono ?_
  rintro e w' ⟨y, hdraw, rfl, z2, rfl, hsrc⟩
  have hsz2 := z2.btw.size
  (try simp only [World.size_alloc, World.size_setCell, World.size_drew] at hsz2)
  have H2 := Lib.hid hsrc
  clear hsrc
  obtain ⟨y0, y1⟩ := hdraw
  go_wp2_with fail
  with_reducible refine (next_any g 24 _ (by (repeat (first | (with_reducible exact H2.out) | (with_reducible refine SrcOk.alloc ?_ _) | (with_reducible refine SrcOk.set ?_ ?_ _) | (with_reducible refine SrcOk.drewN ?_ _) | (with_reducible refine SrcOk.drew ?_) | (with_reducible refine SrcOk.later _ ?_) | (with_reducible refine SrcOk.after _ ?_ ?_) | (dsimp only; omega) | omega | ((try simp only [World.size_alloc, World.size_setCell, World.size_drew]); omega))))).mono ?_
  rintro e w' ⟨t, hdraw, rfl, z3, rfl, hsrc⟩
  have hsz3 := z3.btw.size
  (try simp only [World.size_alloc, World.size_setCell, World.size_drew] at hsz3)
  have H3 := Lib.hid hsrc
  clear hsrc
  obtain ⟨t0, t1⟩ := hdraw
  go_wp2_with fail
  go_ret
  exact ⟨y - t / 23, by omega, by omega, rfl, ⟨z3.w, by (repeat (first | (with_reducible exact Between.refl _ _ _) | (with_reducible refine Between.drew ?_) | (with_reducible refine Between.drewN ?_ _) | (with_reducible refine btw_own ?_ ?_ _) | (with_reducible refine btw_later _ ?_) | (with_reducible refine btw_alloc ?_ _) | (with_reducible refine btw_after _ ?_) | (with_reducible refine btw_beyond _ ?_ ?_) | (with_reducible refine Aft.btw _ ?_ ?_) | (with_reducible assumption) | (dsimp only; omega) | omega | ((try simp only [World.size_alloc, World.size_setCell, World.size_drew]); omega)))⟩, rfl, H3.out⟩
/-- Rings, views, and the index of a ring. -/
def RetV3 (w : World) (e : Ending) (w' : World) : Prop :=
  ∃ (R : List (List Pt)) (a : Option Addr) (n c : Nat) (T : List Vw) (b : Option Addr) (m d : Nat) (x : Int), e = .returned (.tuple #[.slice a n c, .slice b m d, .int .i64 x]) ∧ -1 ≤ x ∧ x ≤ n + 2 ∧ VwF w' R a n c T b m d ∧ ∃ y : Later w, w' = y.w
/-- Rings, views, and a point. -/
def RetV3p (w : World) (e : Ending) (w' : World) : Prop :=
  ∃ (R : List (List Pt)) (a : Option Addr) (n c : Nat) (T : List Vw) (b : Option Addr) (m d : Nat) (p : Pt), e = .returned (.tuple #[.slice a n c, .slice b m d, .agg #[.int .i64 p.x, .int .i64 p.y]]) ∧ VwF w' R a n c T b m d ∧ ∃ y : Later w, w' = y.w
/-- A point of one's own in a block. -/
def PtAt (w : World) (k : Nat) : Prop := ∃ x y : Int, w.cell? ⟨k, 0, none⟩ = some (.int .i64 x) ∧ w.cell? ⟨k, 1, none⟩ = some (.int .i64 y) ∧ w.frozen? ⟨k, 0, none⟩ = false ∧ w.frozen? ⟨k, 1, none⟩ = false ∧ k < w.heap.size
theorem PtAt.made (w : World) (x y : Int) : PtAt (w.alloc (.cells #[.int .i64 x, .int .i64 y] 72)) w.heap.size :=
  ⟨x, y, by simp [go_sem, ↓IntWalk.iteOmega], by simp [go_sem, ↓IntWalk.iteOmega], by simp [go_sem, ↓IntWalk.iteOmega], by simp [go_sem, ↓IntWalk.iteOmega], by simp only [World.size_alloc]; omega⟩
theorem PtAt.drew {w : World} {k : Nat} (h : PtAt w k) : PtAt w.drew k := h
theorem PtAt.after {w : World} {k g g' : Nat} (z : After w g g') (h : PtAt w k) (ho : k < g ∨ g' ≤ k) : PtAt z.w k := by
  obtain ⟨x, y, h1, h2, h3, h4, h5⟩ := h
  exact ⟨x, y, (z.btw.cell (p := ⟨k, 0, none⟩) h5 ho).trans h1, (z.btw.cell (p := ⟨k, 1, none⟩) h5 ho).trans h2, (z.btw.frozen (p := ⟨k, 0, none⟩) h5 ho).trans h3, (z.btw.frozen (p := ⟨k, 1, none⟩) h5 ho).trans h4, Nat.lt_of_lt_of_le h5 z.btw.size⟩
theorem PtAt.later {w : World} {k : Nat} (z : Later w) (h : PtAt w k) : PtAt z.w k := by
  obtain ⟨x, y, h1, h2, h3, h4, h5⟩ := h
  exact ⟨x, y, (z.bel.cell (p := ⟨k, 0, none⟩) h5).trans h1, (z.bel.cell (p := ⟨k, 1, none⟩) h5).trans h2, (z.bel.frozen (p := ⟨k, 0, none⟩) h5).trans h3, (z.bel.frozen (p := ⟨k, 1, none⟩) h5).trans h4, Nat.lt_of_lt_of_le h5 z.bel.size⟩
theorem PtAt.put {w : World} {k : Nat} (h : PtAt w k) (x y : Int) : PtAt ((w.setCell ⟨k, 0, none⟩ (.int .i64 x)).setCell ⟨k, 1, none⟩ (.int .i64 y)) k := by
  obtain ⟨x0, y0, h1, h2, h3, h4, h5⟩ := h
  exact ⟨x, y, by simp [go_sem, h1, h2, h3, h4], by simp [go_sem, h1, h2, h3, h4], by simp [go_sem, h1, h2, h3, h4], by simp [go_sem, h1, h2, h3, h4], by simp only [World.size_setCell]; exact h5⟩
def SrcP (W : World) (g k : Nat) (w' : World) : Prop := ∃ y : After W g (g + 1), w' = y.w ∧ SrcOk y.w g ∧ PtAt y.w k
theorem SrcP.mk {W : World} {g k : Nat} {w' : World} (h : Between g (g + 1) W w') (hs : SrcOk w' g) (hp : PtAt w' k) : SrcP W g k w' := ⟨⟨w', h⟩, rfl, hs, hp⟩
section
variable (a : Option Addr) (n c : Nat) (bs : List Int) (w : World) (hr : Row w a (byteCells bs)) (hl : bs.length = n) (hn : n ≤ 4096) (hx : ∀ x ∈ bs, 0 ≤ x ∧ x ≤ 255)
include hr hl hn hx
set_option maxHeartbeats 2000000 in
theorem drawClm_any : Calls Tryz.prog 47 #[.slice a n c] w (RetV3 w) := by
  replace hr := Lib.hid hr
  replace hl := Lib.hid hl
  replace hx := Lib.hid hx
  go_enter Tryz.func47, Tryz.ntmps47
  go_wp2_with fail
  with_reducible refine (from_any a n c bs _ (hr.out.bel bb) hl.out hn hx.out).mono ?_
  rintro e w' ⟨g, hg, rfl, y, rfl, hsrc⟩
  have hsy := y.bel.size
  (try simp only [World.size_alloc, World.size_setCell, World.size_drew] at hg hsy)
  have H0 := Lib.hid hsrc
  have hg1 := hsrc.lt
  clear hsrc
  go_wp2_with fail
  with_reducible refine (l18Draw_any g _ (by (repeat (first | (with_reducible exact H0.out) | (with_reducible refine SrcOk.alloc ?_ _) | (with_reducible refine SrcOk.set ?_ ?_ _) | (with_reducible refine SrcOk.drewN ?_ _) | (with_reducible refine SrcOk.drew ?_) | (with_reducible refine SrcOk.later _ ?_) | (with_reducible refine SrcOk.after _ ?_ ?_) | (dsimp only; omega) | omega | ((try simp only [World.size_alloc, World.size_setCell, World.size_drew]); omega))))).mono ?_
  rintro e w' ⟨R, a1, n1, c1, T, b1, m1, d1, rfl, hn7, hm5, hG, hV, z1, rfl, hsrc⟩
  have hs1 := z1.btw.size
  replace hG := Lib.hid hG
  replace hV := Lib.hid hV
  have H1 := Lib.hid hsrc
  have hg1' : g + 1 ≤ y.w.heap.size := hg1
  clear hsrc
  go_wp2_with fail
  with_reducible refine (l17Index_any g a1 n1 c1 _ (by (repeat (first | (with_reducible exact H1.out) | (with_reducible refine SrcOk.alloc ?_ _) | (with_reducible refine SrcOk.set ?_ ?_ _) | (with_reducible refine SrcOk.drewN ?_ _) | (with_reducible refine SrcOk.drew ?_) | (with_reducible refine SrcOk.later _ ?_) | (with_reducible refine SrcOk.after _ ?_ ?_) | (dsimp only; omega) | omega | ((try simp only [World.size_alloc, World.size_setCell, World.size_drew]); omega)))) (by omega)).mono ?_
  rintro e w' ⟨x, x0, x1, rfl, z2, rfl, hsrc⟩
  have hs2 := z2.btw.size
  clear hsrc
  go_wp2_with fail
  refine bodyPost_ret (by simp [results, Tryz.results47, go_sem, ↓IntWalk.iteOmega, *]; try rfl) rfl ?_
  have hb : Below w.heap.size w z2.w := z2.out (z1.out bb (by omega)) (by omega)
  exact ⟨R, a1, n1, c1, T, b1, m1, d1, x, rfl, x0, x1, VwF.of hn7 hm5 (hG.out.keep z2.btw hg1') (hV.out.keep z2.btw hg1'), ⟨z2.w, hb⟩, rfl⟩
set_option maxRecDepth 8000 in
set_option maxHeartbeats 8000000 in
theorem drawOwn_any : Calls Tryz.prog 48 #[.slice a n c] w (RetV3p w) := by
  replace hr := Lib.hid hr
  replace hl := Lib.hid hl
  replace hx := Lib.hid hx
  go_enter Tryz.func48, Tryz.ntmps48
  go_wp2_with fail
  with_reducible refine (from_any a n c bs _ (hr.out.bel bb) hl.out hn hx.out).mono ?_
  rintro e w' ⟨g, hg, rfl, y, rfl, hsrc⟩
  have hsy := y.bel.size
  (try simp only [World.size_alloc, World.size_setCell, World.size_drew] at hg hsy)
  have H0 := Lib.hid hsrc
  have hg1 := hsrc.lt
  clear hsrc
  go_wp2_with fail
  with_reducible refine (l18Draw_any g _ (by (repeat (first | (with_reducible exact H0.out) | (with_reducible refine SrcOk.alloc ?_ _) | (with_reducible refine SrcOk.set ?_ ?_ _) | (with_reducible refine SrcOk.drewN ?_ _) | (with_reducible refine SrcOk.drew ?_) | (with_reducible refine SrcOk.later _ ?_) | (with_reducible refine SrcOk.after _ ?_ ?_) | (dsimp only; omega) | omega | ((try simp only [World.size_alloc, World.size_setCell, World.size_drew]); omega))))).mono ?_
  rintro e w' ⟨R, a1, n1, c1, T, b1, m1, d1, rfl, hn7, hm5, hG, hV, z1, rfl, hsrc⟩
  have hs1 := z1.btw.size
  replace hG := Lib.hid hG
  replace hV := Lib.hid hV
  have H1 := Lib.hid hsrc
  have hg1' : g + 1 ≤ y.w.heap.size := hg1
  clear hsrc
  go_wp2_with fail
  with_reducible refine (sPtDraw_any g _ (by (repeat (first | (with_reducible exact H1.out) | (with_reducible refine SrcOk.alloc ?_ _) | (with_reducible refine SrcOk.set ?_ ?_ _) | (with_reducible refine SrcOk.drewN ?_ _) | (with_reducible refine SrcOk.drew ?_) | (with_reducible refine SrcOk.later _ ?_) | (with_reducible refine SrcOk.after _ ?_ ?_) | (dsimp only; omega) | omega | ((try simp only [World.size_alloc, World.size_setCell, World.size_drew]); omega))))).mono ?_
  rintro e w' ⟨⟨px, py⟩, -, rfl, z2, rfl, hsrc⟩
  have hs2 := z2.btw.size
  have H2 := Lib.hid hsrc
  clear hsrc
  have hP0 := Lib.hid (PtAt.made z2.w px py)
  go_upto_if 21 with fail
  go_cut [9] from 19 to 48 (fun _ wx => PtAt wx z2.w.heap.size ∧ Between g (g + 1) z2.w wx ∧ SrcOk wx g)
  case first =>
    by_cases hn0 : 0 < n1
    · have hn1 : (0 : Int) < (n1 : Int) := by omega
      have hng : (n1 : Int) > 0 := by omega
      have hG0 := hG.out.keep (g := g) (g' := g + 1) z2.btw hg1'
      go_wp2_with fail
      with_reducible refine (next_any g (n1 : Int) _ (by (repeat (first | (with_reducible exact H2.out) | (with_reducible refine SrcOk.alloc ?_ _) | (with_reducible refine SrcOk.set ?_ ?_ _) | (with_reducible refine SrcOk.drewN ?_ _) | (with_reducible refine SrcOk.drew ?_) | (with_reducible refine SrcOk.later _ ?_) | (with_reducible refine SrcOk.after _ ?_ ?_) | (dsimp only; omega) | omega | ((try simp only [World.size_alloc, World.size_setCell, World.size_drew]); omega))))).mono ?_
      rintro e w' ⟨r, hdraw, rfl, z3, rfl, hsrc⟩
      have hsz3 := z3.btw.size
      (try simp only [World.size_alloc, World.size_setCell, World.size_drew] at hsz3)
      have H3 := Lib.hid hsrc
      clear hsrc
      obtain ⟨r0, r1⟩ := hdraw
      obtain ⟨k, rfl⟩ := Int.eq_ofNat_of_zero_le r0
      have hk : k < n1 := by omega
      have hk1 : (k : Int) < (n1 : Int) := by omega
      obtain ⟨hGl, hGo, vs, hv, hrows⟩ := hG0
      have hkR : k < R.length := by omega
      obtain ⟨ai, ci, e1, e3, e4, e5, e6⟩ := hrows k hkR
      obtain ⟨bk, ok, rfl, hbk⟩ := (Row.of_own hv) k _ e1
      have hbk0 := hv.lt bk rfl
      have hsm := hGo _ (List.getElem_mem hkR)
      have hB3 := Lib.hid (show Between g (g + 1) z2.w z3.w by (repeat (first | (with_reducible exact Between.refl _ _ _) | (with_reducible refine Between.drew ?_) | (with_reducible refine Between.drewN ?_ _) | (with_reducible refine btw_own ?_ ?_ _) | (with_reducible refine btw_later _ ?_) | (with_reducible refine btw_alloc ?_ _) | (with_reducible refine btw_after _ ?_) | (with_reducible refine btw_beyond _ ?_ ?_) | (with_reducible refine Aft.btw _ ?_ ?_) | (with_reducible assumption) | (dsimp only; omega) | omega | ((try simp only [World.size_alloc, World.size_setCell, World.size_drew]); omega))))
      have hP3 := Lib.hid (hP0.out.after z3 (.inr (by omega)))
      have hbk1 : bk < z2.w.heap.size := by omega
      have hbk2 : g + 1 ≤ bk := by omega
      have hbk3 : bk < z3.w.heap.size := by omega
      by_cases h0 : R[k].length = 0
      · rw [h0] at hbk
        clear e1 e3 e4 e5 e6 hsm hv hrows hGo
        go_wp2_with fail
        go_meet
        exact ⟨hP3.out, hB3.out, H3.out⟩
      · have hRl : 0 < R[k].length := by omega
        have hRi : (0 : Int) < (R[k].length : Int) := by omega
        have hsp := hsm.pt _ (List.getElem_mem hRl)
        obtain ⟨b, o, rfl, hb, c0, c1⟩ := e3.pt (k := 0) hRl
        obtain ⟨hlo, -, -⟩ := e6 _ rfl
        simp only [Nat.zero_mul, Nat.add_zero] at c0 c1
        obtain ⟨q1, q2, q3, q4⟩ := hsp
        generalize R[k][0].x = X at *
        generalize R[k][0].y = Y at *
        generalize hmm : R[k].length = m at *
        have hb2 : g + 1 ≤ b := by dsimp only at hlo; omega
        have hb3 : b < z3.w.heap.size := by omega
        clear e1 e3 e4 e5 e6 hsm hv hrows hGo hmm
        go_upto_region 7 with fail
        refine wp_region_inv (SrcP z2.w g z2.w.heap.size) (fun _ _ => True) (fun i v w' => match i with
          | 0 => v = .slice (some ⟨b, o, none⟩) m ci
          | 1 => v = .pointer (some ⟨b, o, none⟩)
          | 2 => v = .pointer (some ⟨b, o, none⟩)
          | 3 => v = .int .i64 X
          | 4 => v = .pointer (some ⟨g, 0, none⟩)
          | 5 => ∃ r : Int, v = .int .i64 r ∧ 0 ≤ r ∧ r < 5
          | 6 => ∃ r : Int, v = .int .i64 r ∧ -2000 ≤ r ∧ r ≤ 2000
          | 7 => ∃ r : Int, v = .int .i64 r ∧ -2010 ≤ r ∧ r ≤ 2010
          | 8 => v = .slice (some ⟨b, o, none⟩) m ci
          | 9 => v = .pointer (some ⟨b, o, none⟩)
          | 10 => v = .pointer (some ⟨b, o + 1, none⟩)
          | 11 => v = .int .i64 Y
          | 12 => v = .pointer (some ⟨g, 0, none⟩)
          | 13 => ∃ r : Int, v = .int .i64 r ∧ 0 ≤ r ∧ r < 5
          | 14 => ∃ r : Int, v = .int .i64 r ∧ -2000 ≤ r ∧ r ≤ 2000
          | 15 => ∃ r : Int, v = .int .i64 r ∧ -2010 ≤ r ∧ r ≤ 2010
          | 16 => ∃ x y : Int, v = .agg #[.int .i64 x, .int .i64 y]
          | 17 => True
          | _ => True) 18 0 (fun _ _ => True) (by kernel_rfl) (by kernel_rfl) (by kernel_rfl) (by kernel_rfl) ?hC0 ?hst (fun _ _ _ _ h => h) ⟨?op0, ?op1, ?op2, ?op3, ?op4, ?op5, ?op6, ?op7, ?op8, ?op9, ?op10, ?op11, ?op12, ?op13, ?op14, ?op15, ?op16, ?op17, trivial⟩ ?hend
        case hC0 => exact SrcP.mk (hB3.out.trans (Between.refl _ _ _).drew) (by (repeat (first | (with_reducible exact H3.out) | (with_reducible refine SrcOk.alloc ?_ _) | (with_reducible refine SrcOk.set ?_ ?_ _) | (with_reducible refine SrcOk.drewN ?_ _) | (with_reducible refine SrcOk.drew ?_) | (with_reducible refine SrcOk.later _ ?_) | (with_reducible refine SrcOk.after _ ?_ ?_) | (dsimp only; omega) | omega | ((try simp only [World.size_alloc, World.size_setCell, World.size_drew]); omega)))) ((hP3.out).drew)
        case hst => exact fun i v w1 w2 _ h => by match i, h with | 0, h => exact h | 1, h => exact h | 2, h => exact h | 3, h => exact h | 4, h => exact h | 5, h => exact h | 6, h => exact h | 7, h => exact h | 8, h => exact h | 9, h => exact h | 10, h => exact h | 11, h => exact h | 12, h => exact h | 13, h => exact h | 14, h => exact h | 15, h => exact h | 16, h => exact h | 17, h => exact h | n + 18, h => trivial
        case op0 =>
          rintro xv _ ⟨y, rfl, hS, hPt⟩ hd
          (try simp only [List.mem_toArray, List.forall_mem_cons, List.not_mem_nil, false_imp_iff, implies_true, and_true, Region.binds, forall_const] at hd)
          have hg1 : g < y.w.heap.size := hS.lt
          have hys := y.btw.size
          simp only [putAll, Act.put, List.setIfInBounds_toArray, List.set_cons_zero, List.set_cons_succ, Nat.zero_add, Nat.reduceAdd]
          refine op_loud (by rfl) (by rfl) ?_
          intro KP hKP
          replace hKP := Lib.hid hKP
          replace hPt := Lib.hid hPt
          go_wp2_with fail
          refine hKP.out _ _ ⟨_, rfl, SrcP.mk y.btw hS hPt.out, trivial, rfl, (fun h => absurd h (by decide))⟩
        case op1 =>
          rintro xv _ ⟨y, rfl, hS, hPt⟩ hd
          (try simp only [List.mem_toArray, List.forall_mem_cons, List.not_mem_nil, false_imp_iff, implies_true, and_true, Region.binds, forall_const] at hd)
          have hg1 : g < y.w.heap.size := hS.lt
          have hys := y.btw.size
          have e1 := hd
          simp only [putAll, Act.put, List.setIfInBounds_toArray, List.set_cons_zero, List.set_cons_succ, Nat.zero_add, Nat.reduceAdd, e1]
          refine op_loud (by rfl) (by rfl) ?_
          intro KP hKP
          replace hKP := Lib.hid hKP
          replace hPt := Lib.hid hPt
          go_wp2_with fail
          refine hKP.out _ _ ⟨_, rfl, SrcP.mk y.btw hS hPt.out, trivial, rfl, (fun h => absurd h (by decide))⟩
        case op2 =>
          rintro xv _ ⟨y, rfl, hS, hPt⟩ hd
          (try simp only [List.mem_toArray, List.forall_mem_cons, List.not_mem_nil, false_imp_iff, implies_true, and_true, Region.binds, forall_const] at hd)
          have hg1 : g < y.w.heap.size := hS.lt
          have hys := y.btw.size
          have e1 := hd
          simp only [putAll, Act.put, List.setIfInBounds_toArray, List.set_cons_zero, List.set_cons_succ, Nat.zero_add, Nat.reduceAdd, e1]
          refine op_loud (by rfl) (by rfl) ?_
          intro KP hKP
          replace hKP := Lib.hid hKP
          replace hPt := Lib.hid hPt
          go_wp2_with fail
          refine hKP.out _ _ ⟨_, rfl, SrcP.mk y.btw hS hPt.out, trivial, rfl, (fun h => absurd h (by decide))⟩
        case op3 =>
          rintro xv _ ⟨y, rfl, hS, hPt⟩ hd
          (try simp only [List.mem_toArray, List.forall_mem_cons, List.not_mem_nil, false_imp_iff, implies_true, and_true, Region.binds, forall_const] at hd)
          have hg1 : g < y.w.heap.size := hS.lt
          have hys := y.btw.size
          have e1 := hd
          simp only [putAll, Act.put, List.setIfInBounds_toArray, List.set_cons_zero, List.set_cons_succ, Nat.zero_add, Nat.reduceAdd, e1]
          refine op_loud (by rfl) (by rfl) ?_
          intro KP hKP
          replace hKP := Lib.hid hKP
          replace hPt := Lib.hid hPt
          go_wp2_with fail
          refine hKP.out _ _ ⟨_, rfl, SrcP.mk y.btw hS hPt.out, trivial, rfl, (fun h => absurd h (by decide))⟩
        case op4 =>
          rintro xv _ ⟨y, rfl, hS, hPt⟩ hd
          (try simp only [List.mem_toArray, List.forall_mem_cons, List.not_mem_nil, false_imp_iff, implies_true, and_true, Region.binds, forall_const] at hd)
          have hg1 : g < y.w.heap.size := hS.lt
          have hys := y.btw.size
          simp only [putAll, Act.put, List.setIfInBounds_toArray, List.set_cons_zero, List.set_cons_succ, Nat.zero_add, Nat.reduceAdd]
          refine op_loud (by rfl) (by rfl) ?_
          intro KP hKP
          replace hKP := Lib.hid hKP
          replace hPt := Lib.hid hPt
          go_wp2_with fail
          refine hKP.out _ _ ⟨_, rfl, SrcP.mk y.btw hS hPt.out, trivial, rfl, (fun h => absurd h (by decide))⟩
        case op5 =>
          rintro xv _ ⟨y, rfl, hS, hPt⟩ hd
          (try simp only [List.mem_toArray, List.forall_mem_cons, List.not_mem_nil, false_imp_iff, implies_true, and_true, Region.binds, forall_const] at hd)
          have hg1 : g < y.w.heap.size := hS.lt
          have hys := y.btw.size
          have e1 := hd
          simp only [putAll, Act.put, List.setIfInBounds_toArray, List.set_cons_zero, List.set_cons_succ, Nat.zero_add, Nat.reduceAdd, e1]
          refine op_loud (by rfl) (by rfl) ?_
          intro KP hKP
          replace hKP := Lib.hid hKP
          replace hPt := Lib.hid hPt
          go_wp2_with (go_at_call 79; (with_reducible refine (next_any g 5 _ hS).mono ?_); rintro e w' ⟨r, ⟨r0, r1⟩, rfl, z, rfl, hsrc⟩)
          refine hKP.out _ _ ⟨_, rfl, SrcP.mk (y.btw.trans z.btw) hsrc (hPt.out.after z (by omega)), trivial, ⟨r, rfl, r0, by omega⟩, (fun h => absurd h (by decide))⟩
        case op6 =>
          rintro xv _ ⟨y, rfl, hS, hPt⟩ hd
          (try simp only [List.mem_toArray, List.forall_mem_cons, List.not_mem_nil, false_imp_iff, implies_true, and_true, Region.binds, forall_const] at hd)
          have hg1 : g < y.w.heap.size := hS.lt
          have hys := y.btw.size
          obtain ⟨e1, ⟨r, e2, r0, r1⟩⟩ := hd
          simp only [putAll, Act.put, List.setIfInBounds_toArray, List.set_cons_zero, List.set_cons_succ, Nat.zero_add, Nat.reduceAdd, e1, e2]
          refine op_loud (by rfl) (by rfl) ?_
          intro KP hKP
          replace hKP := Lib.hid hKP
          replace hPt := Lib.hid hPt
          go_wp2_with fail
          refine hKP.out _ _ ⟨_, rfl, SrcP.mk y.btw hS hPt.out, trivial, ⟨X + r, rfl, by omega, by omega⟩, (fun h => absurd h (by decide))⟩
        case op7 =>
          rintro xv _ ⟨y, rfl, hS, hPt⟩ hd
          (try simp only [List.mem_toArray, List.forall_mem_cons, List.not_mem_nil, false_imp_iff, implies_true, and_true, Region.binds, forall_const] at hd)
          have hg1 : g < y.w.heap.size := hS.lt
          have hys := y.btw.size
          obtain ⟨r, e1, r0, r1⟩ := hd
          simp only [putAll, Act.put, List.setIfInBounds_toArray, List.set_cons_zero, List.set_cons_succ, Nat.zero_add, Nat.reduceAdd, e1]
          refine op_loud (by rfl) (by rfl) ?_
          intro KP hKP
          replace hKP := Lib.hid hKP
          replace hPt := Lib.hid hPt
          go_wp2_with fail
          refine hKP.out _ _ ⟨_, rfl, SrcP.mk y.btw hS hPt.out, trivial, ⟨r - 2, rfl, by omega, by omega⟩, (fun h => absurd h (by decide))⟩
        case op8 =>
          rintro xv _ ⟨y, rfl, hS, hPt⟩ hd
          (try simp only [List.mem_toArray, List.forall_mem_cons, List.not_mem_nil, false_imp_iff, implies_true, and_true, Region.binds, forall_const] at hd)
          have hg1 : g < y.w.heap.size := hS.lt
          have hys := y.btw.size
          simp only [putAll, Act.put, List.setIfInBounds_toArray, List.set_cons_zero, List.set_cons_succ, Nat.zero_add, Nat.reduceAdd]
          refine op_loud (by rfl) (by rfl) ?_
          intro KP hKP
          replace hKP := Lib.hid hKP
          replace hPt := Lib.hid hPt
          go_wp2_with fail
          refine hKP.out _ _ ⟨_, rfl, SrcP.mk y.btw hS hPt.out, trivial, rfl, (fun h => absurd h (by decide))⟩
        case op9 =>
          rintro xv _ ⟨y, rfl, hS, hPt⟩ hd
          (try simp only [List.mem_toArray, List.forall_mem_cons, List.not_mem_nil, false_imp_iff, implies_true, and_true, Region.binds, forall_const] at hd)
          have hg1 : g < y.w.heap.size := hS.lt
          have hys := y.btw.size
          have e1 := hd
          simp only [putAll, Act.put, List.setIfInBounds_toArray, List.set_cons_zero, List.set_cons_succ, Nat.zero_add, Nat.reduceAdd, e1]
          refine op_loud (by rfl) (by rfl) ?_
          intro KP hKP
          replace hKP := Lib.hid hKP
          replace hPt := Lib.hid hPt
          go_wp2_with fail
          refine hKP.out _ _ ⟨_, rfl, SrcP.mk y.btw hS hPt.out, trivial, rfl, (fun h => absurd h (by decide))⟩
        case op10 =>
          rintro xv _ ⟨y, rfl, hS, hPt⟩ hd
          (try simp only [List.mem_toArray, List.forall_mem_cons, List.not_mem_nil, false_imp_iff, implies_true, and_true, Region.binds, forall_const] at hd)
          have hg1 : g < y.w.heap.size := hS.lt
          have hys := y.btw.size
          have e1 := hd
          simp only [putAll, Act.put, List.setIfInBounds_toArray, List.set_cons_zero, List.set_cons_succ, Nat.zero_add, Nat.reduceAdd, e1]
          refine op_loud (by rfl) (by rfl) ?_
          intro KP hKP
          replace hKP := Lib.hid hKP
          replace hPt := Lib.hid hPt
          go_wp2_with fail
          refine hKP.out _ _ ⟨_, rfl, SrcP.mk y.btw hS hPt.out, trivial, rfl, (fun h => absurd h (by decide))⟩
        case op11 =>
          rintro xv _ ⟨y, rfl, hS, hPt⟩ hd
          (try simp only [List.mem_toArray, List.forall_mem_cons, List.not_mem_nil, false_imp_iff, implies_true, and_true, Region.binds, forall_const] at hd)
          have hg1 : g < y.w.heap.size := hS.lt
          have hys := y.btw.size
          have e1 := hd
          simp only [putAll, Act.put, List.setIfInBounds_toArray, List.set_cons_zero, List.set_cons_succ, Nat.zero_add, Nat.reduceAdd, e1]
          refine op_loud (by rfl) (by rfl) ?_
          intro KP hKP
          replace hKP := Lib.hid hKP
          replace hPt := Lib.hid hPt
          go_wp2_with fail
          refine hKP.out _ _ ⟨_, rfl, SrcP.mk y.btw hS hPt.out, trivial, rfl, (fun h => absurd h (by decide))⟩
        case op12 =>
          rintro xv _ ⟨y, rfl, hS, hPt⟩ hd
          (try simp only [List.mem_toArray, List.forall_mem_cons, List.not_mem_nil, false_imp_iff, implies_true, and_true, Region.binds, forall_const] at hd)
          have hg1 : g < y.w.heap.size := hS.lt
          have hys := y.btw.size
          simp only [putAll, Act.put, List.setIfInBounds_toArray, List.set_cons_zero, List.set_cons_succ, Nat.zero_add, Nat.reduceAdd]
          refine op_loud (by rfl) (by rfl) ?_
          intro KP hKP
          replace hKP := Lib.hid hKP
          replace hPt := Lib.hid hPt
          go_wp2_with fail
          refine hKP.out _ _ ⟨_, rfl, SrcP.mk y.btw hS hPt.out, trivial, rfl, (fun h => absurd h (by decide))⟩
        case op13 =>
          rintro xv _ ⟨y, rfl, hS, hPt⟩ hd
          (try simp only [List.mem_toArray, List.forall_mem_cons, List.not_mem_nil, false_imp_iff, implies_true, and_true, Region.binds, forall_const] at hd)
          have hg1 : g < y.w.heap.size := hS.lt
          have hys := y.btw.size
          have e1 := hd
          simp only [putAll, Act.put, List.setIfInBounds_toArray, List.set_cons_zero, List.set_cons_succ, Nat.zero_add, Nat.reduceAdd, e1]
          refine op_loud (by rfl) (by rfl) ?_
          intro KP hKP
          replace hKP := Lib.hid hKP
          replace hPt := Lib.hid hPt
          go_wp2_with (go_at_call 79; (with_reducible refine (next_any g 5 _ hS).mono ?_); rintro e w' ⟨r, ⟨r0, r1⟩, rfl, z, rfl, hsrc⟩)
          refine hKP.out _ _ ⟨_, rfl, SrcP.mk (y.btw.trans z.btw) hsrc (hPt.out.after z (by omega)), trivial, ⟨r, rfl, r0, by omega⟩, (fun h => absurd h (by decide))⟩
        case op14 =>
          rintro xv _ ⟨y, rfl, hS, hPt⟩ hd
          (try simp only [List.mem_toArray, List.forall_mem_cons, List.not_mem_nil, false_imp_iff, implies_true, and_true, Region.binds, forall_const] at hd)
          have hg1 : g < y.w.heap.size := hS.lt
          have hys := y.btw.size
          obtain ⟨e1, ⟨r, e2, r0, r1⟩⟩ := hd
          simp only [putAll, Act.put, List.setIfInBounds_toArray, List.set_cons_zero, List.set_cons_succ, Nat.zero_add, Nat.reduceAdd, e1, e2]
          refine op_loud (by rfl) (by rfl) ?_
          intro KP hKP
          replace hKP := Lib.hid hKP
          replace hPt := Lib.hid hPt
          go_wp2_with fail
          refine hKP.out _ _ ⟨_, rfl, SrcP.mk y.btw hS hPt.out, trivial, ⟨Y + r, rfl, by omega, by omega⟩, (fun h => absurd h (by decide))⟩
        case op15 =>
          rintro xv _ ⟨y, rfl, hS, hPt⟩ hd
          (try simp only [List.mem_toArray, List.forall_mem_cons, List.not_mem_nil, false_imp_iff, implies_true, and_true, Region.binds, forall_const] at hd)
          have hg1 : g < y.w.heap.size := hS.lt
          have hys := y.btw.size
          obtain ⟨r, e1, r0, r1⟩ := hd
          simp only [putAll, Act.put, List.setIfInBounds_toArray, List.set_cons_zero, List.set_cons_succ, Nat.zero_add, Nat.reduceAdd, e1]
          refine op_loud (by rfl) (by rfl) ?_
          intro KP hKP
          replace hKP := Lib.hid hKP
          replace hPt := Lib.hid hPt
          go_wp2_with fail
          refine hKP.out _ _ ⟨_, rfl, SrcP.mk y.btw hS hPt.out, trivial, ⟨r - 2, rfl, by omega, by omega⟩, (fun h => absurd h (by decide))⟩
        case op16 =>
          rintro xv _ ⟨y, rfl, hS, hPt⟩ hd
          (try simp only [List.mem_toArray, List.forall_mem_cons, List.not_mem_nil, false_imp_iff, implies_true, and_true, Region.binds, forall_const] at hd)
          have hg1 : g < y.w.heap.size := hS.lt
          have hys := y.btw.size
          obtain ⟨⟨x, e1, x0, x1⟩, ⟨y8, e2, y0, y1⟩⟩ := hd
          simp only [putAll, Act.put, List.setIfInBounds_toArray, List.set_cons_zero, List.set_cons_succ, Nat.zero_add, Nat.reduceAdd, e1, e2]
          refine op_loud (by rfl) (by rfl) ?_
          intro KP hKP
          replace hKP := Lib.hid hKP
          replace hPt := Lib.hid hPt
          go_wp2_with fail
          refine hKP.out _ _ ⟨_, rfl, SrcP.mk y.btw hS hPt.out, trivial, ⟨x, y8, rfl⟩, (fun h => absurd h (by decide))⟩
        case op17 =>
          rintro xv _ ⟨y, rfl, hS, hPt⟩ hd
          (try simp only [List.mem_toArray, List.forall_mem_cons, List.not_mem_nil, false_imp_iff, implies_true, and_true, Region.binds, forall_const] at hd)
          have hg1 : g < y.w.heap.size := hS.lt
          have hys := y.btw.size
          obtain ⟨⟨x, y8, e1⟩, -⟩ := hd
          obtain ⟨x9, y9, t1, t2, t3, t4, t5⟩ := hPt
          simp only [putAll, Act.put, List.setIfInBounds_toArray, List.set_cons_zero, List.set_cons_succ, Nat.zero_add, Nat.reduceAdd, e1]
          refine op_loud (by rfl) (by rfl) ?_
          intro KP hKP
          replace hKP := Lib.hid hKP
          go_wp2_with fail
          refine hKP.out _ _ ⟨undef, rfl, SrcP.mk (btw_own (btw_own y.btw (by dsimp only; omega) _) (by dsimp only; omega) _) (by (repeat (first | (with_reducible exact hS) | (with_reducible refine SrcOk.alloc ?_ _) | (with_reducible refine SrcOk.set ?_ ?_ _) | (with_reducible refine SrcOk.drewN ?_ _) | (with_reducible refine SrcOk.drew ?_) | (with_reducible refine SrcOk.later _ ?_) | (with_reducible refine SrcOk.after _ ?_ ?_) | (dsimp only; omega) | omega | ((try simp only [World.size_alloc, World.size_setCell, World.size_drew]); omega)))) (PtAt.put ⟨x9, y9, t1, t2, t3, t4, t5⟩ x y8), trivial, trivial, (fun h => absurd h (by decide))⟩
        case hend =>
          rintro xv _ ⟨y, rfl, hS, hPt⟩ hall -
          clear hall
          replace hPt := Lib.hid hPt
          simp only [putAll, Act.put, List.setIfInBounds_toArray, List.set_cons_zero, List.set_cons_succ]
          go_wp2_with fail
          go_meet
          exact ⟨hPt.out, y.btw, hS⟩
    · obtain rfl : n1 = 0 := by omega
      go_wp2_with fail
      go_meet
      exact ⟨hP0.out, (Between.refl _ _ _).later ((Below.refl _ _).alloc (Nat.le_refl _) _), by (repeat (first | (with_reducible exact H2.out) | (with_reducible refine SrcOk.alloc ?_ _) | (with_reducible refine SrcOk.set ?_ ?_ _) | (with_reducible refine SrcOk.drewN ?_ _) | (with_reducible refine SrcOk.drew ?_) | (with_reducible refine SrcOk.later _ ?_) | (with_reducible refine SrcOk.after _ ?_ ?_) | (dsimp only; omega) | omega | ((try simp only [World.size_alloc, World.size_setCell, World.size_drew]); omega)))⟩
  case rest =>
    obtain ⟨hPt, hbc, hS⟩ := hcut
    obtain ⟨q, rfl⟩ := AfterC.mk hbc
    have hqs := q.btw.size
    obtain ⟨x9, y9, t1, t2, t3, t4, t5⟩ := hPt
    have hG2 := hG.out.keep (z2.btw.trans q.btw) hg1'
    have hV2 := hV.out.keep (z2.btw.trans q.btw) hg1'
    replace hG2 := Lib.hid hG2
    replace hV2 := Lib.hid hV2
    have hwg : w.heap.size < g := by omega
    have hwz2 : w.heap.size < z2.w.heap.size := by omega
    have hwq : w.heap.size < q.w.heap.size := by omega
    have hB0 : PtAt q.w w.heap.size := (((PtAt.later y (PtAt.made w 0 0)).after z1 (.inl hwg)).after z2 (.inl hwg)).after q (.inl hwg)
    obtain ⟨x0, y0, s1, s2, s3, s4, s5⟩ := hB0
    go_wp2_with fail
    refine wp_region_plan [(0, true), (1, true), (2, true), (3, true), (4, true), (5, false)] (C := AfterC w.heap.size (w.heap.size + 1) _) (by kernel_rfl) (by kernel_rfl) (by kernel_rfl) rfl (fun _ _ d _ _ h => by cases d <;> exact h) (AfterC.mk ((Between.refl _ _ _).drew)) ?_
    first | (refine plan_quiet nth0 rfl ?_; intro KP hKP; go_big_quiet_op; go_big_quiet_on) | (refine plan_skip_q nth0 rfl rfl ?_; simp only [Act.put, List.setIfInBounds_toArray, List.set_cons_zero, List.set_cons_succ])
    first | (refine plan_quiet nth1 rfl ?_; intro KP hKP; go_big_quiet_op; go_big_quiet_on) | (refine plan_skip_q nth1 rfl rfl ?_; simp only [Act.put, List.setIfInBounds_toArray, List.set_cons_zero, List.set_cons_succ])
    first | (refine plan_quiet nth2 rfl ?_; intro KP hKP; go_big_quiet_op; go_big_quiet_on) | (refine plan_skip_q nth2 rfl rfl ?_; simp only [Act.put, List.setIfInBounds_toArray, List.set_cons_zero, List.set_cons_succ])
    first | (refine plan_quiet nth3 rfl ?_; intro KP hKP; go_big_quiet_op; go_big_quiet_on) | (refine plan_skip_q nth3 rfl rfl ?_; simp only [Act.put, List.setIfInBounds_toArray, List.set_cons_zero, List.set_cons_succ])
    first | (refine plan_quiet nth4 rfl ?_; intro KP hKP; go_big_quiet_op; go_big_quiet_on) | (refine plan_skip_q nth4 rfl rfl ?_; simp only [Act.put, List.setIfInBounds_toArray, List.set_cons_zero, List.set_cons_succ])
    first | (refine plan_loud nth5 rfl ?_; intro KP hKP; go_wp2_with fail; refine hKP _ _ (AfterC.mk (by (repeat (first | (with_reducible exact Between.refl _ _ _) | (with_reducible refine Between.drew ?_) | (with_reducible refine Between.drewN ?_ _) | (with_reducible refine Between.set ?_ ?_ ?_ _) | (with_reducible refine btw_later _ ?_) | (with_reducible refine btw_alloc ?_ _) | (with_reducible refine btw_after _ ?_) | (with_reducible assumption) | (dsimp only; omega) | omega)))) ?_; clear hKP KP) | (refine plan_skip nth5 rfl rfl (AfterC.mk (by (repeat (first | (with_reducible exact Between.refl _ _ _) | (with_reducible refine Between.drew ?_) | (with_reducible refine Between.drewN ?_ _) | (with_reducible refine Between.set ?_ ?_ ?_ _) | (with_reducible refine btw_later _ ?_) | (with_reducible refine btw_alloc ?_ _) | (with_reducible refine btw_after _ ?_) | (with_reducible assumption) | (dsimp only; omega) | omega)))) ?_; simp only [Act.put, List.setIfInBounds_toArray, List.set_cons_zero, List.set_cons_succ])
    refine plan_nil ?_
    go_wp2_with fail
    refine bodyPost_ret (by simp [results, Tryz.results48, go_sem, ↓IntWalk.iteOmega, *]; try rfl) rfl ?_
    have hBW := Between.set (Between.set (Between.refl w.heap.size (w.heap.size + 1) q.w) (p := ⟨w.heap.size, 0, none⟩) (Nat.le_refl _) (Nat.lt_succ_self _) (.int .i64 x9)) (p := ⟨w.heap.size, 1, none⟩) (Nat.le_refl _) (Nat.lt_succ_self _) (.int .i64 y9)
    have hbq : Below w.heap.size w q.w := q.out (z2.out (z1.out bb (by omega)) (by omega)) (by omega)
    have hbw : Below w.heap.size w ((q.w.setCell ⟨w.heap.size, 0, none⟩ (.int .i64 x9)).setCell ⟨w.heap.size, 1, none⟩ (.int .i64 y9)).drew := hbq.trans ((hBW.drew).below_of (Nat.le_refl _) hbq.size)
    exact ⟨R, a1, n1, c1, T, b1, m1, d1, ⟨x9, y9⟩, rfl, VwF.of hn7 hm5 (hG2.out.keep hBW.drew (by omega)) (hV2.out.keep hBW.drew (by omega)), ⟨_, hbw⟩, rfl⟩
end
end Go.Proofs.YtklcaphkfdlipaaGreatDoor

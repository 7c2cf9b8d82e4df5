import Derived.Test.YtfjlilpebhiogaaGreatDoorDrawM
import Derived.Test.YtfjlilpebhiogaaGreatDoorDrawR
import Derived.Test.YtfjlilpebhiogaaGreatDoorMTextI
/- What the law on the texts of masks draws. -/
set_option linter.unusedSimpArgs false
set_option linter.unusedVariables false
namespace Go.Proofs.YtfjlilpebhiogaaGreatDoor
open Go.RowKit
/-- One mask. -/
def RetMskT (w : World) (e : Ending) (w' : World) : Prop :=
  ∃ (x y W H : Int) (a : Option Addr) (n c : Nat) (l : List Bool), l.length = n ∧ n ≤ 1048576 ∧ e = .returned (.agg #[.int .i64 x, .int .i64 y, .int .i64 W, .int .i64 H, .slice a n c]) ∧ ∃ z : Later w, w' = z.w ∧ Owns z.w w.heap.size z.w.heap.size 4 1 n a c (boolCells l)
theorem RetMskT.mk {w w' : World} {e : Ending} {x y W H : Int} {a : Option Addr} {n c : Nat} {l : List Bool} (hl : l.length = n) (hn : n ≤ 1048576)
    (he : e = .returned (.agg #[.int .i64 x, .int .i64 y, .int .i64 W, .int .i64 H, .slice a n c])) (hb : Below w.heap.size w w') (hr : Owns w' w.heap.size w'.heap.size 4 1 n a c (boolCells l)) : RetMskT w e w' := ⟨x, y, W, H, a, n, c, l, hl, hn, he, ⟨w', hb⟩, rfl, hr⟩
def RetTxM (w : World) (e : Ending) (w' : World) : Prop := ∃ s : ByteArray, s.size ≤ 20000 ∧ e = .returned (.string s) ∧ ∃ z : Later w, w' = z.w
theorem RetTxM.mk {w w' : World} {e : Ending} {s : ByteArray} (hs : s.size ≤ 20000) (he : e = .returned (.string s)) (hb : Below w.heap.size w w') : RetTxM w e w' := ⟨s, hs, he, ⟨w', hb⟩, rfl⟩
theorem good_mask {x y W H : Int} {n : Nat} (h : goodK x y W H n) : ∃ Wn Hn : Nat, W = Wn ∧ H = Hn ∧ Wn ≤ 24 ∧ Hn ≤ 9 ∧ isMaskB x y Wn Hn n = true := by
  obtain ⟨h1, h2, h3, h4, h5, h6, h7, h8, h9, h10, h11⟩ := h
  refine ⟨W.toNat, H.toNat, by omega, by omega, by omega, by omega, ?_⟩
  rw [show ((W.toNat : Nat) : Int) = W by omega, show ((H.toNat : Nat) : Int) = H by omega]
  unfold isMaskB isPointB
  simp only [Bool.and_eq_true, inB_iff, beq_iff_eq]
  omega
section
variable (a : Option Addr) (n c : Nat) (bs : List Int) (w : World) (hr : Row w a (byteCells bs)) (hl : bs.length = n) (hn : n ≤ 4096) (hx : ∀ x ∈ bs, 0 ≤ x ∧ x ≤ 255)
include hr hl hn hx
set_option maxHeartbeats 2000000 in
theorem drawMaskText_any : Calls Tryz.prog 13 #[.slice a n c] w (RetMskT w) := by
  replace hr := Lib.hid hr
  replace hl := Lib.hid hl
  replace hx := Lib.hid hx
  go_enter Tryz.func13, Tryz.ntmps13
  go_wp2_with fail
  with_reducible refine (from_any a n c bs _ (hr.out.bel (by (repeat (first | (with_reducible exact Below.refl _ _) | (with_reducible assumption) | (with_reducible refine Later.out _ ?_) | (with_reducible refine bel_alloc ?_ _) | (with_reducible refine bel_drew ?_) | (with_reducible refine bel_drewN ?_ _) | (with_reducible refine bel_set ?_ ?_ _) | (with_reducible refine After.out _ ?_ ?_) | (dsimp only; omega) | omega | (simp only [World.size_alloc, World.size_setCell, World.size_drew]; omega))))) hl.out hn hx.out).mono ?_
  rintro e w' ⟨g, hg, rfl, y, rfl, hsrc⟩
  have hsy := y.bel.size
  (try simp only [World.size_alloc, World.size_setCell, World.size_drew] at hg hsy)
  have H0 := Lib.hid hsrc
  clear hsrc
  go_wp2_with fail
  with_reducible refine (sDraw_any g _ (by (repeat (first | (with_reducible exact H0.out) | (with_reducible refine SrcOk.alloc ?_ _) | (with_reducible refine SrcOk.set ?_ ?_ _) | (with_reducible refine SrcOk.drewN ?_ _) | (with_reducible refine SrcOk.drew ?_) | (with_reducible refine SrcOk.later _ ?_) | (with_reducible refine SrcOk.after _ ?_ ?_) | (dsimp only; omega) | omega | ((try simp only [World.size_alloc, World.size_setCell, World.size_drew]); omega))))).mono ?_
  rintro e w' ⟨x, y', W, H, a2, n2, c2, l2, ⟨k1, k2, k3, k4, k5, k6, k7, k8, k9⟩, hl2, rfl, z1, rfl, hsrc, ho⟩
  have hs1 := z1.btw.size
  have HO := Lib.hid ho
  clear ho
  have u1 : w.heap.size < y.w.heap.size := (by omega)
  have u2 : w.heap.size < z1.w.heap.size := (by omega)
  go_wp2_with fail
  refine bodyPost_ret (by simp [results, Tryz.results13, go_sem, ↓IntWalk.iteOmega, *]; try rfl) rfl ?_
  have hb : Below w.heap.size w z1.w := z1.out (by (repeat (first | (with_reducible exact Below.refl _ _) | (with_reducible assumption) | (with_reducible refine Later.out _ ?_) | (with_reducible refine bel_alloc ?_ _) | (with_reducible refine bel_drew ?_) | (with_reducible refine bel_drewN ?_ _) | (with_reducible refine bel_set ?_ ?_ _) | (with_reducible refine After.out _ ?_ ?_) | (dsimp only; omega) | omega | (simp only [World.size_alloc, World.size_setCell, World.size_drew]; omega)))) (by omega)
  refine RetMskT.mk hl2 (by omega) rfl ?_ ?_
  · (repeat (first | (with_reducible exact Below.refl _ _) | (with_reducible assumption) | (with_reducible refine Later.out _ ?_) | (with_reducible refine bel_alloc ?_ _) | (with_reducible refine bel_drew ?_) | (with_reducible refine bel_drewN ?_ _) | (with_reducible refine bel_set ?_ ?_ _) | (with_reducible refine After.out _ ?_ ?_) | (dsimp only; omega) | omega | (simp only [World.size_alloc, World.size_setCell, World.size_drew]; omega)))
  · refine owns_wide (lo := y.w.heap.size) (hi := z1.w.heap.size) ?_ (by omega) (by (try simp only [World.size_alloc, World.size_setCell, World.size_drew]); omega)
    (repeat (first | (with_reducible exact HO.out) | (with_reducible refine owns_after _ ?_ ?_) | (with_reducible refine owns_later _ ?_ ?_) | (with_reducible refine owns_alloc ?_ _) | (with_reducible refine owns_set ?_ ?_ _) | (with_reducible refine Owns.drewN ?_ _) | (with_reducible refine owns_drew ?_) | (dsimp only; omega) | omega | ((try simp only [World.size_alloc, World.size_setCell, World.size_drew]); omega)))
set_option maxRecDepth 4000 in
set_option maxHeartbeats 4000000 in
theorem drawReadMask_any : Calls Tryz.prog 16 #[.slice a n c] w (RetTxM w) := by
  replace hr := Lib.hid hr
  replace hl := Lib.hid hl
  replace hx := Lib.hid hx
  go_enter Tryz.func16, Tryz.ntmps16
  go_wp2_with fail
  with_reducible refine (from_any a n c bs _ (hr.out.bel (by (repeat (first | (with_reducible exact Below.refl _ _) | (with_reducible assumption) | (with_reducible refine Later.out _ ?_) | (with_reducible refine bel_alloc ?_ _) | (with_reducible refine bel_drew ?_) | (with_reducible refine bel_drewN ?_ _) | (with_reducible refine bel_set ?_ ?_ _) | (with_reducible refine After.out _ ?_ ?_) | (dsimp only; omega) | omega | (simp only [World.size_alloc, World.size_setCell, World.size_drew]; omega))))) hl.out hn hx.out).mono ?_
  rintro e w' ⟨g, hg, rfl, y, rfl, hsrc⟩
  have hsy := y.bel.size
  (try simp only [World.size_alloc, World.size_setCell, World.size_drew] at hg hsy)
  have H0 := Lib.hid hsrc
  have hgy := hsrc.lt
  clear hsrc
  go_wp2_with fail
  with_reducible refine (sGood_any g _ (by (repeat (first | (with_reducible exact H0.out) | (with_reducible refine SrcOk.alloc ?_ _) | (with_reducible refine SrcOk.set ?_ ?_ _) | (with_reducible refine SrcOk.drewN ?_ _) | (with_reducible refine SrcOk.drew ?_) | (with_reducible refine SrcOk.later _ ?_) | (with_reducible refine SrcOk.after _ ?_ ?_) | (dsimp only; omega) | omega | ((try simp only [World.size_alloc, World.size_setCell, World.size_drew]); omega))))).mono ?_
  rintro e w' ⟨x, y', W, H, a2, n2, c2, l2, hgd, hl2, rfl, z1, rfl, hsrc, ho⟩
  have hs1 := z1.btw.size
  have H1 := Lib.hid hsrc
  obtain ⟨Wn, Hn, rfl, rfl, hW, hH, hM⟩ := good_mask hgd
  obtain ⟨d1, d2, d3, d4, d5, d6⟩ := mask_dims hM
  obtain ⟨x1, x2, y1, y2⟩ := isPointB_iff.1 d6
  have h0 : 0 < n2 := by rw [d5]; exact Nat.mul_pos (by omega) (by omega)
  obtain ⟨b, rfl, g1, g2, -, -⟩ := ho.at_ (j := 0) (by omega)
  have hrow := Lib.hid ho.row
  have ht := maskTo_size x y' Wn Hn l2 ⟨x1, x2⟩ ⟨y1, y2⟩ Hn d2
  have ht2 : (maskT x y' Wn Hn l2).size ≤ 5000 := by show (maskTo x y' Wn Hn l2 Hn).size ≤ 5000; omega
  have CT := Lib.hid (fun w hr => sMaskText_any x y' Wn Hn l2 b 0 n2 c2 w hl2 hM hr)
  obtain ⟨T, hT⟩ : ∃ T, maskT x y' Wn Hn l2 = T := ⟨_, rfl⟩
  rw [hT] at ht2 CT
  clear hT ht hM d5 d6 hgd hsrc ho hl2
  go_wp2_with fail
  with_reducible refine (CT.out _ (hrow.out.bel (by (repeat (first | (with_reducible exact Below.refl _ _) | (with_reducible assumption) | (with_reducible refine Later.out _ ?_) | (with_reducible refine bel_alloc ?_ _) | (with_reducible refine bel_drew ?_) | (with_reducible refine bel_drewN ?_ _) | (with_reducible refine bel_set ?_ ?_ _) | (with_reducible refine After.out _ ?_ ?_) | (dsimp only; omega) | omega | (simp only [World.size_alloc, World.size_setCell, World.size_drew]; omega)))))).mono ?_
  rintro e w' ⟨rfl, y2, rfl⟩
  have hsy2 := y2.bel.size
  (try simp only [World.size_alloc, World.size_setCell, World.size_drew] at hsy2)
  go_wp2_with fail
  with_reducible refine (next_any g 3 _ (by (repeat (first | (with_reducible exact H1.out) | (with_reducible refine SrcOk.alloc ?_ _) | (with_reducible refine SrcOk.set ?_ ?_ _) | (with_reducible refine SrcOk.drewN ?_ _) | (with_reducible refine SrcOk.drew ?_) | (with_reducible refine SrcOk.later _ ?_) | (with_reducible refine SrcOk.after _ ?_ ?_) | (dsimp only; omega) | omega | ((try simp only [World.size_alloc, World.size_setCell, World.size_drew]); omega))))).mono ?_
  rintro e w' ⟨q, hdraw, rfl, z3, rfl, hsrc⟩
  have hsz3 := z3.btw.size
  (try simp only [World.size_alloc, World.size_setCell, World.size_drew] at hsz3)
  have H3 := Lib.hid hsrc
  clear hsrc
  obtain ⟨q0, q1⟩ := hdraw
  by_cases hq : q = 0
  · subst hq
    go_wp2_with fail
    with_reducible refine (damage_any g T _ (by (repeat (first | (with_reducible exact H3.out) | (with_reducible refine SrcOk.alloc ?_ _) | (with_reducible refine SrcOk.set ?_ ?_ _) | (with_reducible refine SrcOk.drewN ?_ _) | (with_reducible refine SrcOk.drew ?_) | (with_reducible refine SrcOk.later _ ?_) | (with_reducible refine SrcOk.after _ ?_ ?_) | (dsimp only; omega) | omega | ((try simp only [World.size_alloc, World.size_setCell, World.size_drew]); omega)))) (by omega)).mono ?_
    rintro e w' ⟨s, hs, rfl, z4, rfl, hsrc⟩
    have hs4 := z4.btw.size
    clear hsrc
    go_wp2_with fail
    go_ret
    exact RetTxM.mk hs rfl (by (repeat (first | (with_reducible exact Below.refl _ _) | (with_reducible assumption) | (with_reducible refine Later.out _ ?_) | (with_reducible refine bel_alloc ?_ _) | (with_reducible refine bel_drew ?_) | (with_reducible refine bel_drewN ?_ _) | (with_reducible refine bel_set ?_ ?_ _) | (with_reducible refine After.out _ ?_ ?_) | (dsimp only; omega) | omega | (simp only [World.size_alloc, World.size_setCell, World.size_drew]; omega))))
  · go_wp2_with fail
    go_ret
    exact RetTxM.mk (by omega) rfl (by (repeat (first | (with_reducible exact Below.refl _ _) | (with_reducible assumption) | (with_reducible refine Later.out _ ?_) | (with_reducible refine bel_alloc ?_ _) | (with_reducible refine bel_drew ?_) | (with_reducible refine bel_drewN ?_ _) | (with_reducible refine bel_set ?_ ?_ _) | (with_reducible refine After.out _ ?_ ?_) | (dsimp only; omega) | omega | (simp only [World.size_alloc, World.size_setCell, World.size_drew]; omega))))
end
end Go.Proofs.YtfjlilpebhiogaaGreatDoor

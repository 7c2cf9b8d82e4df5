import Derived.Test.YtfjlilpebhiogaaGreatDoorDrawR
import Derived.Test.YtfjlilpebhiogaaGreatDoorDrawE
import Derived.Test.YtfjlilpebhiogaaGreatDoorDrawCG
/- What the law on the texts of claims draws. -/
set_option linter.unusedSimpArgs false
set_option linter.unusedVariables false
namespace Go.Proofs.YtfjlilpebhiogaaGreatDoor
open Go.RowKit
theorem clmT_size {c : Clm} (h : GdC c) : (clmT c).size ≤ 1000 := by
  obtain ⟨⟨a1, a2, a3, a4, a5⟩, ⟨b1, b2⟩, ⟨b3, b4⟩, b5, b6⟩ := h
  have s1 := decB_size c.kind (by omega) (by omega)
  have s2 := decB_size c.wt (by omega) (by omega)
  have s3 := dotB_size c.val
  have s4 := spanT_size c.fr c.to (by omega) (by omega)
  unfold clmT
  simp only [ByteArray.size_append]
  have e : (⟨#[47]⟩ : ByteArray).size = 1 := rfl
  omega
def RetTx (w : World) (e : Ending) (w' : World) : Prop := ∃ s : ByteArray, s.size ≤ 20000 ∧ e = .returned (.string s) ∧ ∃ z : Later w, w' = z.w
theorem RetTx.mk {w w' : World} {e : Ending} {s : ByteArray} (hs : s.size ≤ 20000) (he : e = .returned (.string s)) (hb : Below w.heap.size w w') : RetTx w e w' := ⟨s, hs, he, ⟨w', hb⟩, rfl⟩
def RetClm (w : World) (e : Ending) (w' : World) : Prop := ∃ c : Clm, OkC c ∧ e = .returned (clmV c) ∧ ∃ z : Later w, w' = z.w
theorem RetClm.mk {w w' : World} {e : Ending} {c : Clm} (hs : OkC c) (he : e = .returned (clmV c)) (hb : Below w.heap.size w w') : RetClm w e w' := ⟨c, hs, he, ⟨w', hb⟩, rfl⟩
section
variable (a : Option Addr) (n c : Nat) (bs : List Int) (w : World) (hr : Row w a (byteCells bs)) (hl : bs.length = n) (hn : n ≤ 4096) (hx : ∀ x ∈ bs, 0 ≤ x ∧ x ≤ 255)
include hr hl hn hx
set_option maxRecDepth 4000 in
set_option maxHeartbeats 4000000 in
theorem drawReadClaim_any : Calls Tryz.prog 9 #[.slice a n c] w (RetTx w) := by
  replace hr := Lib.hid hr
  replace hl := Lib.hid hl
  replace hx := Lib.hid hx
  go_enter Tryz.func9, Tryz.ntmps9
  go_wp2_with fail
  with_reducible refine (from_any a n c bs _ (hr.out.bel (by (repeat (first | (with_reducible exact Below.refl _ _) | (with_reducible assumption) | (with_reducible refine Later.out _ ?_) | (with_reducible refine bel_alloc ?_ _) | (with_reducible refine bel_drew ?_) | (with_reducible refine bel_drewN ?_ _) | (with_reducible refine bel_set ?_ ?_ _) | (with_reducible refine After.out _ ?_ ?_) | (dsimp only; omega) | omega | (simp only [World.size_alloc, World.size_setCell, World.size_drew]; omega))))) hl.out hn hx.out).mono ?_
  rintro e w' ⟨g, hg, rfl, y, rfl, hsrc⟩
  have hsy := y.bel.size
  (try simp only [World.size_alloc, World.size_setCell, World.size_drew] at hg hsy)
  have H0 := Lib.hid hsrc
  have hgy := hsrc.lt
  clear hsrc
  go_wp2_with fail
  with_reducible refine (sClmGood_anyG g _ (by (repeat (first | (with_reducible exact H0.out) | (with_reducible refine SrcOk.alloc ?_ _) | (with_reducible refine SrcOk.set ?_ ?_ _) | (with_reducible refine SrcOk.drewN ?_ _) | (with_reducible refine SrcOk.drew ?_) | (with_reducible refine SrcOk.later _ ?_) | (with_reducible refine SrcOk.after _ ?_ ?_) | (dsimp only; omega) | omega | ((try simp only [World.size_alloc, World.size_setCell, World.size_drew]); omega))))).mono ?_
  rintro e w' ⟨x, hgd, rfl, z1, rfl, hsrc⟩
  have hs1 := z1.btw.size
  have H1 := Lib.hid hsrc
  have ht := clmT_size hgd
  have CT := Lib.hid (fun w => sClaimText_any x w (okC_ok hgd.1) hgd.2.1 hgd.2.2.1 (by have := hgd.1.2.2.2; omega) (by have := hgd.2.2.2; omega))
  clear hsrc hgd
  obtain ⟨T, hT⟩ : ∃ T, clmT x = T := ⟨_, rfl⟩
  rw [hT] at ht CT
  clear hT
  go_wp2_with fail
  with_reducible refine (CT.out _).mono ?_
  rintro e w' ⟨rfl, y2, rfl⟩
  have hsy2 := y2.bel.size
  (try simp only [World.size_alloc, World.size_setCell, World.size_drew] at hsy2)
  go_wp2_with fail
  with_reducible refine (next_any g 3 _ (by (repeat (first | (with_reducible exact H1.out) | (with_reducible refine SrcOk.alloc ?_ _) | (with_reducible refine SrcOk.set ?_ ?_ _) | (with_reducible refine SrcOk.drewN ?_ _) | (with_reducible refine SrcOk.drew ?_) | (with_reducible refine SrcOk.later _ ?_) | (with_reducible refine SrcOk.after _ ?_ ?_) | (dsimp only; omega) | omega | ((try simp only [World.size_alloc, World.size_setCell, World.size_drew]); omega))))).mono ?_
  rintro e w' ⟨q, hdraw, rfl, z3, rfl, hsrc⟩
  have hsz3 := z3.btw.size
  (try simp only [World.size_alloc, World.size_setCell, World.size_drew] at hsz3)
  have H3 := Lib.hid hsrc
  clear hsrc
  obtain ⟨q0, q1⟩ := hdraw
  by_cases hq : q = 0
  · subst hq
    go_wp2_with fail
    with_reducible refine (damage_any g T _ (by (repeat (first | (with_reducible exact H3.out) | (with_reducible refine SrcOk.alloc ?_ _) | (with_reducible refine SrcOk.set ?_ ?_ _) | (with_reducible refine SrcOk.drewN ?_ _) | (with_reducible refine SrcOk.drew ?_) | (with_reducible refine SrcOk.later _ ?_) | (with_reducible refine SrcOk.after _ ?_ ?_) | (dsimp only; omega) | omega | ((try simp only [World.size_alloc, World.size_setCell, World.size_drew]); omega)))) (by omega)).mono ?_
    rintro e w' ⟨s, hs, rfl, z4, rfl, hsrc⟩
    have hs4 := z4.btw.size
    clear hsrc
    go_wp2_with fail
    go_ret
    exact RetTx.mk hs rfl (by (repeat (first | (with_reducible exact Below.refl _ _) | (with_reducible assumption) | (with_reducible refine Later.out _ ?_) | (with_reducible refine bel_alloc ?_ _) | (with_reducible refine bel_drew ?_) | (with_reducible refine bel_drewN ?_ _) | (with_reducible refine bel_set ?_ ?_ _) | (with_reducible refine After.out _ ?_ ?_) | (dsimp only; omega) | omega | (simp only [World.size_alloc, World.size_setCell, World.size_drew]; omega))))
  · go_wp2_with fail
    go_ret
    exact RetTx.mk (by omega) rfl (by (repeat (first | (with_reducible exact Below.refl _ _) | (with_reducible assumption) | (with_reducible refine Later.out _ ?_) | (with_reducible refine bel_alloc ?_ _) | (with_reducible refine bel_drew ?_) | (with_reducible refine bel_drewN ?_ _) | (with_reducible refine bel_set ?_ ?_ _) | (with_reducible refine After.out _ ?_ ?_) | (dsimp only; omega) | omega | (simp only [World.size_alloc, World.size_setCell, World.size_drew]; omega))))
set_option maxRecDepth 4000 in
set_option maxHeartbeats 4000000 in
theorem drawClaimText_any : Calls Tryz.prog 6 #[.slice a n c] w (RetClm w) := by
  replace hr := Lib.hid hr
  replace hl := Lib.hid hl
  replace hx := Lib.hid hx
  go_enter Tryz.func6, Tryz.ntmps6
  go_wp2_with fail
  with_reducible refine (from_any a n c bs _ (hr.out.bel (by (repeat (first | (with_reducible exact Below.refl _ _) | (with_reducible assumption) | (with_reducible refine Later.out _ ?_) | (with_reducible refine bel_alloc ?_ _) | (with_reducible refine bel_drew ?_) | (with_reducible refine bel_drewN ?_ _) | (with_reducible refine bel_set ?_ ?_ _) | (with_reducible refine After.out _ ?_ ?_) | (dsimp only; omega) | omega | (simp only [World.size_alloc, World.size_setCell, World.size_drew]; omega))))) hl.out hn hx.out).mono ?_
  rintro e w' ⟨g, hg, rfl, y, rfl, hsrc⟩
  have hsy := y.bel.size
  (try simp only [World.size_alloc, World.size_setCell, World.size_drew] at hg hsy)
  have H0 := Lib.hid hsrc
  have hgy := hsrc.lt
  clear hsrc
  go_wp2_with fail
  with_reducible refine (sClmDraw_any g _ (by (repeat (first | (with_reducible exact H0.out) | (with_reducible refine SrcOk.alloc ?_ _) | (with_reducible refine SrcOk.set ?_ ?_ _) | (with_reducible refine SrcOk.drewN ?_ _) | (with_reducible refine SrcOk.drew ?_) | (with_reducible refine SrcOk.later _ ?_) | (with_reducible refine SrcOk.after _ ?_ ?_) | (dsimp only; omega) | omega | ((try simp only [World.size_alloc, World.size_setCell, World.size_drew]); omega))))).mono ?_
  rintro e w' ⟨x, hok, rfl, z1, rfl, hsrc⟩
  have hs1 := z1.btw.size
  replace hok := Lib.hid hok
  clear hsrc
  go_wp2_with fail
  refine bodyPost_ret (by simp [results, Tryz.results6, go_sem, ↓IntWalk.iteOmega, *]; try rfl) rfl ?_
  exact RetClm.mk hok.out rfl (by (repeat (first | (with_reducible exact Below.refl _ _) | (with_reducible assumption) | (with_reducible refine Later.out _ ?_) | (with_reducible refine bel_alloc ?_ _) | (with_reducible refine bel_drew ?_) | (with_reducible refine bel_drewN ?_ _) | (with_reducible refine bel_set ?_ ?_ _) | (with_reducible refine After.out _ ?_ ?_) | (dsimp only; omega) | omega | (simp only [World.size_alloc, World.size_setCell, World.size_drew]; omega))))
end
end Go.Proofs.YtfjlilpebhiogaaGreatDoor

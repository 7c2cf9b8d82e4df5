import Derived.Test.YtklcaphkfdlipaaGreatDoorDrPV
import Derived.Test.YtklcaphkfdlipaaGreatDoorPackVa
/- The draws of rings. -/
set_option linter.unusedSimpArgs false
set_option linter.unusedVariables false
namespace Go.Proofs.YtklcaphkfdlipaaGreatDoor
open Go.RowKit
/-- Some points, in memory of the draw's own. -/
def RetPtsO (w : World) (g : Nat) (e : Ending) (w' : World) : Prop :=
  ∃ (L : List Pt) (a : Option Addr) (n c : Nat), (∀ p ∈ L, SmP p) ∧ 2 ≤ n ∧ n ≤ 12 ∧ L.length = n ∧ e = .returned (.slice a n c) ∧ ∃ z : After w g (g + 1), w' = z.w ∧ SrcOk z.w g ∧ Owns z.w w.heap.size z.w.heap.size 72 2 n a c (ptsCells L)
/-- Points, in five blocks. -/
def ShapesAt (w wx : World) (b : Nat) : Prop := ∀ r : Nat, r < 5 → ∃ (c : Nat) (L : List Pt), wx.cell? ⟨b, r, none⟩ = some (.slice (some ⟨c, 0, none⟩) L.length L.length) ∧ Row wx (some ⟨c, 0, none⟩) (ptsCells L) ∧ 3 ≤ L.length ∧ L.length ≤ 10 ∧ (∀ p ∈ L, 0 ≤ p.x ∧ p.x ≤ 8 ∧ 0 ≤ p.y ∧ p.y ≤ 8) ∧ w.heap.size ≤ c
theorem row_block {w : World} {g : Nat} {cs : Array Value} {e : TypeId} {fr : Nat × Nat} {L : List Pt} (h : w.heap[g]? = some (.cells cs e fr)) (hx : ptsCells L = cs.toList) : Row w (some ⟨g, 0, none⟩) (ptsCells L) :=
  Row.at_block h fun j v hj => by rw [hx] at hj; simpa using hj
theorem heap_alloc_at (w : World) (o : Obj) (i : Nat) : (w.alloc o).heap[i]? = if i = w.heap.size then some o else w.heap[i]? := by
  by_cases h : i = w.heap.size
  · subst h
    rw [if_pos rfl]
    exact heap_alloc_new w o
  · rw [if_neg h]
    rcases Nat.lt_or_ge i w.heap.size with h1 | h1
    · exact Below.heap_alloc w o i h1
    · rw [Array.getElem?_eq_none (by simp; omega), Array.getElem?_eq_none (by omega)]
theorem info_pt' : ∃ i, Tryz.prog.info? 72 = some i ∧ i.zero = some (.agg #[.int .i64 0, .int .i64 0]) ∧ i.size = 2 ∧ i.bytes = 16 := by
  have h := info_pt
  cases hi : Tryz.prog.info? 72 with
  | none => rw [hi] at h; cases h
  | some i =>
    rw [hi] at h
    simp only [Option.map_some, Option.some.injEq, Prod.mk.injEq] at h
    exact ⟨i, rfl, h.1, h.2.1, h.2.2⟩
theorem one_pt (p : Pt) : ∀ u ∈ ptCells p, u.oneCell' = true := by intro u hu; simp [ptCells] at hu; rcases hu with rfl | rfl <;> rfl
theorem ptsCells_one (L : List Pt) (p : Pt) : ptsCells (L ++ [p]) = ptsCells L ++ ptCells p := by rw [ptsCells_append]; simp [ptsCells]
set_option maxRecDepth 8000 in
set_option maxHeartbeats 8000000 in
theorem sRingGood_any (g : Nat) (w : World) (h : SrcOk w g) : Calls Tryz.prog 175 #[.pointer (some ⟨g, 0, none⟩)] w (RetPtsO w g) := by
  have hg := h.lt
  have H0 := Lib.hid h
  clear h
  go_enter Tryz.func175, Tryz.ntmps175
  go_upto_region 1 with fail
  go_cut [3] from 13 to 49 (fun t3 wx => ∃ b, t3 = .slice (some ⟨b, 0, none⟩) 5 5 ∧ w.heap.size ≤ b ∧ ShapesAt w wx b ∧ Below w.heap.size w wx)
  case first =>
    go_wp2_with fail
    go_meet
    refine ⟨_, rfl, by (try simp only [World.size_alloc]); omega, ?_, by (repeat (first | (with_reducible first | exact Below.refl _ _ | assumption | refine Later.out _ ?_ | refine bel_alloc ?_ _ | refine bel_drew ?_ | refine bel_drewN ?_ _ | refine bel_set ?_ ?_ _ | refine After.out _ ?_ ?_) | (dsimp only; omega) | omega | (simp only [World.size_alloc, World.size_setCell, World.size_drew]; omega)))⟩
    intro r hr
    rcases (show r = 0 ∨ r = 1 ∨ r = 2 ∨ r = 3 ∨ r = 4 by omega) with rfl | rfl | rfl | rfl | rfl
    · exact ⟨w.heap.size, [⟨0, 0⟩, ⟨4, 0⟩, ⟨4, 3⟩, ⟨0, 3⟩], by simp [go_sem, ↓IntWalk.iteOmega], row_block (by ((repeat (rw [heap_alloc_at, if_neg (by (try simp only [World.size_alloc]); omega)])); rw [heap_alloc_at, if_pos (by (try simp only [World.size_alloc]))]; rfl)) rfl, by decide, by decide, by decide, by omega⟩
    · exact ⟨w.heap.size + 1, [⟨0, 0⟩, ⟨6, 0⟩, ⟨0, 4⟩], by simp [go_sem, ↓IntWalk.iteOmega], row_block (by ((repeat (rw [heap_alloc_at, if_neg (by (try simp only [World.size_alloc]); omega)])); rw [heap_alloc_at, if_pos (by (try simp only [World.size_alloc]))]; rfl)) rfl, by decide, by decide, by decide, by omega⟩
    · exact ⟨w.heap.size + 2, [⟨0, 0⟩, ⟨6, 0⟩, ⟨6, 6⟩, ⟨4, 6⟩, ⟨4, 2⟩, ⟨0, 2⟩], by simp [go_sem, ↓IntWalk.iteOmega], row_block (by ((repeat (rw [heap_alloc_at, if_neg (by (try simp only [World.size_alloc]); omega)])); rw [heap_alloc_at, if_pos (by (try simp only [World.size_alloc]))]; rfl)) rfl, by decide, by decide, by decide, by omega⟩
    · exact ⟨w.heap.size + 3, [⟨0, 0⟩, ⟨5, 1⟩, ⟨8, 0⟩, ⟨7, 4⟩, ⟨8, 8⟩, ⟨4, 6⟩, ⟨0, 8⟩, ⟨1, 4⟩], by simp [go_sem, ↓IntWalk.iteOmega], row_block (by ((repeat (rw [heap_alloc_at, if_neg (by (try simp only [World.size_alloc]); omega)])); rw [heap_alloc_at, if_pos (by (try simp only [World.size_alloc]))]; rfl)) rfl, by decide, by decide, by decide, by omega⟩
    · exact ⟨w.heap.size + 4, [⟨0, 0⟩, ⟨8, 0⟩, ⟨8, 5⟩, ⟨6, 5⟩, ⟨6, 2⟩, ⟨4, 2⟩, ⟨4, 5⟩, ⟨2, 5⟩, ⟨2, 2⟩, ⟨0, 2⟩], by simp [go_sem, ↓IntWalk.iteOmega], row_block (by ((repeat (rw [heap_alloc_at, if_neg (by (try simp only [World.size_alloc]); omega)])); rw [heap_alloc_at, if_pos (by (try simp only [World.size_alloc]))]; rfl)) rfl, by decide, by decide, by decide, by omega⟩
  case rest =>
    obtain ⟨b, rfl, hbb, hS, hbc⟩ := hcut
    have hcs := hbc.size
    have hbw : b < wc.heap.size := by
      obtain ⟨_, _, h1, _⟩ := hS 0 (by omega)
      exact World.block_lt_of_cell? _ _ h1
    have HW := Lib.hid (H0.out.below hbc hg)
    have hbl : Between g (g + 1) w wc := ⟨hbc.os, hbc.tape, hbc.output, hbc.size, fun k hk _ => hbc.block k hk⟩
    replace hbl := Lib.hid hbl
    clear hbc H0
    obtain ⟨ii, j1, j2, j3, j4⟩ := info_pt'
    have Jii := Lib.hid (And.intro j1 (And.intro j2 (And.intro j3 j4)))
    clear j1 j2 j3 j4
    have hgb : g < b := by omega
    have hgb1 : g + 1 ≤ b := by omega
    go_wp2_with fail
    with_reducible refine (next_any g 5 _ (by (repeat (first | (with_reducible exact HW.out) | (with_reducible refine SrcOk.alloc ?_ _) | (with_reducible refine SrcOk.set ?_ ?_ _) | (with_reducible refine SrcOk.drewN ?_ _) | (with_reducible refine SrcOk.drew ?_) | (with_reducible refine SrcOk.later _ ?_) | (with_reducible refine SrcOk.after _ ?_ ?_) | (dsimp only; omega) | omega | ((try simp only [World.size_alloc, World.size_setCell, World.size_drew]); omega))))).mono ?_
    rintro e w' ⟨r, hdraw, rfl, z1, rfl, hsrc⟩
    have hsz1 := z1.btw.size
    (try simp only [World.size_alloc, World.size_setCell, World.size_drew] at hsz1)
    have H1 := Lib.hid hsrc
    clear hsrc
    obtain ⟨r0, r1⟩ := hdraw
    obtain ⟨m, rfl⟩ := Int.eq_ofNat_of_zero_le r0
    obtain ⟨c, L, q, hrow, l3, l10, hL, hc⟩ := hS (m : Int).toNat (by omega)
    rw [Int.toNat_natCast] at q
    have hm5 : m < 5 := by omega
    have i1 : (m : Int) < 5 := by omega
    have hcw : c < wc.heap.size := by
      have h1 := hrow.pt (L := L) (k := 0) (by omega)
      obtain ⟨b', o', e', h2, _⟩ := h1
      cases e'
      exact h2
    have hrw : ∀ W, Between g (g + 1) wc W → Row W (some ⟨c, 0, none⟩) (ptsCells L) := fun W hW => hrow.btw hW (fun p hp => by cases hp; dsimp only; omega)
    replace hrw := Lib.hid hrw
    replace hL := Lib.hid hL
    clear hS hrow
    have v1 : wc.heap.size ≤ z1.w.heap.size := by omega
    have v2 : w.heap.size < z1.w.heap.size := by omega
    have v3 : b < z1.w.heap.size := by omega
    go_wp2_with fail
    with_reducible refine (next_any g 11 _ (by (repeat (first | (with_reducible exact H1.out) | (with_reducible refine SrcOk.alloc ?_ _) | (with_reducible refine SrcOk.set ?_ ?_ _) | (with_reducible refine SrcOk.drewN ?_ _) | (with_reducible refine SrcOk.drew ?_) | (with_reducible refine SrcOk.later _ ?_) | (with_reducible refine SrcOk.after _ ?_ ?_) | (dsimp only; omega) | omega | ((try simp only [World.size_alloc, World.size_setCell, World.size_drew]); omega))))).mono ?_
    rintro e w' ⟨xx, hdraw, rfl, z2, rfl, hsrc⟩
    have hsz2 := z2.btw.size
    (try simp only [World.size_alloc, World.size_setCell, World.size_drew] at hsz2)
    have H2 := Lib.hid hsrc
    clear hsrc
    obtain ⟨xx0, xx1⟩ := hdraw
    go_wp2_with fail
    with_reducible refine (next_any g 11 _ (by (repeat (first | (with_reducible exact H2.out) | (with_reducible refine SrcOk.alloc ?_ _) | (with_reducible refine SrcOk.set ?_ ?_ _) | (with_reducible refine SrcOk.drewN ?_ _) | (with_reducible refine SrcOk.drew ?_) | (with_reducible refine SrcOk.later _ ?_) | (with_reducible refine SrcOk.after _ ?_ ?_) | (dsimp only; omega) | omega | ((try simp only [World.size_alloc, World.size_setCell, World.size_drew]); omega))))).mono ?_
    rintro e w' ⟨yy, hdraw, rfl, z3, rfl, hsrc⟩
    have hsz3 := z3.btw.size
    (try simp only [World.size_alloc, World.size_setCell, World.size_drew] at hsz3)
    have H3 := Lib.hid hsrc
    clear hsrc
    obtain ⟨yy0, yy1⟩ := hdraw
    go_wp2_with fail
    with_reducible refine (next_any g 3 _ (by (repeat (first | (with_reducible exact H3.out) | (with_reducible refine SrcOk.alloc ?_ _) | (with_reducible refine SrcOk.set ?_ ?_ _) | (with_reducible refine SrcOk.drewN ?_ _) | (with_reducible refine SrcOk.drew ?_) | (with_reducible refine SrcOk.later _ ?_) | (with_reducible refine SrcOk.after _ ?_ ?_) | (dsimp only; omega) | omega | ((try simp only [World.size_alloc, World.size_setCell, World.size_drew]); omega))))).mono ?_
    rintro e w' ⟨sc, hdraw, rfl, z4, rfl, hsrc⟩
    have hsz4 := z4.btw.size
    (try simp only [World.size_alloc, World.size_setCell, World.size_drew] at hsz4)
    have H4 := Lib.hid hsrc
    clear hsrc
    obtain ⟨sc0, sc1⟩ := hdraw
    go_wp2_with fail
    with_reducible refine (next_any g (L.length : Int) _ (by (repeat (first | (with_reducible exact H4.out) | (with_reducible refine SrcOk.alloc ?_ _) | (with_reducible refine SrcOk.set ?_ ?_ _) | (with_reducible refine SrcOk.drewN ?_ _) | (with_reducible refine SrcOk.drew ?_) | (with_reducible refine SrcOk.later _ ?_) | (with_reducible refine SrcOk.after _ ?_ ?_) | (dsimp only; omega) | omega | ((try simp only [World.size_alloc, World.size_setCell, World.size_drew]); omega))))).mono ?_
    rintro e w' ⟨k0, hdraw, rfl, z5, rfl, hsrc⟩
    have hsz5 := z5.btw.size
    (try simp only [World.size_alloc, World.size_setCell, World.size_drew] at hsz5)
    have H5 := Lib.hid hsrc
    clear hsrc
    obtain ⟨k00, k01⟩ := hdraw
    go_wp2_with fail
    with_reducible refine (next_any g 2 _ (by (repeat (first | (with_reducible exact H5.out) | (with_reducible refine SrcOk.alloc ?_ _) | (with_reducible refine SrcOk.set ?_ ?_ _) | (with_reducible refine SrcOk.drewN ?_ _) | (with_reducible refine SrcOk.drew ?_) | (with_reducible refine SrcOk.later _ ?_) | (with_reducible refine SrcOk.after _ ?_ ?_) | (dsimp only; omega) | omega | ((try simp only [World.size_alloc, World.size_setCell, World.size_drew]); omega))))).mono ?_
    rintro e w' ⟨t, hdraw, rfl, z6, rfl, hsrc⟩
    have hsz6 := z6.btw.size
    (try simp only [World.size_alloc, World.size_setCell, World.size_drew] at hsz6)
    have H6 := Lib.hid hsrc
    clear hsrc
    obtain ⟨t0, t1⟩ := hdraw
    have hb6 : Between g (g + 1) wc z6.w := by (repeat (first | (with_reducible exact Between.refl _ _ _) | (with_reducible refine Between.drew ?_) | (with_reducible refine Between.drewN ?_ _) | (with_reducible refine btw_own ?_ ?_ _) | (with_reducible refine btw_later _ ?_) | (with_reducible refine btw_alloc ?_ _) | (with_reducible refine btw_after _ ?_) | (with_reducible refine btw_beyond _ ?_ ?_) | (with_reducible refine Aft.btw _ ?_ ?_) | (with_reducible assumption) | (dsimp only; omega) | omega | ((try simp only [World.size_alloc, World.size_setCell, World.size_drew]); omega)))
    replace hb6 := Lib.hid hb6
    obtain ⟨kn, rfl⟩ := Int.eq_ofNat_of_zero_le k00
    have v6 : wc.heap.size ≤ z6.w.heap.size := by have := hb6.out.size; omega
    obtain ⟨tb, htb⟩ : ∃ tb, (t == 0) = tb := ⟨_, rfl⟩
    obtain ⟨sx, hsx⟩ : ∃ sx, 1 + sc = sx := ⟨_, rfl⟩
    have s0 : 1 ≤ sx := by omega
    have s1 : sx ≤ 3 := by omega
    go_wp2_with fail
    go_loopw [10, 11] (fun t10 t11 wr => ∃ (k : Nat) (L2 : List Pt) (a : Option Addr) (c2 : Nat), k ≤ L.length ∧ t11 = .int .i64 k ∧ L2.length = k ∧ t10 = .slice a k c2 ∧ (∀ p ∈ L2, SmP p) ∧ wr.ownsRow z6.w.heap.size 72 2 (.slice a k c2) k (ptsCells L2) ∧ ∃ z : Later z6.w, wr = z.w) (fun _ t11 _ => L.length - (intOf t11).toNat)
    case atStart => exact ⟨0, [], _, _, Nat.zero_le _, rfl, rfl, rfl, fun p hp => (by cases hp), World.ownsRow_lit z6.w #[] 0 (Nat.le_refl _) (by unfold maxLen; omega) rfl, ⟨_, bel_alloc (Below.refl _ _) _⟩, rfl⟩
    case round =>
      obtain ⟨k, L2, a, c2, hk, rfl, hl2, rfl, hsm, hown, z, rfl⟩ := hrel
      have hzz := z.bel.size
      replace hsm := Lib.hid hsm
      replace hown := Lib.hid hown
      replace hl2 := Lib.hid hl2
      by_cases hlt : k < L.length
      · have i2 : (k : Int) < (L.length : Int) := by omega
        have CA := Lib.hid (fun W hW => l16At_z (L := L) (i := kn + k) (z := (kn : Int) + (k : Int)) (a := some ⟨c, 0, none⟩) (n := L.length) (c := L.length) (w := W) (by omega) rfl (by omega) (by omega) (by omega) (hrw.out W hW))
        have hPm := hL.out _ (cor_mem (L := L) (i := kn + k) (by omega))
        obtain ⟨⟨X, Y⟩, hP⟩ : ∃ P, cor L (kn + k) = P := ⟨_, rfl⟩
        simp only [hP] at CA hPm
        obtain ⟨X0, X1, Y0, Y1⟩ := hPm
        have mx0 : 0 ≤ sx * X := Int.mul_nonneg (by omega) X0
        have my0 : 0 ≤ sx * Y := Int.mul_nonneg (by omega) Y0
        have mx1 : sx * X ≤ 24 := by have := Int.mul_le_mul s1 X1 X0 (by omega); omega
        have my1 : sx * Y ≤ 24 := by have := Int.mul_le_mul s1 Y1 Y0 (by omega); omega
        clear hP
        go_wp2_with fail
        with_reducible refine (CA.out _ (btw_later z hb6.out)).mono ?_
        rintro e w' ⟨rfl, y1, rfl⟩
        have hsy1 := y1.bel.size
        (try simp only [World.size_alloc, World.size_setCell, World.size_drew] at hsy1)
        have hown2 := Lib.hid (own_bel hown.out y1.bel)
        cases tb
        · go_wp2_with (at_builtin; (refine wpList_append_later _ rfl _ _ _ rfl 72 ii _ 2 16 Tryz.underlying83 Jii.out.1 Jii.out.2.1 Jii.out.2.2.1 Jii.out.2.2.2 rfl (by decide) (z6.w) ?qa1 _ _ _ (ptsCells L2) rfl ?qa2 _ _ _ (ptCells ⟨sx * X + (xx - 5), sx * Y + (yy - 5)⟩) rfl ?qa3 ?qa4 ?qa5 ?qa6 ?qa7 ?_); (case qa1 => (repeat (first | (with_reducible first | exact Below.refl _ _ | assumption | refine Later.out _ ?_ | refine bel_alloc ?_ _ | refine bel_drew ?_ | refine bel_drewN ?_ _ | refine bel_set ?_ ?_ _ | refine After.out _ ?_ ?_) | (dsimp only; omega) | omega | (simp only [World.size_alloc, World.size_setCell, World.size_drew]; omega)))); (case qa2 => exact own_bel hown2.out (by (repeat (first | (with_reducible first | exact Below.refl _ _ | assumption | refine Later.out _ ?_ | refine bel_alloc ?_ _ | refine bel_drew ?_ | refine bel_drewN ?_ _ | refine bel_set ?_ ?_ _ | refine After.out _ ?_ ?_) | (dsimp only; omega) | omega | (simp only [World.size_alloc, World.size_setCell, World.size_drew]; omega))))); (case qa3 => (first | rfl | (simp [boolCells]; done) | (simp [intCells]; done) | (simp; done) | (first | omega | (simp only [List.length_append, List.length_cons, List.length_nil]; omega)))); (case qa4 => exact Row.madeAt (by simp only [World.size_alloc]) rfl); (case qa5 => exact one_pt _); (case qa6 => (unfold maxLen; (first | omega | (simp only [List.length_append, List.length_cons, List.length_nil]; omega)))); (case qa7 => (first | omega | (simp only [List.length_append, List.length_cons, List.length_nil]; omega))); intro a' c' x' hown')
          replace hown' := Lib.hid hown'
          go_roundw
          case rel =>
            refine ⟨k + 1, L2 ++ [⟨sx * X + (xx - 5), sx * Y + (yy - 5)⟩], a', c', by omega, by go_num, by simp [hl2.out], rfl, fun p hp => ?_, by rw [ptsCells_one]; exact hown'.out, x', rfl⟩
            rcases List.mem_append.1 hp with hp | hp
            · exact hsm.out p hp
            · simp only [List.mem_singleton] at hp
              subst hp
              exact ⟨by dsimp only; omega, by dsimp only; omega, by dsimp only; omega, by dsimp only; omega⟩
          case measure => first | (simp [intOf]; done) | (simp [intOf]; omega) | omega
        · go_wp2_with (at_builtin; (refine wpList_append_later _ rfl _ _ _ rfl 72 ii _ 2 16 Tryz.underlying83 Jii.out.1 Jii.out.2.1 Jii.out.2.2.1 Jii.out.2.2.2 rfl (by decide) (z6.w) ?qa8 _ _ _ (ptsCells L2) rfl ?qa9 _ _ _ (ptCells ⟨sx * Y + (xx - 5), sx * X + (yy - 5)⟩) rfl ?qa10 ?qa11 ?qa12 ?qa13 ?qa14 ?_); (case qa8 => (repeat (first | (with_reducible first | exact Below.refl _ _ | assumption | refine Later.out _ ?_ | refine bel_alloc ?_ _ | refine bel_drew ?_ | refine bel_drewN ?_ _ | refine bel_set ?_ ?_ _ | refine After.out _ ?_ ?_) | (dsimp only; omega) | omega | (simp only [World.size_alloc, World.size_setCell, World.size_drew]; omega)))); (case qa9 => exact own_bel hown2.out (by (repeat (first | (with_reducible first | exact Below.refl _ _ | assumption | refine Later.out _ ?_ | refine bel_alloc ?_ _ | refine bel_drew ?_ | refine bel_drewN ?_ _ | refine bel_set ?_ ?_ _ | refine After.out _ ?_ ?_) | (dsimp only; omega) | omega | (simp only [World.size_alloc, World.size_setCell, World.size_drew]; omega))))); (case qa10 => (first | rfl | (simp [boolCells]; done) | (simp [intCells]; done) | (simp; done) | (first | omega | (simp only [List.length_append, List.length_cons, List.length_nil]; omega)))); (case qa11 => exact Row.madeAt (by simp only [World.size_alloc]) rfl); (case qa12 => exact one_pt _); (case qa13 => (unfold maxLen; (first | omega | (simp only [List.length_append, List.length_cons, List.length_nil]; omega)))); (case qa14 => (first | omega | (simp only [List.length_append, List.length_cons, List.length_nil]; omega))); intro a' c' x' hown')
          replace hown' := Lib.hid hown'
          go_roundw
          case rel =>
            refine ⟨k + 1, L2 ++ [⟨sx * Y + (xx - 5), sx * X + (yy - 5)⟩], a', c', by omega, by go_num, by simp [hl2.out], rfl, fun p hp => ?_, by rw [ptsCells_one]; exact hown'.out, x', rfl⟩
            rcases List.mem_append.1 hp with hp | hp
            · exact hsm.out p hp
            · simp only [List.mem_singleton] at hp
              subst hp
              exact ⟨by dsimp only; omega, by dsimp only; omega, by dsimp only; omega, by dsimp only; omega⟩
          case measure => first | (simp [intOf]; done) | (simp [intOf]; omega) | omega
      · obtain rfl : k = L.length := by omega
        have i2 : ¬ (L.length : Int) < (L.length : Int) := by omega
        have hO := owns_wide (lo' := w.heap.size) (hi' := z.w.heap.size) (Owns.of hown.out) (by omega) (Nat.le_refl _)
        have hB : Between g (g + 1) w z.w := btw_later z (hbl.out.trans hb6.out)
        replace hO := Lib.hid hO
        replace hB := Lib.hid hB
        clear hown
        go_wp2_with fail
        go_ret
        exact ⟨L2, a, L.length, c2, hsm.out, by omega, by omega, hl2.out, rfl, ⟨z.w, hB.out⟩, rfl, SrcOk.later z H6.out, hO.out⟩
end Go.Proofs.YtklcaphkfdlipaaGreatDoor

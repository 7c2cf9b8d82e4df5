import Derived.Test.YtemfhcmeeldngaaGreatDoorDrR
/- The draws of tables. -/
set_option linter.unusedSimpArgs false
set_option linter.unusedVariables false
namespace Go.Proofs.YtemfhcmeeldngaaGreatDoor
open Go.RowKit
/-- A table of small rules in memory of the draw's own. -/
def RetTabD (w : World) (g l m : Nat) (e : Ending) (w' : World) : Prop :=
  ∃ (T : List Rul) (a : Option Addr) (n c : Nat), e = .returned (.slice a n c) ∧ l ≤ n ∧ n ≤ m ∧ ∃ z : After w g (g + 1), w' = z.w ∧ SrcOk z.w g ∧ GTab z.w w.heap.size T a n c
theorem RetTabD.mk {w w' : World} {g l m : Nat} {e : Ending} {T : List Rul} {a : Option Addr} {n c : Nat} (he : e = .returned (.slice a n c)) (hl : l ≤ n) (hn : n ≤ m) (hb : Between g (g + 1) w w') (hs : SrcOk w' g) (hG : GTab w' w.heap.size T a n c) : RetTabD w g l m e w' := ⟨T, a, n, c, he, hl, hn, ⟨w', hb⟩, rfl, hs, hG⟩
theorem GTab.drew {w : World} {lo n c : Nat} {T : List Rul} {a : Option Addr} (h : GTab w lo T a n c) : GTab w.drew lo T a n c := h.bel ⟨rfl, rfl, rfl, Nat.le_refl _, fun _ _ => rfl⟩
theorem GTab.alloc {w : World} {lo n c : Nat} {T : List Rul} {a : Option Addr} (h : GTab w lo T a n c) (o : Obj) : GTab (w.alloc o) lo T a n c := h.bel ((Below.refl _ _).alloc (Nat.le_refl _) o)
theorem GTab.later {w : World} {lo n c : Nat} {T : List Rul} {a : Option Addr} (x : Later w) (h : GTab w lo T a n c) : GTab x.w lo T a n c := h.bel x.bel
theorem GTab.after {w : World} {lo g g' n c : Nat} {T : List Rul} {a : Option Addr} (x : After w g g') (h : GTab w lo T a n c) (hg : g' ≤ lo) : GTab x.w lo T a n c := h.keep x.btw hg
theorem RowsV.keep {w w' : World} {lo g g' : Nat} {a : Option Addr} {T : List Rul} {vs : List Value} (h : RowsV w lo a T vs) (hb : Between g g' w w') (hg : g' ≤ lo) : RowsV w' lo a T vs := fun i hi => by
  obtain ⟨ai, ci, e1, e2, e3, e4, e5, e6⟩ := h i hi
  exact ⟨ai, ci, e1, e2, e3.btw hb (fun p hp => .inr (by have := (e6 p hp).1; omega)), e4, e5, fun p hp => ⟨(e6 p hp).1, by have := (e6 p hp).2.1; have := hb.size; omega, (e6 p hp).2.2⟩⟩
/-- Texts in a block. -/
def TxtB (w : World) (b m : Nat) : Prop := b < w.heap.size ∧ ∀ k, k < m → ∃ s : ByteArray, w.cell? ⟨b, k, none⟩ = some (.string s) ∧ s.size ≤ 64
theorem TxtB.keep {w w' : World} {g g' b m : Nat} (h : TxtB w b m) (hb : Between g g' w w') (ho : b < g ∨ g' ≤ b) : TxtB w' b m := ⟨Nat.lt_of_lt_of_le h.1 hb.size, fun k hk => by
  obtain ⟨s, h1, h2⟩ := h.2 k hk
  exact ⟨s, (hb.cell (p := ⟨b, k, none⟩) h.1 ho).trans h1, h2⟩⟩
theorem TxtB.bel {w w' : World} {b m : Nat} (h : TxtB w b m) (hb : Below w.heap.size w w') : TxtB w' b m := ⟨Nat.lt_of_lt_of_le h.1 hb.size, fun k hk => by
  obtain ⟨s, h1, h2⟩ := h.2 k hk
  exact ⟨s, (hb.cell (p := ⟨b, k, none⟩) h.1).trans h1, h2⟩⟩
theorem TxtB.alloc {w : World} {b m : Nat} (h : TxtB w b m) (o : Obj) : TxtB (w.alloc o) b m := h.bel ((Below.refl _ _).alloc (Nat.le_refl _) o)
theorem TxtB.after {w : World} {b m g g' : Nat} (x : After w g g') (h : TxtB w b m) (ho : b < g ∨ g' ≤ b) : TxtB x.w b m := h.keep x.btw ho
set_option maxRecDepth 8000 in
set_option maxHeartbeats 8000000 in
theorem sGood4_any (g : Nat) (w : World) (h : SrcOk w g) : Calls Tryz.prog 65 #[.pointer (some ⟨g, 0, none⟩)] w (RetTabD w g 5 30) := by
  have hg := h.lt
  have hg' : g + 1 ≤ w.heap.size := hg
  have H0 := Lib.hid h
  obtain ⟨ii, j1, j2, j3, j4⟩ := info_rule'
  have Jii := Lib.hid (And.intro j1 (And.intro j2 (And.intro j3 j4)))
  have HO := Lib.hid (World.ownsRow_lit (base := w.heap.size) (e := 57) (size := 2) w #[] 0 (Nat.le_refl _) (by unfold maxLen; omega) rfl)
  clear h j1 j2 j3 j4
  go_enter Tryz.func65, Tryz.ntmps65
  go_wp2_with fail
  go_loopw [3, 5] (fun ov iv wr => ∃ (i : Nat) (O : List Rul) (a : Option Addr) (c : Nat), i ≤ 5 ∧ iv = .int .i64 i ∧ ov = .slice a i c ∧ GTab wr w.heap.size O a i c ∧ TxtB wr (w.heap.size + 1) 8 ∧ (∀ p : Addr, a = some p → p.block ≠ w.heap.size + 1) ∧ SrcOk wr g ∧ Between g (g + 1) w wr) (fun _ iv _ => 5 - (intOf iv).toNat)
  case atStart =>
    refine ⟨0, [], _, _, by omega, rfl, rfl, (GTab.nil HO.out).alloc _, ⟨by simp only [World.size_alloc]; omega, fun k hk => ?_⟩, fun p hp => by cases hp; dsimp only; omega, by (repeat (first | (with_reducible exact H0.out) | (with_reducible refine SrcOk.alloc ?_ _) | (with_reducible refine SrcOk.set ?_ ?_ _) | (with_reducible refine SrcOk.drewN ?_ _) | (with_reducible refine SrcOk.drew ?_) | (with_reducible refine SrcOk.later _ ?_) | (with_reducible refine SrcOk.after _ ?_ ?_) | (dsimp only; omega) | omega | ((try simp only [World.size_alloc, World.size_setCell, World.size_drew]); omega))), by (repeat (first | (with_reducible exact Between.refl _ _ _) | (with_reducible refine Between.drew ?_) | (with_reducible refine Between.drewN ?_ _) | (with_reducible refine btw_own ?_ ?_ _) | (with_reducible refine btw_later _ ?_) | (with_reducible refine btw_alloc ?_ _) | (with_reducible refine btw_after _ ?_) | (with_reducible refine btw_beyond _ ?_ ?_) | (with_reducible refine Aft.btw _ ?_ ?_) | (with_reducible assumption) | (dsimp only; omega) | omega | ((try simp only [World.size_alloc, World.size_setCell, World.size_drew]); omega)))⟩
    rcases (show k = 0 ∨ k = 1 ∨ k = 2 ∨ k = 3 ∨ k = 4 ∨ k = 5 ∨ k = 6 ∨ k = 7 by omega) with rfl | rfl | rfl | rfl | rfl | rfl | rfl | rfl <;> exact ⟨_, by simp [go_sem, ↓IntWalk.iteOmega]; rfl, by decide⟩
  case round =>
    obtain ⟨i, O, a, c, hi, rfl, rfl, hG, hT, hab, hs, hb⟩ := hrel
    obtain ⟨v, rfl⟩ := AfterC.mk hb
    have hvs := v.btw.size
    clear hb
    replace hs := Lib.hid hs
    by_cases hlt : i < 5
    · have hi1 : (i : Int) < 5 := by omega
      obtain ⟨hGl, hGo, vs, hv, hrows⟩ := hG
      obtain ⟨gg, gg', hg0, hgg, hg1, hog, hgl, hgo, -⟩ := own_tight hv
      have hg2 : gg' ≤ v.w.heap.size := Nat.le_trans hg1 (Nat.max_le.2 ⟨hvs, Nat.le_refl _⟩)
      have hvl : vs.length = i * 2 := hv.1
      have hTg : w.heap.size + 1 < gg ∨ gg' ≤ w.heap.size + 1 := by
        rcases Nat.lt_or_ge (w.heap.size + 1) gg with h | h
        · exact .inl h
        · rcases Nat.lt_or_ge (w.heap.size + 1) gg' with h' | h'
          · obtain ⟨p, e1, e2⟩ := hgo _ h h'
            exact absurd e2 (hab p e1)
          · exact .inr h'
      replace hog := Lib.hid hog
      replace hgo := Lib.hid hgo
      replace hrows := Lib.hid hrows
      replace hGo := Lib.hid hGo
      replace hGl := Lib.hid hGl
      replace hT := Lib.hid hT
      have hTl := hT.out.1
      have hgv : g < v.w.heap.size := by omega
      clear hv
      go_wp2_with fail
      with_reducible refine (next_any g 8 _ (by (repeat (first | (with_reducible exact hs.out) | (with_reducible refine SrcOk.alloc ?_ _) | (with_reducible refine SrcOk.set ?_ ?_ _) | (with_reducible refine SrcOk.drewN ?_ _) | (with_reducible refine SrcOk.drew ?_) | (with_reducible refine SrcOk.later _ ?_) | (with_reducible refine SrcOk.after _ ?_ ?_) | (dsimp only; omega) | omega | ((try simp only [World.size_alloc, World.size_setCell, World.size_drew]); omega))))).mono ?_
      rintro e w' ⟨x, hdraw, rfl, z3, rfl, hsrc⟩
      have hsz3 := z3.btw.size
      (try simp only [World.size_alloc, World.size_setCell, World.size_drew] at hsz3)
      have H3 := Lib.hid hsrc
      clear hsrc
      obtain ⟨x0, x1⟩ := hdraw
      obtain ⟨k, rfl⟩ := Int.eq_ofNat_of_zero_le x0
      have hk8 : k < 8 := by omega
      have hk8' : (k : Int) < 8 := by omega
      have hT3 : TxtB z3.w (w.heap.size + 1) 8 := (hT.out.alloc _).after z3 (.inr (by omega))
      obtain ⟨s, hsc, hs64⟩ := hT3.2 k hk8
      have hl3 := hT3.1
      have hw3 : g < z3.w.heap.size := by omega
      have hv3 : v.w.heap.size < z3.w.heap.size := by omega
      have hrow : Row z3.w (some ⟨v.w.heap.size, 0, none⟩) (intCells [(i : Int)]) := (Row.madeAt (w := v.w) (cs := #[.int .i64 (i : Int)]) (e := 2) rfl rfl).btw z3.btw fun p hp => by cases hp; exact .inr (by dsimp only; omega)
      have hb3 : Between g (g + 1) v.w z3.w := by (repeat (first | (with_reducible exact Between.refl _ _ _) | (with_reducible refine Between.drew ?_) | (with_reducible refine Between.drewN ?_ _) | (with_reducible refine Between.set ?_ ?_ ?_ _) | (with_reducible refine btw_later _ ?_) | (with_reducible refine btw_alloc ?_ _) | (with_reducible refine btw_after _ ?_) | (with_reducible assumption) | (dsimp only; omega) | omega))
      have hV3 : RowsV z3.w w.heap.size a O vs := RowsV.keep hrows.out hb3 hg'
      have ho3 : z3.w.ownsRow gg 57 2 (.slice a i c) i vs := own_btw hog.out hb3 fun q hq => .inr (by have := (hog.out.lt q hq).1; omega)
      replace hrow := Lib.hid hrow
      replace hV3 := Lib.hid hV3
      replace ho3 := Lib.hid ho3
      replace hT3 := Lib.hid hT3
      go_wp2_with (at_builtin; (refine wpList_append_apart _ rfl _ _ _ rfl 57 ii _ 2 40 Tryz.underlying24 Jii.out.1 Jii.out.2.1 Jii.out.2.2.1 Jii.out.2.2.2 rfl (by decide) (gg) (gg') ?qb1 _ _ _ (vs) rfl ?qb2 ?qb8 _ _ _ (ruleV (some ⟨v.w.heap.size, 0, none⟩) 1 ⟨[(i : Int)], s⟩) rfl ?qb3 ?qb4 ?qb5 ?qb6 ?qb7 ?_); (case qb1 => (first | (dsimp only; omega) | omega | (simp only [World.size_alloc, World.size_setCell, World.size_drew]; omega))); (case qb2 => exact own_bel ho3.out (by (repeat (first | (with_reducible exact Below.refl _ _) | (with_reducible assumption) | (with_reducible refine Later.out _ ?_) | (with_reducible refine bel_alloc ?_ _) | (with_reducible refine bel_drew ?_) | (with_reducible refine bel_drewN ?_ _) | (with_reducible refine bel_set ?_ ?_ _) | (with_reducible refine After.out _ ?_ ?_) | (dsimp only; omega) | omega | (simp only [World.size_alloc, World.size_setCell, World.size_drew]; omega))))); (case qb8 => exact hgl); (case qb3 => (first | rfl | (simp [boolCells]; done) | (simp [intCells]; done) | (simp; done) | (first | omega | (simp only [List.length_append, List.length_cons, List.length_nil]; omega)))); (case qb4 => exact Row.made _ _ _); (case qb5 => exact one_ruleV _ _ _); (case qb6 => (unfold maxLen; (first | omega | (simp only [List.length_append, List.length_cons, List.length_nil]; omega)))); (case qb7 => (first | omega | (simp only [List.length_append, List.length_cons, List.length_nil]; omega))); intro a9 c9 x9 hown9 hat9; replace hat9 := Lib.hid hat9; replace hown9 := Lib.hid hown9; have hs9 := x9.btw.size; (try simp only [World.size_alloc, World.size_setCell, World.size_drew] at hs9))
      go_roundw
      case rel =>
        refine ⟨i + 1, O ++ [⟨[(i : Int)], s⟩], a9, c9, by omega, by go_num, rfl, ?_, ?_, ?_, ?_, ?_⟩
        · refine GTab.snoc (c := c) (w := z3.w.alloc (.cells #[.slice (some ⟨v.w.heap.size, 0, none⟩) 1 1, .string s] 57)) hGl.out hGo.out (hV3.out.bel (by (repeat (first | (with_reducible exact Below.refl _ _) | (with_reducible assumption) | (with_reducible refine Later.out _ ?_) | (with_reducible refine bel_alloc ?_ _) | (with_reducible refine bel_drew ?_) | (with_reducible refine bel_drewN ?_ _) | (with_reducible refine bel_set ?_ ?_ _) | (with_reducible refine After.out _ ?_ ?_) | (dsimp only; omega) | omega | (simp only [World.size_alloc, World.size_setCell, World.size_drew]; omega))))) hvl hgo.out x9.btw hown9.out hg0 hat9.out ⟨by simp, hs64⟩ (hrow.out.bel (by (repeat (first | (with_reducible exact Below.refl _ _) | (with_reducible assumption) | (with_reducible refine Later.out _ ?_) | (with_reducible refine bel_alloc ?_ _) | (with_reducible refine bel_drew ?_) | (with_reducible refine bel_drewN ?_ _) | (with_reducible refine bel_set ?_ ?_ _) | (with_reducible refine After.out _ ?_ ?_) | (dsimp only; omega) | omega | (simp only [World.size_alloc, World.size_setCell, World.size_drew]; omega))))) (by simp) (by unfold maxLen; omega) fun p hp => ?_
          cases hp
          dsimp only
          refine ⟨by omega, by simp only [World.size_alloc]; omega, fun q hq => ?_⟩
          have h3 := (hog.out.lt q.block (by rw [hq]; rfl)).2
          omega
        · exact (hT3.out.alloc _).after x9 hTg
        · intro p hp
          have h1 := hat9.out p hp
          have h2 := (hown9.out.lt p.block (by rw [hp]; rfl)).1
          simp only [World.size_alloc] at h1
          omega
        · (repeat (first | (with_reducible exact H3.out) | (with_reducible refine SrcOk.alloc ?_ _) | (with_reducible refine SrcOk.set ?_ ?_ _) | (with_reducible refine SrcOk.drewN ?_ _) | (with_reducible refine SrcOk.drew ?_) | (with_reducible refine SrcOk.later _ ?_) | (with_reducible refine SrcOk.after _ ?_ ?_) | (dsimp only; omega) | omega | ((try simp only [World.size_alloc, World.size_setCell, World.size_drew]); omega)))
        · (repeat (first | (with_reducible exact Between.refl _ _ _) | (with_reducible refine Between.drew ?_) | (with_reducible refine Between.drewN ?_ _) | (with_reducible refine btw_own ?_ ?_ _) | (with_reducible refine btw_later _ ?_) | (with_reducible refine btw_alloc ?_ _) | (with_reducible refine btw_after _ ?_) | (with_reducible refine btw_beyond _ ?_ ?_) | (with_reducible refine Aft.btw _ ?_ ?_) | (with_reducible assumption) | (dsimp only; omega) | omega | ((try simp only [World.size_alloc, World.size_setCell, World.size_drew]); omega)))
      case measure => simp [intOf]; omega
    · obtain rfl : i = 5 := by omega
      have hG' := Lib.hid hG
      clear hT hab hG
      go_wp2_with fail
      with_reducible refine (next_any g 4 _ (by (repeat (first | (with_reducible exact hs.out) | (with_reducible refine SrcOk.alloc ?_ _) | (with_reducible refine SrcOk.set ?_ ?_ _) | (with_reducible refine SrcOk.drewN ?_ _) | (with_reducible refine SrcOk.drew ?_) | (with_reducible refine SrcOk.later _ ?_) | (with_reducible refine SrcOk.after _ ?_ ?_) | (dsimp only; omega) | omega | ((try simp only [World.size_alloc, World.size_setCell, World.size_drew]); omega))))).mono ?_
      rintro e w' ⟨x, hdraw, rfl, z3, rfl, hsrc⟩
      have hsz3 := z3.btw.size
      (try simp only [World.size_alloc, World.size_setCell, World.size_drew] at hsz3)
      have H3 := Lib.hid hsrc
      clear hsrc
      obtain ⟨x0, x1⟩ := hdraw
      obtain ⟨m0, rfl⟩ := Int.eq_ofNat_of_zero_le x0
      have hm4 : m0 < 4 := by omega
      have hG3 : GTab z3.w w.heap.size O a 5 c := hG'.out.after z3 hg'
      have hbt3 : Between g (g + 1) w z3.w := by (repeat (first | (with_reducible exact Between.refl _ _ _) | (with_reducible refine Between.drew ?_) | (with_reducible refine Between.drewN ?_ _) | (with_reducible refine btw_own ?_ ?_ _) | (with_reducible refine btw_later _ ?_) | (with_reducible refine btw_alloc ?_ _) | (with_reducible refine btw_after _ ?_) | (with_reducible refine btw_beyond _ ?_ ?_) | (with_reducible refine Aft.btw _ ?_ ?_) | (with_reducible assumption) | (dsimp only; omega) | omega | ((try simp only [World.size_alloc, World.size_setCell, World.size_drew]); omega)))
      replace hG3 := Lib.hid hG3
      replace hbt3 := Lib.hid hbt3
      go_wp2_with fail
      go_loopw [3, 6] (fun ov nv wr => ∃ (m n : Nat) (O : List Rul) (a : Option Addr) (c : Nat), m ≤ 3 ∧ 5 ≤ n ∧ n ≤ 30 ∧ nv = .int .i64 m ∧ ov = .slice a n c ∧ GTab wr w.heap.size O a n c ∧ SrcOk wr g ∧ Between g (g + 1) w wr) (fun _ nv _ => (intOf nv).toNat)
      case atStart => exact ⟨m0, 5, O, a, c, by omega, by omega, by omega, rfl, rfl, hG3.out, H3.out, hbt3.out⟩
      case round =>
        obtain ⟨m, n, O, a, c, hm, h5, hn, rfl, rfl, hG, hs, hb⟩ := hrel
        obtain ⟨q, rfl⟩ := AfterC.mk hb
        have hqs := q.btw.size
        clear hb
        replace hs := Lib.hid hs
        replace hG := Lib.hid hG
        by_cases hm0 : 0 < m
        · have hm1 : (0 : Int) < (m : Int) := by omega
          go_wp2_with fail
          with_reducible refine (sRule_any g _ (by (repeat (first | (with_reducible exact hs.out) | (with_reducible refine SrcOk.alloc ?_ _) | (with_reducible refine SrcOk.set ?_ ?_ _) | (with_reducible refine SrcOk.drewN ?_ _) | (with_reducible refine SrcOk.drew ?_) | (with_reducible refine SrcOk.later _ ?_) | (with_reducible refine SrcOk.after _ ?_ ?_) | (dsimp only; omega) | omega | ((try simp only [World.size_alloc, World.size_setCell, World.size_drew]); omega))))).mono ?_
          rintro e w' ⟨r, ai, ci, rfl, hsm, hc1, hc2, hai, z4, rfl, hsrc, hrow⟩
          have H4 := Lib.hid hsrc
          have hs4 := z4.btw.size
          have hG4 : GTab z4.w w.heap.size O a n c := hG.out.after z4 hg'
          clear hsrc
          have CA := addRule_any O r a ai n c ci z4.w hG4.len (by omega) hG4.ok hsm hG4.rules hrow hc1 hc2
          replace CA := Lib.hid CA
          replace hG4 := Lib.hid hG4
          clear hai hrow
          go_wp2_with fail
          with_reducible refine CA.out.mono ?_
          rintro e w' ⟨T5, a5, n5, c5, code, rfl, hT5, y5, rfl⟩
          have hs5 := y5.bel.size
          replace hT5 := Lib.hid hT5
          by_cases hc0 : code = 0
          · subst hc0
            obtain ⟨hle, h30, hG5⟩ := hT5.out rfl
            replace hG5 := Lib.hid hG5
            go_wp2_with fail
            go_roundw
            case rel => exact ⟨m - 1, n5, T5, a5, c5, by omega, by omega, h30, by go_num, rfl, hG5.out.wide (by omega), by (repeat (first | (with_reducible exact H4.out) | (with_reducible refine SrcOk.alloc ?_ _) | (with_reducible refine SrcOk.set ?_ ?_ _) | (with_reducible refine SrcOk.drewN ?_ _) | (with_reducible refine SrcOk.drew ?_) | (with_reducible refine SrcOk.later _ ?_) | (with_reducible refine SrcOk.after _ ?_ ?_) | (dsimp only; omega) | omega | ((try simp only [World.size_alloc, World.size_setCell, World.size_drew]); omega))), by (repeat (first | (with_reducible exact Between.refl _ _ _) | (with_reducible refine Between.drew ?_) | (with_reducible refine Between.drewN ?_ _) | (with_reducible refine btw_own ?_ ?_ _) | (with_reducible refine btw_later _ ?_) | (with_reducible refine btw_alloc ?_ _) | (with_reducible refine btw_after _ ?_) | (with_reducible refine btw_beyond _ ?_ ?_) | (with_reducible refine Aft.btw _ ?_ ?_) | (with_reducible assumption) | (dsimp only; omega) | omega | ((try simp only [World.size_alloc, World.size_setCell, World.size_drew]); omega)))⟩
            case measure => first | (simp [intOf]; done) | (simp [intOf]; omega) | omega
          · have hc1' : (code == 0) = false := by simpa using hc0
            go_wp2_with fail
            go_roundw
            case rel => exact ⟨m - 1, n, O, a, c, by omega, h5, hn, by go_num, rfl, hG4.out.later y5, by (repeat (first | (with_reducible exact H4.out) | (with_reducible refine SrcOk.alloc ?_ _) | (with_reducible refine SrcOk.set ?_ ?_ _) | (with_reducible refine SrcOk.drewN ?_ _) | (with_reducible refine SrcOk.drew ?_) | (with_reducible refine SrcOk.later _ ?_) | (with_reducible refine SrcOk.after _ ?_ ?_) | (dsimp only; omega) | omega | ((try simp only [World.size_alloc, World.size_setCell, World.size_drew]); omega))), by (repeat (first | (with_reducible exact Between.refl _ _ _) | (with_reducible refine Between.drew ?_) | (with_reducible refine Between.drewN ?_ _) | (with_reducible refine btw_own ?_ ?_ _) | (with_reducible refine btw_later _ ?_) | (with_reducible refine btw_alloc ?_ _) | (with_reducible refine btw_after _ ?_) | (with_reducible refine btw_beyond _ ?_ ?_) | (with_reducible refine Aft.btw _ ?_ ?_) | (with_reducible assumption) | (dsimp only; omega) | omega | ((try simp only [World.size_alloc, World.size_setCell, World.size_drew]); omega)))⟩
            case measure => first | (simp [intOf]; done) | (simp [intOf]; omega) | omega
        · obtain rfl : m = 0 := by omega
          go_wp2_with fail
          go_ret
          exact RetTabD.mk rfl h5 hn (by (repeat (first | (with_reducible exact Between.refl _ _ _) | (with_reducible refine Between.drew ?_) | (with_reducible refine Between.drewN ?_ _) | (with_reducible refine btw_own ?_ ?_ _) | (with_reducible refine btw_later _ ?_) | (with_reducible refine btw_alloc ?_ _) | (with_reducible refine btw_after _ ?_) | (with_reducible refine btw_beyond _ ?_ ?_) | (with_reducible refine Aft.btw _ ?_ ?_) | (with_reducible assumption) | (dsimp only; omega) | omega | ((try simp only [World.size_alloc, World.size_setCell, World.size_drew]); omega)))) (by (repeat (first | (with_reducible exact hs.out) | (with_reducible refine SrcOk.alloc ?_ _) | (with_reducible refine SrcOk.set ?_ ?_ _) | (with_reducible refine SrcOk.drewN ?_ _) | (with_reducible refine SrcOk.drew ?_) | (with_reducible refine SrcOk.later _ ?_) | (with_reducible refine SrcOk.after _ ?_ ?_) | (dsimp only; omega) | omega | ((try simp only [World.size_alloc, World.size_setCell, World.size_drew]); omega)))) hG.out
end Go.Proofs.YtemfhcmeeldngaaGreatDoor

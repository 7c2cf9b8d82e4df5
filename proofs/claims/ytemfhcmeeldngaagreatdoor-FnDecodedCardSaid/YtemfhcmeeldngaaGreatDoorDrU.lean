import Derived.Test.YtemfhcmeeldngaaGreatDoorDrT
/- The draws of tables, and of texts for them. -/
set_option linter.unusedSimpArgs false
set_option linter.unusedVariables false
namespace Go.Proofs.YtemfhcmeeldngaaGreatDoor
open Go.RowKit
/-- A table for reading that lies from `lo` on. -/
def RulesG (w : World) (lo : Nat) (a : Option Addr) (T : List Rul) : Prop :=
  ∀ i (h : i < T.length), ∃ b o ai ci, a = some ⟨b, o, none⟩ ∧ lo ≤ b ∧ b < w.heap.size ∧ w.cell? ⟨b, o + i * 2, none⟩ = some (.slice ai T[i].sg.length ci) ∧ w.cell? ⟨b, o + i * 2 + 1, none⟩ = some (.string T[i].rom) ∧ Row w ai (intCells T[i].sg) ∧ T[i].sg.length ≤ ci ∧ ci ≤ maxLen ∧ ∀ p : Addr, ai = some p → lo ≤ p.block
theorem RulesG.rules {w : World} {lo : Nat} {a : Option Addr} {T : List Rul} (h : RulesG w lo a T) : RulesR w a T := fun i hi => by
  obtain ⟨b, o, ai, ci, e, _, h1, h2, h3, h4, h5, h6, _⟩ := h i hi
  exact ⟨b, o, ai, ci, e, h1, h2, h3, h4, h5, h6⟩
theorem RulesG.keep {w w' : World} {lo g g' : Nat} {a : Option Addr} {T : List Rul} (h : RulesG w lo a T) (hb : Between g g' w w') (hg : g' ≤ lo) : RulesG w' lo a T := fun i hi => by
  obtain ⟨b, o, ai, ci, e, h0, h1, h2, h3, h4, h5, h6, h7⟩ := h i hi
  exact ⟨b, o, ai, ci, e, h0, Nat.lt_of_lt_of_le h1 hb.size, (hb.cell (p := ⟨b, _, none⟩) h1 (.inr (by dsimp only; omega))).trans h2, (hb.cell (p := ⟨b, _, none⟩) h1 (.inr (by dsimp only; omega))).trans h3, h4.btw hb (fun p hp => .inr (by have := h7 p hp; omega)), h5, h6, h7⟩
theorem RulesG.after {w : World} {lo g g' : Nat} {a : Option Addr} {T : List Rul} (x : After w g g') (h : RulesG w lo a T) (hg : g' ≤ lo) : RulesG x.w lo a T := h.keep x.btw hg
theorem RulesG.wide {w : World} {lo lo' : Nat} {a : Option Addr} {T : List Rul} (h : RulesG w lo a T) (hl : lo' ≤ lo) : RulesG w lo' a T := fun i hi => by
  obtain ⟨b, o, ai, ci, e, h0, h1, h2, h3, h4, h5, h6, h7⟩ := h i hi
  exact ⟨b, o, ai, ci, e, by omega, h1, h2, h3, h4, h5, h6, fun p hp => by have := h7 p hp; omega⟩
theorem GTab.rulesG {w : World} {lo n c : Nat} {T : List Rul} {a : Option Addr} (h : GTab w lo T a n c) : RulesG w lo a T := fun i hi => by
  obtain ⟨vs, h1, h2⟩ := h.own
  obtain ⟨ai, ci, e1, e2, e3, e4, e5, e6⟩ := h2 i hi
  have hr := Row.of_own h1
  obtain ⟨b, o, rfl, q0⟩ := hr (i * 2) _ e1
  obtain ⟨b', o', e, q1⟩ := hr (i * 2 + 1) _ e2
  cases e
  exact ⟨b, o, ai, ci, rfl, (h1.lt b rfl).1, World.block_lt_of_cell? w _ q0, q0, by rw [Nat.add_assoc]; exact q1, e3, e4, e5, fun p hp => (e6 p hp).1⟩
theorem RulesG.drop {w : World} {lo b o : Nat} {T : List Rul} (h : RulesG w lo (some ⟨b, o, none⟩) T) (k : Nat) : RulesG w lo (some ⟨b, o + k * 2, none⟩) (T.drop k) := fun i hi => by
  rw [List.length_drop] at hi
  obtain ⟨b', o', ai, ci, e, h0, h1, h2, h3, h4⟩ := h (k + i) (by omega)
  cases e
  rw [List.getElem_drop]
  exact ⟨b, o + k * 2, ai, ci, rfl, h0, h1, by rw [← h2]; congr 2; omega, by rw [← h3]; congr 2; omega, h4⟩
/-- A table of small rules for reading. -/
def RetTabR (w : World) (g : Nat) (e : Ending) (w' : World) : Prop :=
  ∃ (T : List Rul) (a : Option Addr) (n c : Nat), e = .returned (.slice a n c) ∧ T.length = n ∧ n ≤ 64 ∧ n ≤ c ∧ c ≤ maxLen ∧ (∀ r ∈ T, SmR r) ∧ ∃ z : After w g (g + 1), w' = z.w ∧ SrcOk z.w g ∧ RulesG z.w w.heap.size a T
theorem RetTabR.of {w w' : World} {g : Nat} {e : Ending} {T : List Rul} {a : Option Addr} {n c : Nat} (he : e = .returned (.slice a n c)) (hn : n ≤ 64) (hb : Between g (g + 1) w w') (hs : SrcOk w' g) (hG : GTab w' w.heap.size T a n c) : RetTabR w g e w' :=
  ⟨T, a, n, c, he, hG.len, hn, hG.cap.1, hG.cap.2, hG.ok, ⟨w', hb⟩, rfl, hs, hG.rulesG⟩
set_option maxRecDepth 8000 in
set_option maxHeartbeats 8000000 in
theorem sDraw4_any (g : Nat) (w : World) (h : SrcOk w g) : Calls Tryz.prog 41 #[.pointer (some ⟨g, 0, none⟩)] w (RetTabR w g) := by
  have hg := h.lt
  have hg' : g + 1 ≤ w.heap.size := hg
  have H0 := Lib.hid h
  obtain ⟨ii, j1, j2, j3, j4⟩ := info_rule'
  have Jii := Lib.hid (And.intro j1 (And.intro j2 (And.intro j3 j4)))
  clear h j1 j2 j3 j4
  go_enter Tryz.func41, Tryz.ntmps41
  go_wp2_with fail
  with_reducible refine (sGood4_any g _ (by (repeat (first | (with_reducible exact H0.out) | (with_reducible refine SrcOk.alloc ?_ _) | (with_reducible refine SrcOk.set ?_ ?_ _) | (with_reducible refine SrcOk.drewN ?_ _) | (with_reducible refine SrcOk.drew ?_) | (with_reducible refine SrcOk.later _ ?_) | (with_reducible refine SrcOk.after _ ?_ ?_) | (dsimp only; omega) | omega | ((try simp only [World.size_alloc, World.size_setCell, World.size_drew]); omega))))).mono ?_
  rintro e w' ⟨T, a, n, c, rfl, h5, h30, z1, rfl, hsrc, hG⟩
  have H1 := Lib.hid hsrc
  have hs1 := z1.btw.size
  clear hsrc
  replace hG := Lib.hid hG
  go_wp2_with fail
  with_reducible refine (next_any g 24 _ (by (repeat (first | (with_reducible exact H1.out) | (with_reducible refine SrcOk.alloc ?_ _) | (with_reducible refine SrcOk.set ?_ ?_ _) | (with_reducible refine SrcOk.drewN ?_ _) | (with_reducible refine SrcOk.drew ?_) | (with_reducible refine SrcOk.later _ ?_) | (with_reducible refine SrcOk.after _ ?_ ?_) | (dsimp only; omega) | omega | ((try simp only [World.size_alloc, World.size_setCell, World.size_drew]); omega))))).mono ?_
  rintro e w' ⟨t, hdraw, rfl, z2, rfl, hsrc⟩
  have hsz2 := z2.btw.size
  (try simp only [World.size_alloc, World.size_setCell, World.size_drew] at hsz2)
  have H2 := Lib.hid hsrc
  clear hsrc
  obtain ⟨t0, t1⟩ := hdraw
  have hG2 : GTab z2.w w.heap.size T a n c := hG.out.after z2 hg'
  have hbt2 : Between g (g + 1) w z2.w := by (repeat (first | (with_reducible exact Between.refl _ _ _) | (with_reducible refine Between.drew ?_) | (with_reducible refine Between.drewN ?_ _) | (with_reducible refine btw_own ?_ ?_ _) | (with_reducible refine btw_later _ ?_) | (with_reducible refine btw_alloc ?_ _) | (with_reducible refine btw_after _ ?_) | (with_reducible refine btw_beyond _ ?_ ?_) | (with_reducible refine Aft.btw _ ?_ ?_) | (with_reducible assumption) | (dsimp only; omega) | omega | ((try simp only [World.size_alloc, World.size_setCell, World.size_drew]); omega)))
  clear hG
  rcases (show t = 0 ∨ t = 1 ∨ t = 2 ∨ 3 ≤ t by omega) with rfl | rfl | rfl | ht3
  · obtain ⟨hGl, hGo, vs, hv, hrows⟩ := hG2
    obtain ⟨gg, gg', hg0, hgg, hg1, hog, hgl, hgo, -⟩ := own_tight hv
    have hg2 : gg' ≤ z2.w.heap.size := Nat.le_trans hg1 (Nat.max_le.2 ⟨by omega, Nat.le_refl _⟩)
    have hvl : vs.length = n * 2 := hv.1
    replace hog := Lib.hid hog
    replace hgo := Lib.hid hgo
    replace hrows := Lib.hid hrows
    replace hGo := Lib.hid hGo
    replace hGl := Lib.hid hGl
    clear hv
    go_wp2_with fail
    with_reducible refine (sRule_any g _ (by (repeat (first | (with_reducible exact H2.out) | (with_reducible refine SrcOk.alloc ?_ _) | (with_reducible refine SrcOk.set ?_ ?_ _) | (with_reducible refine SrcOk.drewN ?_ _) | (with_reducible refine SrcOk.drew ?_) | (with_reducible refine SrcOk.later _ ?_) | (with_reducible refine SrcOk.after _ ?_ ?_) | (dsimp only; omega) | omega | ((try simp only [World.size_alloc, World.size_setCell, World.size_drew]); omega))))).mono ?_
    rintro e w' ⟨r, ai, ci, rfl, hsm, hc1, hc2, hai, z3, rfl, hsrc, hrow⟩
    have H3 := Lib.hid hsrc
    have hs3 := z3.btw.size
    clear hsrc
    have hV3 : RowsV z3.w w.heap.size a T vs := RowsV.keep hrows.out z3.btw hg'
    have ho3 : z3.w.ownsRow gg 57 2 (.slice a n c) n vs := own_btw hog.out z3.btw fun q hq => .inr (by have := (hog.out.lt q hq).1; omega)
    replace hrow := Lib.hid hrow
    replace hai := Lib.hid hai
    replace hV3 := Lib.hid hV3
    replace ho3 := Lib.hid ho3
    go_wp2_with (at_builtin; (refine wpList_append_apart _ rfl _ _ _ rfl 57 ii _ 2 40 Tryz.underlying24 Jii.out.1 Jii.out.2.1 Jii.out.2.2.1 Jii.out.2.2.2 rfl (by decide) (gg) (gg') ?qb1 _ _ _ (vs) rfl ?qb2 ?qb8 _ _ _ (ruleV ai ci r) rfl ?qb3 ?qb4 ?qb5 ?qb6 ?qb7 ?_); (case qb1 => (first | (dsimp only; omega) | omega | (simp only [World.size_alloc, World.size_setCell, World.size_drew]; omega))); (case qb2 => exact own_bel ho3.out (by (repeat (first | (with_reducible exact Below.refl _ _) | (with_reducible assumption) | (with_reducible refine Later.out _ ?_) | (with_reducible refine bel_alloc ?_ _) | (with_reducible refine bel_drew ?_) | (with_reducible refine bel_drewN ?_ _) | (with_reducible refine bel_set ?_ ?_ _) | (with_reducible refine After.out _ ?_ ?_) | (dsimp only; omega) | omega | (simp only [World.size_alloc, World.size_setCell, World.size_drew]; omega))))); (case qb8 => exact hgl); (case qb3 => (first | rfl | (simp [boolCells]; done) | (simp [intCells]; done) | (simp; done) | (first | omega | (simp only [List.length_append, List.length_cons, List.length_nil]; omega)))); (case qb4 => exact Row.made _ _ _); (case qb5 => exact one_ruleV _ _ _); (case qb6 => (unfold maxLen; (first | omega | (simp only [List.length_append, List.length_cons, List.length_nil]; omega)))); (case qb7 => (first | omega | (simp only [List.length_append, List.length_cons, List.length_nil]; omega))); intro a9 c9 x9 hown9 hat9; replace hat9 := Lib.hid hat9; replace hown9 := Lib.hid hown9; have hs9 := x9.btw.size; (try simp only [World.size_alloc, World.size_setCell, World.size_drew] at hs9))
    go_ret
    refine RetTabR.of (T := T ++ [r]) rfl (by omega) (by (repeat (first | (with_reducible exact Between.refl _ _ _) | (with_reducible refine Between.drew ?_) | (with_reducible refine Between.drewN ?_ _) | (with_reducible refine btw_own ?_ ?_ _) | (with_reducible refine btw_later _ ?_) | (with_reducible refine btw_alloc ?_ _) | (with_reducible refine btw_after _ ?_) | (with_reducible refine btw_beyond _ ?_ ?_) | (with_reducible refine Aft.btw _ ?_ ?_) | (with_reducible assumption) | (dsimp only; omega) | omega | ((try simp only [World.size_alloc, World.size_setCell, World.size_drew]); omega)))) (by (repeat (first | (with_reducible exact H3.out) | (with_reducible refine SrcOk.alloc ?_ _) | (with_reducible refine SrcOk.set ?_ ?_ _) | (with_reducible refine SrcOk.drewN ?_ _) | (with_reducible refine SrcOk.drew ?_) | (with_reducible refine SrcOk.later _ ?_) | (with_reducible refine SrcOk.after _ ?_ ?_) | (dsimp only; omega) | omega | ((try simp only [World.size_alloc, World.size_setCell, World.size_drew]); omega)))) ?_
    refine GTab.snoc (c := c) (w := z3.w.alloc (.cells #[.slice ai r.sg.length ci, .string r.rom] 57)) hGl.out hGo.out (hV3.out.bel (by (repeat (first | (with_reducible exact Below.refl _ _) | (with_reducible assumption) | (with_reducible refine Later.out _ ?_) | (with_reducible refine bel_alloc ?_ _) | (with_reducible refine bel_drew ?_) | (with_reducible refine bel_drewN ?_ _) | (with_reducible refine bel_set ?_ ?_ _) | (with_reducible refine After.out _ ?_ ?_) | (dsimp only; omega) | omega | (simp only [World.size_alloc, World.size_setCell, World.size_drew]; omega))))) hvl hgo.out x9.btw hown9.out hg0 hat9.out hsm (hrow.out.bel (by (repeat (first | (with_reducible exact Below.refl _ _) | (with_reducible assumption) | (with_reducible refine Later.out _ ?_) | (with_reducible refine bel_alloc ?_ _) | (with_reducible refine bel_drew ?_) | (with_reducible refine bel_drewN ?_ _) | (with_reducible refine bel_set ?_ ?_ _) | (with_reducible refine After.out _ ?_ ?_) | (dsimp only; omega) | omega | (simp only [World.size_alloc, World.size_setCell, World.size_drew]; omega))))) hc1 hc2 fun p hp => ?_
    have h1 := hai.out p hp
    refine ⟨by omega, by simp only [World.size_alloc]; omega, fun q hq => ?_⟩
    have h3 := (hog.out.lt q.block (by rw [hq]; rfl)).2
    omega
  · skip
    go_wp2_with fail
    with_reducible refine (next_any g 5 _ (by (repeat (first | (with_reducible exact H2.out) | (with_reducible refine SrcOk.alloc ?_ _) | (with_reducible refine SrcOk.set ?_ ?_ _) | (with_reducible refine SrcOk.drewN ?_ _) | (with_reducible refine SrcOk.drew ?_) | (with_reducible refine SrcOk.later _ ?_) | (with_reducible refine SrcOk.after _ ?_ ?_) | (dsimp only; omega) | omega | ((try simp only [World.size_alloc, World.size_setCell, World.size_drew]); omega))))).mono ?_
    rintro e w' ⟨x, hdraw, rfl, z3, rfl, hsrc⟩
    have hsz3 := z3.btw.size
    (try simp only [World.size_alloc, World.size_setCell, World.size_drew] at hsz3)
    have H3 := Lib.hid hsrc
    clear hsrc
    obtain ⟨x0, x1⟩ := hdraw
    obtain ⟨k, rfl⟩ := Int.eq_ofNat_of_zero_le x0
    have hk5 : k < 5 := by omega
    have hG3 : GTab z3.w w.heap.size T a n c := hG2.after z3 hg'
    have hcap := hG3.cap
    have hR3 := hG3.rulesG
    have hl3 := hG3.len
    have hok := hG3.ok
    obtain ⟨b, o, ax, cx, rfl, -⟩ := hR3 0 (by omega)
    have hkn : (k : Int) ≤ (n : Int) := by omega
    have hbt3 : Between g (g + 1) w z3.w := by (repeat (first | (with_reducible exact Between.refl _ _ _) | (with_reducible refine Between.drew ?_) | (with_reducible refine Between.drewN ?_ _) | (with_reducible refine btw_own ?_ ?_ _) | (with_reducible refine btw_later _ ?_) | (with_reducible refine btw_alloc ?_ _) | (with_reducible refine btw_after _ ?_) | (with_reducible refine btw_beyond _ ?_ ?_) | (with_reducible refine Aft.btw _ ?_ ?_) | (with_reducible assumption) | (dsimp only; omega) | omega | ((try simp only [World.size_alloc, World.size_setCell, World.size_drew]); omega)))
    replace hR3 := Lib.hid hR3
    replace hok := Lib.hid hok
    replace hl3 := Lib.hid hl3
    clear hG2 hG3
    go_wp2_with fail
    go_ret
    refine ⟨T.drop k, _, _, _, rfl, by rw [List.length_drop, hl3.out], by omega, by omega, by omega, fun r hr => hok.out r (List.mem_of_mem_drop hr), ⟨_, hbt3⟩, rfl, by (repeat (first | (with_reducible exact H3.out) | (with_reducible refine SrcOk.alloc ?_ _) | (with_reducible refine SrcOk.set ?_ ?_ _) | (with_reducible refine SrcOk.drewN ?_ _) | (with_reducible refine SrcOk.drew ?_) | (with_reducible refine SrcOk.later _ ?_) | (with_reducible refine SrcOk.after _ ?_ ?_) | (dsimp only; omega) | omega | ((try simp only [World.size_alloc, World.size_setCell, World.size_drew]); omega))), ?_⟩
    exact hR3.out.drop k
  · have hbt2' := Lib.hid hbt2
    have hG2' := Lib.hid hG2
    clear hbt2 hG2
    go_wp2_with fail
    go_loopw [3, 4] (fun ov iv wr => ∃ (i n : Nat) (O : List Rul) (a : Option Addr) (c : Nat), i ≤ 100 ∧ n ≤ 31 ∧ iv = .int .i64 i ∧ ov = .slice a n c ∧ GTab wr w.heap.size O a n c ∧ SrcOk wr g ∧ Between g (g + 1) w wr) (fun _ iv _ => 100 - (intOf iv).toNat)
    case atStart => exact ⟨0, n, T, a, c, by omega, by omega, rfl, rfl, hG2'.out, H2.out, hbt2'.out⟩
    case round =>
      obtain ⟨i, n, O, a, c, hi, hn, rfl, rfl, hG, hs, hb⟩ := hrel
      obtain ⟨v, rfl⟩ := AfterC.mk hb
      have hvs := v.btw.size
      clear hb hG2' hbt2'
      replace hs := Lib.hid hs
      replace hG := Lib.hid hG
      go_wp2_with fail
      with_reducible refine (next_any g 2 _ (by (repeat (first | (with_reducible exact hs.out) | (with_reducible refine SrcOk.alloc ?_ _) | (with_reducible refine SrcOk.set ?_ ?_ _) | (with_reducible refine SrcOk.drewN ?_ _) | (with_reducible refine SrcOk.drew ?_) | (with_reducible refine SrcOk.later _ ?_) | (with_reducible refine SrcOk.after _ ?_ ?_) | (dsimp only; omega) | omega | ((try simp only [World.size_alloc, World.size_setCell, World.size_drew]); omega))))).mono ?_
      rintro e w' ⟨x, hdraw, rfl, z3, rfl, hsrc⟩
      have H3 := Lib.hid hsrc
      have hs3 := z3.btw.size
      clear hsrc
      obtain ⟨x0, x1⟩ := hdraw
      have hG3 : GTab z3.w w.heap.size O a n c := hG.out.after z3 hg'
      by_cases hlt : (n : Int) < 30 + x
      · by_cases hi2 : i < 100
        · have hi3 : (i : Int) < 100 := by omega
          obtain ⟨hGl, hGo, vs, hv, hrows⟩ := hG3
          obtain ⟨gg, gg', hg0, hgg, hg1, hog, hgl, hgo, -⟩ := own_tight hv
          have hg2 : gg' ≤ z3.w.heap.size := Nat.le_trans hg1 (Nat.max_le.2 ⟨by omega, Nat.le_refl _⟩)
          have hvl : vs.length = n * 2 := hv.1
          replace hog := Lib.hid hog
          replace hgo := Lib.hid hgo
          replace hrows := Lib.hid hrows
          replace hGo := Lib.hid hGo
          replace hGl := Lib.hid hGl
          clear hv
          go_wp2_with (at_builtin; (refine wpList_append_apart _ rfl _ _ _ rfl 57 ii _ 2 40 Tryz.underlying24 Jii.out.1 Jii.out.2.1 Jii.out.2.2.1 Jii.out.2.2.2 rfl (by decide) (gg) (gg') ?qb9 _ _ _ (vs) rfl ?qb10 ?qb16 _ _ _ (ruleV (some ⟨z3.w.heap.size, 0, none⟩) 3 ⟨[9, (i : Int) % 20, (i : Int) / 20], ⟨#[]⟩⟩) rfl ?qb11 ?qb12 ?qb13 ?qb14 ?qb15 ?_); (case qb9 => (first | (dsimp only; omega) | omega | (simp only [World.size_alloc, World.size_setCell, World.size_drew]; omega))); (case qb10 => exact own_bel hog.out (by (repeat (first | (with_reducible exact Below.refl _ _) | (with_reducible assumption) | (with_reducible refine Later.out _ ?_) | (with_reducible refine bel_alloc ?_ _) | (with_reducible refine bel_drew ?_) | (with_reducible refine bel_drewN ?_ _) | (with_reducible refine bel_set ?_ ?_ _) | (with_reducible refine After.out _ ?_ ?_) | (dsimp only; omega) | omega | (simp only [World.size_alloc, World.size_setCell, World.size_drew]; omega))))); (case qb16 => exact hgl); (case qb11 => (first | rfl | (simp [boolCells]; done) | (simp [intCells]; done) | (simp; done) | (first | omega | (simp only [List.length_append, List.length_cons, List.length_nil]; omega)))); (case qb12 => exact Row.madeAt (by simp only [World.size_alloc]) rfl); (case qb13 => exact one_ruleV _ _ _); (case qb14 => (unfold maxLen; (first | omega | (simp only [List.length_append, List.length_cons, List.length_nil]; omega)))); (case qb15 => (first | omega | (simp only [List.length_append, List.length_cons, List.length_nil]; omega))); intro a9 c9 x9 hown9 hat9; replace hat9 := Lib.hid hat9; replace hown9 := Lib.hid hown9; have hs9 := x9.btw.size; (try simp only [World.size_alloc, World.size_setCell, World.size_drew] at hs9))
          go_roundw
          case rel =>
            refine ⟨i + 1, n + 1, O ++ [⟨[9, (i : Int) % 20, (i : Int) / 20], ⟨#[]⟩⟩], a9, c9, by omega, by omega, by go_num, rfl, ?_, ?_, ?_⟩
            · refine GTab.snoc (c := c) (w := (z3.w.alloc (.cells #[.int .i64 9, .int .i64 ((i : Int) % 20), .int .i64 ((i : Int) / 20)] 2)).alloc (.cells #[.slice (some ⟨z3.w.heap.size, 0, none⟩) 3 3, .string ⟨#[]⟩] 57)) hGl.out hGo.out (hrows.out.bel (by (repeat (first | (with_reducible exact Below.refl _ _) | (with_reducible assumption) | (with_reducible refine Later.out _ ?_) | (with_reducible refine bel_alloc ?_ _) | (with_reducible refine bel_drew ?_) | (with_reducible refine bel_drewN ?_ _) | (with_reducible refine bel_set ?_ ?_ _) | (with_reducible refine After.out _ ?_ ?_) | (dsimp only; omega) | omega | (simp only [World.size_alloc, World.size_setCell, World.size_drew]; omega))))) hvl hgo.out x9.btw hown9.out hg0 hat9.out ⟨by simp, Nat.zero_le 64⟩ ?_ (by simp) (by unfold maxLen; omega) fun p hp => ?_
              · exact (Row.madeAt (w := z3.w) (cs := #[.int .i64 9, .int .i64 ((i : Int) % 20), .int .i64 ((i : Int) / 20)]) (e := 2) rfl (by simp [intCells])).bel (by (repeat (first | (with_reducible exact Below.refl _ _) | (with_reducible assumption) | (with_reducible refine Later.out _ ?_) | (with_reducible refine bel_alloc ?_ _) | (with_reducible refine bel_drew ?_) | (with_reducible refine bel_drewN ?_ _) | (with_reducible refine bel_set ?_ ?_ _) | (with_reducible refine After.out _ ?_ ?_) | (dsimp only; omega) | omega | (simp only [World.size_alloc, World.size_setCell, World.size_drew]; omega))))
              · cases hp
                dsimp only
                refine ⟨by omega, by simp only [World.size_alloc]; omega, fun q hq => ?_⟩
                have h3 := (hog.out.lt q.block (by rw [hq]; rfl)).2
                omega
            · (repeat (first | (with_reducible exact H3.out) | (with_reducible refine SrcOk.alloc ?_ _) | (with_reducible refine SrcOk.set ?_ ?_ _) | (with_reducible refine SrcOk.drewN ?_ _) | (with_reducible refine SrcOk.drew ?_) | (with_reducible refine SrcOk.later _ ?_) | (with_reducible refine SrcOk.after _ ?_ ?_) | (dsimp only; omega) | omega | ((try simp only [World.size_alloc, World.size_setCell, World.size_drew]); omega)))
            · (repeat (first | (with_reducible exact Between.refl _ _ _) | (with_reducible refine Between.drew ?_) | (with_reducible refine Between.drewN ?_ _) | (with_reducible refine btw_own ?_ ?_ _) | (with_reducible refine btw_later _ ?_) | (with_reducible refine btw_alloc ?_ _) | (with_reducible refine btw_after _ ?_) | (with_reducible refine btw_beyond _ ?_ ?_) | (with_reducible refine Aft.btw _ ?_ ?_) | (with_reducible assumption) | (dsimp only; omega) | omega | ((try simp only [World.size_alloc, World.size_setCell, World.size_drew]); omega)))
          case measure => simp [intOf]; omega
        · obtain rfl : i = 100 := by omega
          replace hG3 := Lib.hid hG3
          go_wp2_with fail
          go_ret
          exact RetTabR.of rfl (by omega) (by (repeat (first | (with_reducible exact Between.refl _ _ _) | (with_reducible refine Between.drew ?_) | (with_reducible refine Between.drewN ?_ _) | (with_reducible refine btw_own ?_ ?_ _) | (with_reducible refine btw_later _ ?_) | (with_reducible refine btw_alloc ?_ _) | (with_reducible refine btw_after _ ?_) | (with_reducible refine btw_beyond _ ?_ ?_) | (with_reducible refine Aft.btw _ ?_ ?_) | (with_reducible assumption) | (dsimp only; omega) | omega | ((try simp only [World.size_alloc, World.size_setCell, World.size_drew]); omega)))) (by (repeat (first | (with_reducible exact H3.out) | (with_reducible refine SrcOk.alloc ?_ _) | (with_reducible refine SrcOk.set ?_ ?_ _) | (with_reducible refine SrcOk.drewN ?_ _) | (with_reducible refine SrcOk.drew ?_) | (with_reducible refine SrcOk.later _ ?_) | (with_reducible refine SrcOk.after _ ?_ ?_) | (dsimp only; omega) | omega | ((try simp only [World.size_alloc, World.size_setCell, World.size_drew]); omega)))) hG3.out
      · replace hG3 := Lib.hid hG3
        go_wp2_with fail
        go_ret
        exact RetTabR.of rfl (by omega) (by (repeat (first | (with_reducible exact Between.refl _ _ _) | (with_reducible refine Between.drew ?_) | (with_reducible refine Between.drewN ?_ _) | (with_reducible refine btw_own ?_ ?_ _) | (with_reducible refine btw_later _ ?_) | (with_reducible refine btw_alloc ?_ _) | (with_reducible refine btw_after _ ?_) | (with_reducible refine btw_beyond _ ?_ ?_) | (with_reducible refine Aft.btw _ ?_ ?_) | (with_reducible assumption) | (dsimp only; omega) | omega | ((try simp only [World.size_alloc, World.size_setCell, World.size_drew]); omega)))) (by (repeat (first | (with_reducible exact H3.out) | (with_reducible refine SrcOk.alloc ?_ _) | (with_reducible refine SrcOk.set ?_ ?_ _) | (with_reducible refine SrcOk.drewN ?_ _) | (with_reducible refine SrcOk.drew ?_) | (with_reducible refine SrcOk.later _ ?_) | (with_reducible refine SrcOk.after _ ?_ ?_) | (dsimp only; omega) | omega | ((try simp only [World.size_alloc, World.size_setCell, World.size_drew]); omega)))) hG3.out
  · have ht0 : (t == 0) = false := by simp; omega
    have ht1 : (t == 1) = false := by simp; omega
    have ht2 : (t == 2) = false := by simp; omega
    replace hG2 := Lib.hid hG2
    go_wp2_with fail
    go_ret
    exact RetTabR.of rfl (by omega) (by (repeat (first | (with_reducible exact Between.refl _ _ _) | (with_reducible refine Between.drew ?_) | (with_reducible refine Between.drewN ?_ _) | (with_reducible refine btw_own ?_ ?_ _) | (with_reducible refine btw_later _ ?_) | (with_reducible refine btw_alloc ?_ _) | (with_reducible refine btw_after _ ?_) | (with_reducible refine btw_beyond _ ?_ ?_) | (with_reducible refine Aft.btw _ ?_ ?_) | (with_reducible assumption) | (dsimp only; omega) | omega | ((try simp only [World.size_alloc, World.size_setCell, World.size_drew]); omega)))) (by (repeat (first | (with_reducible exact H2.out) | (with_reducible refine SrcOk.alloc ?_ _) | (with_reducible refine SrcOk.set ?_ ?_ _) | (with_reducible refine SrcOk.drewN ?_ _) | (with_reducible refine SrcOk.drew ?_) | (with_reducible refine SrcOk.later _ ?_) | (with_reducible refine SrcOk.after _ ?_ ?_) | (dsimp only; omega) | omega | ((try simp only [World.size_alloc, World.size_setCell, World.size_drew]); omega)))) hG2.out
set_option maxRecDepth 8000 in
set_option maxHeartbeats 8000000 in
theorem sGood5_any (g : Nat) (w : World) (h : SrcOk w g) : Calls Tryz.prog 20 #[.pointer (some ⟨g, 0, none⟩)] w (RetTabR w g) := by
  have hg := h.lt
  have hg' : g + 1 ≤ w.heap.size := hg
  have H0 := Lib.hid h
  obtain ⟨ii, j1, j2, j3, j4⟩ := info_rule'
  have Jii := Lib.hid (And.intro j1 (And.intro j2 (And.intro j3 j4)))
  clear h j1 j2 j3 j4
  go_enter Tryz.func20, Tryz.ntmps20
  go_wp2_with fail
  with_reducible refine (next_any g 2 _ (by (repeat (first | (with_reducible exact H0.out) | (with_reducible refine SrcOk.alloc ?_ _) | (with_reducible refine SrcOk.set ?_ ?_ _) | (with_reducible refine SrcOk.drewN ?_ _) | (with_reducible refine SrcOk.drew ?_) | (with_reducible refine SrcOk.later _ ?_) | (with_reducible refine SrcOk.after _ ?_ ?_) | (dsimp only; omega) | omega | ((try simp only [World.size_alloc, World.size_setCell, World.size_drew]); omega))))).mono ?_
  rintro e w' ⟨t, hdraw, rfl, z1, rfl, hsrc⟩
  have hsz1 := z1.btw.size
  (try simp only [World.size_alloc, World.size_setCell, World.size_drew] at hsz1)
  have H1 := Lib.hid hsrc
  clear hsrc
  obtain ⟨t0, t1⟩ := hdraw
  by_cases ht : t = 0
  · subst ht
    go_wp2_with fail
    with_reducible refine (sDraw4_any g _ (by (repeat (first | (with_reducible exact H1.out) | (with_reducible refine SrcOk.alloc ?_ _) | (with_reducible refine SrcOk.set ?_ ?_ _) | (with_reducible refine SrcOk.drewN ?_ _) | (with_reducible refine SrcOk.drew ?_) | (with_reducible refine SrcOk.later _ ?_) | (with_reducible refine SrcOk.after _ ?_ ?_) | (dsimp only; omega) | omega | ((try simp only [World.size_alloc, World.size_setCell, World.size_drew]); omega))))).mono ?_
    rintro e w' ⟨T, a, n, c, rfl, hl, h64, hnc, hcm, hok, z2, rfl, hsrc, hR⟩
    have H2 := Lib.hid hsrc
    have hs2 := z2.btw.size
    clear hsrc
    replace hR := Lib.hid hR
    replace hok := Lib.hid hok
    replace hl := Lib.hid hl
    go_wp2_with fail
    go_ret
    have hbt : Between g (g + 1) w z2.w := by (repeat (first | (with_reducible exact Between.refl _ _ _) | (with_reducible refine Between.drew ?_) | (with_reducible refine Between.drewN ?_ _) | (with_reducible refine btw_own ?_ ?_ _) | (with_reducible refine btw_later _ ?_) | (with_reducible refine btw_alloc ?_ _) | (with_reducible refine btw_after _ ?_) | (with_reducible refine btw_beyond _ ?_ ?_) | (with_reducible refine Aft.btw _ ?_ ?_) | (with_reducible assumption) | (dsimp only; omega) | omega | ((try simp only [World.size_alloc, World.size_setCell, World.size_drew]); omega)))
    exact ⟨T, a, n, c, rfl, hl.out, h64, hnc, hcm, hok.out, ⟨z2.w, hbt⟩, rfl, H2.out, hR.out.wide (by omega)⟩
  · have ht0 : (t == 0) = false := by simpa using ht
    have hw1 : w.heap.size ≤ z1.w.heap.size := by omega
    have hg1 : g < z1.w.heap.size := by omega
    go_wp2_with fail
    with_reducible refine (next_any g 5 _ (by (repeat (first | (with_reducible exact H1.out) | (with_reducible refine SrcOk.alloc ?_ _) | (with_reducible refine SrcOk.set ?_ ?_ _) | (with_reducible refine SrcOk.drewN ?_ _) | (with_reducible refine SrcOk.drew ?_) | (with_reducible refine SrcOk.later _ ?_) | (with_reducible refine SrcOk.after _ ?_ ?_) | (dsimp only; omega) | omega | ((try simp only [World.size_alloc, World.size_setCell, World.size_drew]); omega))))).mono ?_
    rintro e w' ⟨x, hdraw, rfl, z2, rfl, hsrc⟩
    have hsz2 := z2.btw.size
    (try simp only [World.size_alloc, World.size_setCell, World.size_drew] at hsz2)
    have H2 := Lib.hid hsrc
    clear hsrc
    obtain ⟨x0, x1⟩ := hdraw
    obtain ⟨k, rfl⟩ := Int.eq_ofNat_of_zero_le x0
    have hk5 : k < 5 := by omega
    have hk5' : (k : Int) < 5 := by omega
    have hz2 : z1.w.heap.size + 1 + 1 + 1 + 1 + 1 + 1 ≤ z2.w.heap.size := by omega
    have hsel : ∃ b, z2.w.cell? ⟨z1.w.heap.size + 1 + 1 + 1 + 1 + 1, k, none⟩ = some (.slice (some ⟨b, 0, none⟩) 5 5) ∧ TxtB z2.w b 5 ∧ z1.w.heap.size ≤ b := by
      rcases (show k = 0 ∨ k = 1 ∨ k = 2 ∨ k = 3 ∨ k = 4 by omega) with rfl | rfl | rfl | rfl | rfl
      · refine ⟨z1.w.heap.size, by simp [go_sem, ↓IntWalk.iteOmega], ⟨by omega, fun j hj => ?_⟩, by omega⟩
        rcases (show j = 0 ∨ j = 1 ∨ j = 2 ∨ j = 3 ∨ j = 4 by omega) with rfl | rfl | rfl | rfl | rfl <;> exact ⟨_, by simp [go_sem, ↓IntWalk.iteOmega]; rfl, by decide⟩
      · refine ⟨z1.w.heap.size + 1, by simp [go_sem, ↓IntWalk.iteOmega], ⟨by omega, fun j hj => ?_⟩, by omega⟩
        rcases (show j = 0 ∨ j = 1 ∨ j = 2 ∨ j = 3 ∨ j = 4 by omega) with rfl | rfl | rfl | rfl | rfl <;> exact ⟨_, by simp [go_sem, ↓IntWalk.iteOmega]; rfl, by decide⟩
      · refine ⟨z1.w.heap.size + 1 + 1, by simp [go_sem, ↓IntWalk.iteOmega], ⟨by omega, fun j hj => ?_⟩, by omega⟩
        rcases (show j = 0 ∨ j = 1 ∨ j = 2 ∨ j = 3 ∨ j = 4 by omega) with rfl | rfl | rfl | rfl | rfl <;> exact ⟨_, by simp [go_sem, ↓IntWalk.iteOmega]; rfl, by decide⟩
      · refine ⟨z1.w.heap.size + 1 + 1 + 1, by simp [go_sem, ↓IntWalk.iteOmega], ⟨by omega, fun j hj => ?_⟩, by omega⟩
        rcases (show j = 0 ∨ j = 1 ∨ j = 2 ∨ j = 3 ∨ j = 4 by omega) with rfl | rfl | rfl | rfl | rfl <;> exact ⟨_, by simp [go_sem, ↓IntWalk.iteOmega]; rfl, by decide⟩
      · refine ⟨z1.w.heap.size + 1 + 1 + 1 + 1, by simp [go_sem, ↓IntWalk.iteOmega], ⟨by omega, fun j hj => ?_⟩, by omega⟩
        rcases (show j = 0 ∨ j = 1 ∨ j = 2 ∨ j = 3 ∨ j = 4 by omega) with rfl | rfl | rfl | rfl | rfl <;> exact ⟨_, by simp [go_sem, ↓IntWalk.iteOmega]; rfl, by decide⟩
    obtain ⟨b, hbc, hbT, hb1⟩ := hsel
    have hbl := hbT.1
    have hbt2 : Between g (g + 1) w z2.w := by (repeat (first | (with_reducible exact Between.refl _ _ _) | (with_reducible refine Between.drew ?_) | (with_reducible refine Between.drewN ?_ _) | (with_reducible refine btw_own ?_ ?_ _) | (with_reducible refine btw_later _ ?_) | (with_reducible refine btw_alloc ?_ _) | (with_reducible refine btw_after _ ?_) | (with_reducible refine btw_beyond _ ?_ ?_) | (with_reducible refine Aft.btw _ ?_ ?_) | (with_reducible assumption) | (dsimp only; omega) | omega | ((try simp only [World.size_alloc, World.size_setCell, World.size_drew]); omega)))
    have HO := Lib.hid (World.ownsRow_lit (base := z2.w.heap.size) (e := 57) (size := 2) z2.w #[] 0 (Nat.le_refl _) (by unfold maxLen; omega) rfl)
    have hT2 := Lib.hid (hbT.alloc (.cells #[] 57))
    replace hbt2 := Lib.hid hbt2
    have hS2 := Lib.hid (show SrcOk (z2.w.alloc (.cells #[] 57)) g by (repeat (first | (with_reducible exact H2.out) | (with_reducible refine SrcOk.alloc ?_ _) | (with_reducible refine SrcOk.set ?_ ?_ _) | (with_reducible refine SrcOk.drewN ?_ _) | (with_reducible refine SrcOk.drew ?_) | (with_reducible refine SrcOk.later _ ?_) | (with_reducible refine SrcOk.after _ ?_ ?_) | (dsimp only; omega) | omega | ((try simp only [World.size_alloc, World.size_setCell, World.size_drew]); omega))))
    have hg2' : g < z2.w.heap.size := by omega
    clear H1 H2 hbT
    go_wp2_with fail
    go_loopw [5, 6] (fun ov iv wr => ∃ (i : Nat) (O : List Rul) (a : Option Addr) (c : Nat), i ≤ 5 ∧ iv = .int .i64 i ∧ ov = .slice a i c ∧ GTab wr z2.w.heap.size O a i c ∧ TxtB wr b 5 ∧ SrcOk wr g ∧ Between g (g + 1) z2.w wr) (fun _ iv _ => 5 - (intOf iv).toNat)
    case atStart => exact ⟨0, [], _, _, by omega, rfl, rfl, GTab.nil HO.out, hT2.out, hS2.out, by (repeat (first | (with_reducible exact Between.refl _ _ _) | (with_reducible refine Between.drew ?_) | (with_reducible refine Between.drewN ?_ _) | (with_reducible refine btw_own ?_ ?_ _) | (with_reducible refine btw_later _ ?_) | (with_reducible refine btw_alloc ?_ _) | (with_reducible refine btw_after _ ?_) | (with_reducible refine btw_beyond _ ?_ ?_) | (with_reducible refine Aft.btw _ ?_ ?_) | (with_reducible assumption) | (dsimp only; omega) | omega | ((try simp only [World.size_alloc, World.size_setCell, World.size_drew]); omega)))⟩
    case round =>
      obtain ⟨i, O, a, c, hi, rfl, rfl, hG, hT, hs, hb⟩ := hrel
      obtain ⟨v, rfl⟩ := AfterC.mk hb
      have hvs := v.btw.size
      (try simp only [World.size_alloc] at hvs)
      clear hb hT2 hS2
      replace hs := Lib.hid hs
      by_cases hlt : i < 5
      · have hi1 : (i : Int) < 5 := by omega
        obtain ⟨s, hsc, hs64⟩ := hT.2 i hlt
        have hTl := hT.1
        obtain ⟨hGl, hGo, vs, hv, hrows⟩ := hG
        obtain ⟨gg, gg', hg0, hgg, hg1, hog, hgl, hgo, -⟩ := own_tight hv
        have hg2 : gg' ≤ v.w.heap.size := Nat.le_trans hg1 (Nat.max_le.2 ⟨by omega, Nat.le_refl _⟩)
        have hvl : vs.length = i * 2 := hv.1
        have hTg : b < gg ∨ gg' ≤ b := .inl (by omega)
        have hgv : g < v.w.heap.size := by omega
        replace hog := Lib.hid hog
        replace hgo := Lib.hid hgo
        replace hrows := Lib.hid hrows
        replace hGo := Lib.hid hGo
        replace hGl := Lib.hid hGl
        replace hT := Lib.hid hT
        clear hv
        go_wp2_with (at_builtin; (refine wpList_append_apart _ rfl _ _ _ rfl 57 ii _ 2 40 Tryz.underlying24 Jii.out.1 Jii.out.2.1 Jii.out.2.2.1 Jii.out.2.2.2 rfl (by decide) (gg) (gg') ?qb17 _ _ _ (vs) rfl ?qb18 ?qb24 _ _ _ (ruleV (some ⟨v.w.heap.size, 0, none⟩) 1 ⟨[(i : Int)], s⟩) rfl ?qb19 ?qb20 ?qb21 ?qb22 ?qb23 ?_); (case qb17 => (first | (dsimp only; omega) | omega | (simp only [World.size_alloc, World.size_setCell, World.size_drew]; omega))); (case qb18 => exact own_bel hog.out (by (repeat (first | (with_reducible exact Below.refl _ _) | (with_reducible assumption) | (with_reducible refine Later.out _ ?_) | (with_reducible refine bel_alloc ?_ _) | (with_reducible refine bel_drew ?_) | (with_reducible refine bel_drewN ?_ _) | (with_reducible refine bel_set ?_ ?_ _) | (with_reducible refine After.out _ ?_ ?_) | (dsimp only; omega) | omega | (simp only [World.size_alloc, World.size_setCell, World.size_drew]; omega))))); (case qb24 => exact hgl); (case qb19 => (first | rfl | (simp [boolCells]; done) | (simp [intCells]; done) | (simp; done) | (first | omega | (simp only [List.length_append, List.length_cons, List.length_nil]; omega)))); (case qb20 => exact Row.madeAt (by simp only [World.size_alloc]) rfl); (case qb21 => exact one_ruleV _ _ _); (case qb22 => (unfold maxLen; (first | omega | (simp only [List.length_append, List.length_cons, List.length_nil]; omega)))); (case qb23 => (first | omega | (simp only [List.length_append, List.length_cons, List.length_nil]; omega))); intro a9 c9 x9 hown9 hat9; replace hat9 := Lib.hid hat9; replace hown9 := Lib.hid hown9; have hs9 := x9.btw.size; (try simp only [World.size_alloc, World.size_setCell, World.size_drew] at hs9))
        go_roundw
        case rel =>
          refine ⟨i + 1, O ++ [⟨[(i : Int)], s⟩], a9, c9, by omega, by go_num, rfl, ?_, ?_, ?_, ?_⟩
          · refine GTab.snoc (c := c) (w := (v.w.alloc (.cells #[.int .i64 (i : Int)] 2)).alloc (.cells #[.slice (some ⟨v.w.heap.size, 0, none⟩) 1 1, .string s] 57)) hGl.out hGo.out (hrows.out.bel (by (repeat (first | (with_reducible exact Below.refl _ _) | (with_reducible assumption) | (with_reducible refine Later.out _ ?_) | (with_reducible refine bel_alloc ?_ _) | (with_reducible refine bel_drew ?_) | (with_reducible refine bel_drewN ?_ _) | (with_reducible refine bel_set ?_ ?_ _) | (with_reducible refine After.out _ ?_ ?_) | (dsimp only; omega) | omega | (simp only [World.size_alloc, World.size_setCell, World.size_drew]; omega))))) hvl hgo.out x9.btw hown9.out hg0 hat9.out ⟨by simp, hs64⟩ ?_ (by simp) (by unfold maxLen; omega) fun p hp => ?_
            · exact (Row.madeAt (w := v.w) (cs := #[.int .i64 (i : Int)]) (e := 2) rfl (by simp [intCells])).bel (by (repeat (first | (with_reducible exact Below.refl _ _) | (with_reducible assumption) | (with_reducible refine Later.out _ ?_) | (with_reducible refine bel_alloc ?_ _) | (with_reducible refine bel_drew ?_) | (with_reducible refine bel_drewN ?_ _) | (with_reducible refine bel_set ?_ ?_ _) | (with_reducible refine After.out _ ?_ ?_) | (dsimp only; omega) | omega | (simp only [World.size_alloc, World.size_setCell, World.size_drew]; omega))))
            · cases hp
              dsimp only
              refine ⟨by omega, by simp only [World.size_alloc]; omega, fun q hq => ?_⟩
              have h3 := (hog.out.lt q.block (by rw [hq]; rfl)).2
              omega
          · exact ((hT.out.alloc _).alloc _).after x9 hTg
          · (repeat (first | (with_reducible exact hs.out) | (with_reducible refine SrcOk.alloc ?_ _) | (with_reducible refine SrcOk.set ?_ ?_ _) | (with_reducible refine SrcOk.drewN ?_ _) | (with_reducible refine SrcOk.drew ?_) | (with_reducible refine SrcOk.later _ ?_) | (with_reducible refine SrcOk.after _ ?_ ?_) | (dsimp only; omega) | omega | ((try simp only [World.size_alloc, World.size_setCell, World.size_drew]); omega)))
          · (repeat (first | (with_reducible exact Between.refl _ _ _) | (with_reducible refine Between.drew ?_) | (with_reducible refine Between.drewN ?_ _) | (with_reducible refine btw_own ?_ ?_ _) | (with_reducible refine btw_later _ ?_) | (with_reducible refine btw_alloc ?_ _) | (with_reducible refine btw_after _ ?_) | (with_reducible refine btw_beyond _ ?_ ?_) | (with_reducible refine Aft.btw _ ?_ ?_) | (with_reducible assumption) | (dsimp only; omega) | omega | ((try simp only [World.size_alloc, World.size_setCell, World.size_drew]); omega)))
        case measure => simp [intOf]; omega
      · obtain rfl : i = 5 := by omega
        have hwv : w.heap.size ≤ v.w.heap.size := by omega
        have hgv : g < v.w.heap.size := by omega
        replace hG := Lib.hid hG
        have hbv : Between g (g + 1) w v.w := hbt2.out.trans v.btw
        clear hT hbt2
        replace hbv := Lib.hid hbv
        go_wp2_with fail
        with_reducible refine (next_any g 3 _ (by (repeat (first | (with_reducible exact hs.out) | (with_reducible refine SrcOk.alloc ?_ _) | (with_reducible refine SrcOk.set ?_ ?_ _) | (with_reducible refine SrcOk.drewN ?_ _) | (with_reducible refine SrcOk.drew ?_) | (with_reducible refine SrcOk.later _ ?_) | (with_reducible refine SrcOk.after _ ?_ ?_) | (dsimp only; omega) | omega | ((try simp only [World.size_alloc, World.size_setCell, World.size_drew]); omega))))).mono ?_
        rintro e w' ⟨x3, hdraw, rfl, z3, rfl, hsrc⟩
        have hsz3 := z3.btw.size
        (try simp only [World.size_alloc, World.size_setCell, World.size_drew] at hsz3)
        have H3 := Lib.hid hsrc
        clear hsrc
        obtain ⟨x30, x31⟩ := hdraw
        have hbv3 : Between g (g + 1) w z3.w := hbv.out.trans z3.btw
        have hG3 : GTab z3.w z2.w.heap.size O a 5 c := hG.out.after z3 (by omega)
        by_cases h3 : x3 = 0
        · subst h3
          go_wp2_with fail
          with_reducible refine (next_any g 5 _ (by (repeat (first | (with_reducible exact H3.out) | (with_reducible refine SrcOk.alloc ?_ _) | (with_reducible refine SrcOk.set ?_ ?_ _) | (with_reducible refine SrcOk.drewN ?_ _) | (with_reducible refine SrcOk.drew ?_) | (with_reducible refine SrcOk.later _ ?_) | (with_reducible refine SrcOk.after _ ?_ ?_) | (dsimp only; omega) | omega | ((try simp only [World.size_alloc, World.size_setCell, World.size_drew]); omega))))).mono ?_
          rintro e w' ⟨x4, hdraw, rfl, z4, rfl, hsrc⟩
          have hsz4 := z4.btw.size
          (try simp only [World.size_alloc, World.size_setCell, World.size_drew] at hsz4)
          have H4 := Lib.hid hsrc
          clear hsrc
          obtain ⟨x40, x41⟩ := hdraw
          go_wp2_with fail
          with_reducible refine (next_any g 5 _ (by (repeat (first | (with_reducible exact H4.out) | (with_reducible refine SrcOk.alloc ?_ _) | (with_reducible refine SrcOk.set ?_ ?_ _) | (with_reducible refine SrcOk.drewN ?_ _) | (with_reducible refine SrcOk.drew ?_) | (with_reducible refine SrcOk.later _ ?_) | (with_reducible refine SrcOk.after _ ?_ ?_) | (dsimp only; omega) | omega | ((try simp only [World.size_alloc, World.size_setCell, World.size_drew]); omega))))).mono ?_
          rintro e w' ⟨x5, hdraw, rfl, z5, rfl, hsrc⟩
          have hsz5 := z5.btw.size
          (try simp only [World.size_alloc, World.size_setCell, World.size_drew] at hsz5)
          have H5 := Lib.hid hsrc
          clear hsrc
          obtain ⟨x50, x51⟩ := hdraw
          have hG5 : GTab z5.w z2.w.heap.size O a 5 c := (hG3.after z4 (by omega)).after z5 (by omega)
          have hbv5 : Between g (g + 1) w z5.w := (hbv3.trans z4.btw).trans z5.btw
          have hg5 : g < z5.w.heap.size := by omega
          obtain ⟨hGl, hGo, vs, hv, hrows⟩ := hG5
          obtain ⟨gg, gg', hg0, hgg, hg1, hog, hgl, hgo, -⟩ := own_tight hv
          have hg2 : gg' ≤ z5.w.heap.size := Nat.le_trans hg1 (Nat.max_le.2 ⟨by omega, Nat.le_refl _⟩)
          have hvl : vs.length = 5 * 2 := hv.1
          replace hog := Lib.hid hog
          replace hgo := Lib.hid hgo
          replace hrows := Lib.hid hrows
          replace hGo := Lib.hid hGo
          replace hGl := Lib.hid hGl
          replace hbv5 := Lib.hid hbv5
          clear hv hG3 hbv3 hbv hG
          go_wp2_with fail
          with_reducible refine (next_any g 3 _ (by (repeat (first | (with_reducible exact H5.out) | (with_reducible refine SrcOk.alloc ?_ _) | (with_reducible refine SrcOk.set ?_ ?_ _) | (with_reducible refine SrcOk.drewN ?_ _) | (with_reducible refine SrcOk.drew ?_) | (with_reducible refine SrcOk.later _ ?_) | (with_reducible refine SrcOk.after _ ?_ ?_) | (dsimp only; omega) | omega | ((try simp only [World.size_alloc, World.size_setCell, World.size_drew]); omega))))).mono ?_
          rintro e w' ⟨x6, hdraw, rfl, z6, rfl, hsrc⟩
          have hsz6 := z6.btw.size
          (try simp only [World.size_alloc, World.size_setCell, World.size_drew] at hsz6)
          have H6 := Lib.hid hsrc
          clear hsrc
          obtain ⟨x60, x61⟩ := hdraw
          obtain ⟨k6, rfl⟩ := Int.eq_ofNat_of_zero_le x60
          have hk6 : k6 < 3 := by omega
          have hk6' : (k6 : Int) < 3 := by omega
          have hst : ∃ s : ByteArray, z6.w.cell? ⟨z5.w.heap.size + 1, k6, none⟩ = some (.string s) ∧ s.size ≤ 64 := by
            rcases (show k6 = 0 ∨ k6 = 1 ∨ k6 = 2 by omega) with rfl | rfl | rfl <;> exact ⟨_, by simp [go_sem, ↓IntWalk.iteOmega]; rfl, by decide⟩
          obtain ⟨s, hsc, hs64⟩ := hst
          have hb6 : Between g (g + 1) z5.w z6.w := by (repeat (first | (with_reducible exact Between.refl _ _ _) | (with_reducible refine Between.drew ?_) | (with_reducible refine Between.drewN ?_ _) | (with_reducible refine Between.set ?_ ?_ ?_ _) | (with_reducible refine btw_later _ ?_) | (with_reducible refine btw_alloc ?_ _) | (with_reducible refine btw_after _ ?_) | (with_reducible assumption) | (dsimp only; omega) | omega))
          have hrow : Row z6.w (some ⟨z5.w.heap.size, 0, none⟩) (intCells [x4, x5]) := ((Row.madeAt (w := z5.w) (cs := #[.int .i64 x4, .int .i64 x5]) (e := 2) rfl rfl).bel (show Below (z5.w.alloc (.cells #[.int .i64 x4, .int .i64 x5] 2)).heap.size _ ((z5.w.alloc (.cells #[.int .i64 x4, .int .i64 x5] 2)).alloc (.cells #[.string ⟨#[120]⟩, .string ⟨#[120, 121]⟩, .string ⟨#[121, 97]⟩] 9)) from (Below.refl _ _).alloc (Nat.le_refl _) _)).btw z6.btw fun p hp => by cases hp; exact .inr (by dsimp only; omega)
          have hV6 : RowsV z6.w z2.w.heap.size a O vs := RowsV.keep hrows.out hb6 (by omega)
          have ho6 : z6.w.ownsRow gg 57 2 (.slice a 5 c) 5 vs := own_btw hog.out hb6 fun q hq => .inr (by have := (hog.out.lt q hq).1; omega)
          have hbv6 : Between g (g + 1) w z6.w := hbv5.out.trans hb6
          replace hrow := Lib.hid hrow
          replace hV6 := Lib.hid hV6
          replace ho6 := Lib.hid ho6
          replace hbv6 := Lib.hid hbv6
          clear hb6 hbv5
          go_wp2_with (at_builtin; (refine wpList_append_apart _ rfl _ _ _ rfl 57 ii _ 2 40 Tryz.underlying24 Jii.out.1 Jii.out.2.1 Jii.out.2.2.1 Jii.out.2.2.2 rfl (by decide) (gg) (gg') ?qb25 _ _ _ (vs) rfl ?qb26 ?qb32 _ _ _ (ruleV (some ⟨z5.w.heap.size, 0, none⟩) 2 ⟨[x4, x5], s⟩) rfl ?qb27 ?qb28 ?qb29 ?qb30 ?qb31 ?_); (case qb25 => (first | (dsimp only; omega) | omega | (simp only [World.size_alloc, World.size_setCell, World.size_drew]; omega))); (case qb26 => exact own_bel ho6.out (by (repeat (first | (with_reducible exact Below.refl _ _) | (with_reducible assumption) | (with_reducible refine Later.out _ ?_) | (with_reducible refine bel_alloc ?_ _) | (with_reducible refine bel_drew ?_) | (with_reducible refine bel_drewN ?_ _) | (with_reducible refine bel_set ?_ ?_ _) | (with_reducible refine After.out _ ?_ ?_) | (dsimp only; omega) | omega | (simp only [World.size_alloc, World.size_setCell, World.size_drew]; omega))))); (case qb32 => exact hgl); (case qb27 => (first | rfl | (simp [boolCells]; done) | (simp [intCells]; done) | (simp; done) | (first | omega | (simp only [List.length_append, List.length_cons, List.length_nil]; omega)))); (case qb28 => exact Row.madeAt (by simp only [World.size_alloc]) rfl); (case qb29 => exact one_ruleV _ _ _); (case qb30 => (unfold maxLen; (first | omega | (simp only [List.length_append, List.length_cons, List.length_nil]; omega)))); (case qb31 => (first | omega | (simp only [List.length_append, List.length_cons, List.length_nil]; omega))); intro a9 c9 x9 hown9 hat9; replace hat9 := Lib.hid hat9; replace hown9 := Lib.hid hown9; have hs9 := x9.btw.size; (try simp only [World.size_alloc, World.size_setCell, World.size_drew] at hs9))
          go_ret
          have hbv9 : Between g (g + 1) w x9.w := by
            have h1 := hbv6.out
            (repeat (first | (with_reducible exact Between.refl _ _ _) | (with_reducible refine Between.drew ?_) | (with_reducible refine Between.drewN ?_ _) | (with_reducible refine btw_own ?_ ?_ _) | (with_reducible refine btw_later _ ?_) | (with_reducible refine btw_alloc ?_ _) | (with_reducible refine btw_after _ ?_) | (with_reducible refine btw_beyond _ ?_ ?_) | (with_reducible refine Aft.btw _ ?_ ?_) | (with_reducible assumption) | (dsimp only; omega) | omega | ((try simp only [World.size_alloc, World.size_setCell, World.size_drew]); omega)))
          refine RetTabR.of (T := O ++ [⟨[x4, x5], s⟩]) rfl (by omega) hbv9 (by (repeat (first | (with_reducible exact H6.out) | (with_reducible refine SrcOk.alloc ?_ _) | (with_reducible refine SrcOk.set ?_ ?_ _) | (with_reducible refine SrcOk.drewN ?_ _) | (with_reducible refine SrcOk.drew ?_) | (with_reducible refine SrcOk.later _ ?_) | (with_reducible refine SrcOk.after _ ?_ ?_) | (dsimp only; omega) | omega | ((try simp only [World.size_alloc, World.size_setCell, World.size_drew]); omega)))) ?_
          refine GTab.wide (lo := z2.w.heap.size) ?_ (by omega)
          refine GTab.snoc (c := c) (w := z6.w.alloc (.cells #[.slice (some ⟨z5.w.heap.size, 0, none⟩) 2 2, .string s] 57)) hGl.out hGo.out (hV6.out.bel (by (repeat (first | (with_reducible exact Below.refl _ _) | (with_reducible assumption) | (with_reducible refine Later.out _ ?_) | (with_reducible refine bel_alloc ?_ _) | (with_reducible refine bel_drew ?_) | (with_reducible refine bel_drewN ?_ _) | (with_reducible refine bel_set ?_ ?_ _) | (with_reducible refine After.out _ ?_ ?_) | (dsimp only; omega) | omega | (simp only [World.size_alloc, World.size_setCell, World.size_drew]; omega))))) hvl hgo.out x9.btw hown9.out hg0 hat9.out ⟨by simp, hs64⟩ (hrow.out.bel (by (repeat (first | (with_reducible exact Below.refl _ _) | (with_reducible assumption) | (with_reducible refine Later.out _ ?_) | (with_reducible refine bel_alloc ?_ _) | (with_reducible refine bel_drew ?_) | (with_reducible refine bel_drewN ?_ _) | (with_reducible refine bel_set ?_ ?_ _) | (with_reducible refine After.out _ ?_ ?_) | (dsimp only; omega) | omega | (simp only [World.size_alloc, World.size_setCell, World.size_drew]; omega))))) (by simp) (by unfold maxLen; omega) fun p hp => ?_
          cases hp
          dsimp only
          refine ⟨by omega, by simp only [World.size_alloc]; omega, fun q hq => ?_⟩
          have h3 := (hog.out.lt q.block (by rw [hq]; rfl)).2
          omega
        · have h30 : (x3 == 0) = false := by simpa using h3
          replace hG3 := Lib.hid hG3
          replace hbv3 := Lib.hid hbv3
          go_wp2_with fail
          go_ret
          exact RetTabR.of rfl (by omega) hbv3.out (by (repeat (first | (with_reducible exact H3.out) | (with_reducible refine SrcOk.alloc ?_ _) | (with_reducible refine SrcOk.set ?_ ?_ _) | (with_reducible refine SrcOk.drewN ?_ _) | (with_reducible refine SrcOk.drew ?_) | (with_reducible refine SrcOk.later _ ?_) | (with_reducible refine SrcOk.after _ ?_ ?_) | (dsimp only; omega) | omega | ((try simp only [World.size_alloc, World.size_setCell, World.size_drew]); omega)))) (hG3.out.wide (by omega))
end Go.Proofs.YtemfhcmeeldngaaGreatDoor

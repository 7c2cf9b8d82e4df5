import Derived.Test.YtklcaphkfdlipaaGreatDoorPackVa
import Derived.Test.YtklcaphkfdlipaaGreatDoorPackVk
/- The draw of good maps: some rings. -/
set_option linter.unusedSimpArgs false
set_option linter.unusedVariables false
namespace Go.Proofs.YtklcaphkfdlipaaGreatDoor
open Go.RowKit
/-- Some rings, in memory of the draw's own. -/
def RetRgD (w : World) (g m : Nat) (e : Ending) (w' : World) : Prop :=
  ∃ (T : List (List Pt)) (a : Option Addr) (n c : Nat), e = .returned (.slice a n c) ∧ n ≤ m ∧ GRg w' w.heap.size T a n c ∧ ∃ z : After w g (g + 1), w' = z.w ∧ SrcOk z.w g
/-- Numbers, in six blocks. -/
def NumsAt (w wx : World) (b : Nat) : Prop := ∀ r : Nat, r < 6 → ∃ (c : Nat) (l : List Int), wx.cell? ⟨b, r, none⟩ = some (.slice (some ⟨c, 0, none⟩) l.length l.length) ∧ Row wx (some ⟨c, 0, none⟩) (intCells l) ∧ l.length ≤ 12 ∧ (∀ x ∈ l, -5 ≤ x ∧ x ≤ 25) ∧ w.heap.size ≤ c
theorem row_blockI {w : World} {g : Nat} {cs : Array Value} {e : TypeId} {fr : Nat × Nat} {L : List Int} (h : w.heap[g]? = some (.cells cs e fr)) (hx : intCells L = cs.toList) : Row w (some ⟨g, 0, none⟩) (intCells L) :=
  Row.at_block h fun j v hj => by rw [hx] at hj; simpa using hj
theorem grg_own {w : World} {lo n c g : Nat} {a : Option Addr} {vs : List Value} (h : Owns w lo g 83 1 n a c vs) (hl : lo ≤ g) :
    ∃ p p', lo ≤ p ∧ p ≤ p' ∧ p' ≤ g ∧ Owns w p p' 83 1 n a c vs ∧ (∀ k, p ≤ k → k < p' → ∃ q : Addr, a = some q ∧ q.block = k) := by
  obtain ⟨p, p', h1, h2, h3, h4, h5⟩ := own_tight h hl
  exact ⟨p, p', h1, h2, h3, h4, fun k hk hk' => ⟨_, own_zero2 h4 (h5 k hk hk'), rfl⟩⟩
theorem info_sp' : ∃ i, Tryz.prog.info? 83 = some i ∧ i.zero = some (.slice none 0 0) ∧ i.size = 1 ∧ i.bytes = 24 := by
  have h := info_pts
  cases hi : Tryz.prog.info? 83 with
  | none => rw [hi] at h; cases h
  | some i =>
    rw [hi] at h
    simp only [Option.map_some, Option.some.injEq, Prod.mk.injEq] at h
    exact ⟨i, rfl, h.1, h.2.1, h.2.2⟩
theorem btw_over {w W W' : World} {g g' p p' : Nat} (h0 : Between g g' w W) (h : Between p p' W W') (hp : w.heap.size ≤ p) : Between g g' w W' :=
  ⟨h.os.trans h0.os, h.tape.trans h0.tape, h.output.trans h0.output, Nat.le_trans h0.size h.size, fun k hk ho => (h.block k (Nat.lt_of_lt_of_le hk h0.size) (.inl (by omega))).trans (h0.block k hk ho)⟩
theorem one_sp (a : Option Addr) (n c : Nat) : ∀ u ∈ [Value.slice a n c], u.oneCell' = true := by
  intro u hu
  rw [List.mem_singleton.1 hu]; rfl
set_option maxRecDepth 8000 in
set_option maxHeartbeats 8000000 in
theorem l17Good_any (g : Nat) (w : World) (h : SrcOk w g) : Calls Tryz.prog 120 #[.pointer (some ⟨g, 0, none⟩)] w (RetRgD w g 6) := by
  have hg := h.lt
  have H0 := Lib.hid h
  clear h
  go_enter Tryz.func120, Tryz.ntmps120
  go_upto_region 1 with fail
  go_cut [3] from 10 to 67 (fun t3 wx => ∃ b, t3 = .slice (some ⟨b, 0, none⟩) 6 6 ∧ w.heap.size ≤ b ∧ NumsAt w wx b ∧ Below w.heap.size w wx)
  case first =>
    go_wp2_with fail
    go_meet
    refine ⟨_, rfl, by (try simp only [World.size_alloc]); omega, ?_, bb⟩
    intro r hr
    rcases (show r = 0 ∨ r = 1 ∨ r = 2 ∨ r = 3 ∨ r = 4 ∨ r = 5 by omega) with rfl | rfl | rfl | rfl | rfl | rfl
    · exact ⟨w.heap.size, [0, 0, 4, 0, 4, 4, 0, 4], by simp [go_sem, ↓IntWalk.iteOmega], row_blockI (by ((repeat (rw [heap_alloc_at, if_neg (by (try simp only [World.size_alloc]); omega)])); rw [heap_alloc_at, if_pos (by (try simp only [World.size_alloc]))]; rfl)) rfl, by decide, by decide, by omega⟩
    · exact ⟨w.heap.size + 1, [4, 0, 9, 0, 4, 4], by simp [go_sem, ↓IntWalk.iteOmega], row_blockI (by ((repeat (rw [heap_alloc_at, if_neg (by (try simp only [World.size_alloc]); omega)])); rw [heap_alloc_at, if_pos (by (try simp only [World.size_alloc]))]; rfl)) rfl, by decide, by decide, by omega⟩
    · exact ⟨w.heap.size + 2, [0, 4, 4, 4, 4, 8, 0, 8], by simp [go_sem, ↓IntWalk.iteOmega], row_blockI (by ((repeat (rw [heap_alloc_at, if_neg (by (try simp only [World.size_alloc]); omega)])); rw [heap_alloc_at, if_pos (by (try simp only [World.size_alloc]))]; rfl)) rfl, by decide, by decide, by omega⟩
    · exact ⟨w.heap.size + 3, [4, 4, 9, 0, 9, 8, 4, 8], by simp [go_sem, ↓IntWalk.iteOmega], row_blockI (by ((repeat (rw [heap_alloc_at, if_neg (by (try simp only [World.size_alloc]); omega)])); rw [heap_alloc_at, if_pos (by (try simp only [World.size_alloc]))]; rfl)) rfl, by decide, by decide, by omega⟩
    · exact ⟨w.heap.size + 4, [-5, 0, 0, 0, 0, 4, -2, 5, 0, 8, -5, 8], by simp [go_sem, ↓IntWalk.iteOmega], row_blockI (by ((repeat (rw [heap_alloc_at, if_neg (by (try simp only [World.size_alloc]); omega)])); rw [heap_alloc_at, if_pos (by (try simp only [World.size_alloc]))]; rfl)) rfl, by decide, by decide, by omega⟩
    · exact ⟨w.heap.size + 5, [20, 20, 22, 20, 21, 25], by simp [go_sem, ↓IntWalk.iteOmega], row_blockI (by ((repeat (rw [heap_alloc_at, if_neg (by (try simp only [World.size_alloc]); omega)])); rw [heap_alloc_at, if_pos (by (try simp only [World.size_alloc]))]; rfl)) rfl, by decide, by decide, by omega⟩
  case rest =>
    obtain ⟨b, rfl, hbb, hS, hbc⟩ := hcut
    have hcs := hbc.size
    have hbw : b < wc.heap.size := by
      obtain ⟨_, _, h1, _⟩ := hS 0 (by omega)
      exact World.block_lt_of_cell? _ _ h1
    have HW := Lib.hid (H0.out.below hbc hg)
    have hbl : Between g (g + 1) w wc := ⟨hbc.os, hbc.tape, hbc.output, hbc.size, fun k hk _ => hbc.block k hk⟩
    replace hbl := Lib.hid hbl
    replace hS := Lib.hid hS
    clear hbc H0
    have hgb : g < b := by omega
    have hgb1 : g + 1 ≤ b := by omega
    go_wp2_with fail
    with_reducible refine (next_any g 9 _ (by (repeat (first | (with_reducible exact HW.out) | (with_reducible refine SrcOk.alloc ?_ _) | (with_reducible refine SrcOk.set ?_ ?_ _) | (with_reducible refine SrcOk.drewN ?_ _) | (with_reducible refine SrcOk.drew ?_) | (with_reducible refine SrcOk.later _ ?_) | (with_reducible refine SrcOk.after _ ?_ ?_) | (dsimp only; omega) | omega | ((try simp only [World.size_alloc, World.size_setCell, World.size_drew]); omega))))).mono ?_
    rintro e w' ⟨x, hdraw, rfl, z1, rfl, hsrc⟩
    have hsz1 := z1.btw.size
    (try simp only [World.size_alloc, World.size_setCell, World.size_drew] at hsz1)
    have H1 := Lib.hid hsrc
    clear hsrc
    obtain ⟨x0, x1⟩ := hdraw
    have v1 : wc.heap.size ≤ z1.w.heap.size := by omega
    go_wp2_with fail
    with_reducible refine (next_any g 9 _ (by (repeat (first | (with_reducible exact H1.out) | (with_reducible refine SrcOk.alloc ?_ _) | (with_reducible refine SrcOk.set ?_ ?_ _) | (with_reducible refine SrcOk.drewN ?_ _) | (with_reducible refine SrcOk.drew ?_) | (with_reducible refine SrcOk.later _ ?_) | (with_reducible refine SrcOk.after _ ?_ ?_) | (dsimp only; omega) | omega | ((try simp only [World.size_alloc, World.size_setCell, World.size_drew]); omega))))).mono ?_
    rintro e w' ⟨y, hdraw, rfl, z2, rfl, hsrc⟩
    have hsz2 := z2.btw.size
    (try simp only [World.size_alloc, World.size_setCell, World.size_drew] at hsz2)
    have H2 := Lib.hid hsrc
    clear hsrc
    obtain ⟨y0, y1⟩ := hdraw
    have v2 : wc.heap.size ≤ z2.w.heap.size := by omega
    have hb2 : Between g (g + 1) wc z2.w := by (repeat (first | (with_reducible exact Between.refl _ _ _) | (with_reducible refine Between.drew ?_) | (with_reducible refine Between.drewN ?_ _) | (with_reducible refine btw_own ?_ ?_ _) | (with_reducible refine btw_later _ ?_) | (with_reducible refine btw_alloc ?_ _) | (with_reducible refine btw_after _ ?_) | (with_reducible refine btw_beyond _ ?_ ?_) | (with_reducible refine Aft.btw _ ?_ ?_) | (with_reducible assumption) | (dsimp only; omega) | omega | ((try simp only [World.size_alloc, World.size_setCell, World.size_drew]); omega)))
    replace hb2 := Lib.hid hb2
    go_wp2_with fail
    go_loopw [6, 7] (fun t6 t7 wr => ∃ (i : Nat) (T : List (List Pt)) (a : Option Addr) (n c : Nat), i ≤ 6 ∧ n ≤ i ∧ t7 = .int .i64 i ∧ t6 = .slice a n c ∧ GRg wr z2.w.heap.size T a n c ∧ Between g (g + 1) z2.w wr ∧ SrcOk wr g) (fun _ t7 _ => 6 - (intOf t7).toNat)
    case atStart => exact ⟨0, [], _, 0, _, by omega, by omega, rfl, rfl, GRg.nil (World.ownsRow_lit z2.w #[] 0 (Nat.le_refl _) (by unfold maxLen; omega) rfl), by (repeat (first | (with_reducible exact Between.refl _ _ _) | (with_reducible refine Between.drew ?_) | (with_reducible refine Between.drewN ?_ _) | (with_reducible refine btw_own ?_ ?_ _) | (with_reducible refine btw_later _ ?_) | (with_reducible refine btw_alloc ?_ _) | (with_reducible refine btw_after _ ?_) | (with_reducible refine btw_beyond _ ?_ ?_) | (with_reducible refine Aft.btw _ ?_ ?_) | (with_reducible assumption) | (dsimp only; omega) | omega | ((try simp only [World.size_alloc, World.size_setCell, World.size_drew]); omega))), by (repeat (first | (with_reducible exact H2.out) | (with_reducible refine SrcOk.alloc ?_ _) | (with_reducible refine SrcOk.set ?_ ?_ _) | (with_reducible refine SrcOk.drewN ?_ _) | (with_reducible refine SrcOk.drew ?_) | (with_reducible refine SrcOk.later _ ?_) | (with_reducible refine SrcOk.after _ ?_ ?_) | (dsimp only; omega) | omega | ((try simp only [World.size_alloc, World.size_setCell, World.size_drew]); omega)))⟩
    case round =>
      obtain ⟨i, T, a, n, c, hi6, hni, rfl, rfl, hG, hbt, hs⟩ := hrel
      obtain ⟨q, rfl⟩ := AfterC.mk hbt
      have hqs := q.btw.size
      replace hs := Lib.hid hs
      replace hG := Lib.hid hG
      clear hbt H1 H2 HW
      by_cases hlt : i < 6
      · have hi1 : (i : Int) < 6 := by omega
        go_wp2_with fail
        with_reducible refine (next_any g 4 _ (by (repeat (first | (with_reducible exact hs.out) | (with_reducible refine SrcOk.alloc ?_ _) | (with_reducible refine SrcOk.set ?_ ?_ _) | (with_reducible refine SrcOk.drewN ?_ _) | (with_reducible refine SrcOk.drew ?_) | (with_reducible refine SrcOk.later _ ?_) | (with_reducible refine SrcOk.after _ ?_ ?_) | (dsimp only; omega) | omega | ((try simp only [World.size_alloc, World.size_setCell, World.size_drew]); omega))))).mono ?_
        rintro e w' ⟨r, hdraw, rfl, z3, rfl, hsrc⟩
        have hsz3 := z3.btw.size
        (try simp only [World.size_alloc, World.size_setCell, World.size_drew] at hsz3)
        have H3 := Lib.hid hsrc
        clear hsrc
        obtain ⟨r0, r1⟩ := hdraw
        have hb3 : Between g (g + 1) wc z3.w := by (repeat (first | (with_reducible exact Between.refl _ _ _) | (with_reducible refine Between.drew ?_) | (with_reducible refine Between.drewN ?_ _) | (with_reducible refine btw_own ?_ ?_ _) | (with_reducible refine btw_later _ ?_) | (with_reducible refine btw_alloc ?_ _) | (with_reducible refine btw_after _ ?_) | (with_reducible refine btw_beyond _ ?_ ?_) | (with_reducible refine Aft.btw _ ?_ ?_) | (with_reducible assumption) | (dsimp only; omega) | omega | ((try simp only [World.size_alloc, World.size_setCell, World.size_drew]); omega)))
        obtain ⟨cb, l, s0, s1, s2, s3, s4⟩ := hS.out i hlt
        have hcb : cb < wc.heap.size ∨ l = [] := by
          rcases l with _ | ⟨x0, l⟩
          · exact .inr rfl
          · obtain ⟨b', o', e', h2⟩ := s1 0 _ rfl
            cases e'
            exact .inl (World.block_lt_of_cell? _ _ h2)
        have t0 := (hb3.cell (p := ⟨b, i, none⟩) hbw (.inr hgb1)).trans s0
        have t1 : Row z3.w (some ⟨cb, 0, none⟩) (intCells l) := s1.btw hb3 (fun p hp => by cases hp; dsimp only; omega)
        have CP := Lib.hid (l17Points_any l (-5) 25 (some ⟨cb, 0, none⟩) l.length l.length z3.w rfl (by omega) s3 t1)
        have hG3 : GRg z3.w z2.w.heap.size T a n c := hG.out.keep (g := g) (g' := g + 1) (by (repeat (first | (with_reducible exact Between.refl _ _ _) | (with_reducible refine Between.drew ?_) | (with_reducible refine Between.drewN ?_ _) | (with_reducible refine btw_own ?_ ?_ _) | (with_reducible refine btw_later _ ?_) | (with_reducible refine btw_alloc ?_ _) | (with_reducible refine btw_after _ ?_) | (with_reducible refine btw_beyond _ ?_ ?_) | (with_reducible refine Aft.btw _ ?_ ?_) | (with_reducible assumption) | (dsimp only; omega) | omega | ((try simp only [World.size_alloc, World.size_setCell, World.size_drew]); omega)))) (by omega)
        have hBT3 : Between g (g + 1) z2.w z3.w := by (repeat (first | (with_reducible exact Between.refl _ _ _) | (with_reducible refine Between.drew ?_) | (with_reducible refine Between.drewN ?_ _) | (with_reducible refine btw_own ?_ ?_ _) | (with_reducible refine btw_later _ ?_) | (with_reducible refine btw_alloc ?_ _) | (with_reducible refine btw_after _ ?_) | (with_reducible refine btw_beyond _ ?_ ?_) | (with_reducible refine Aft.btw _ ?_ ?_) | (with_reducible assumption) | (dsimp only; omega) | omega | ((try simp only [World.size_alloc, World.size_setCell, World.size_drew]); omega)))
        replace hG3 := Lib.hid hG3
        replace hBT3 := Lib.hid hBT3
        replace hb3 := Lib.hid hb3
        have bz3 : b < z3.w.heap.size := by omega
        have qz3 : z2.w.heap.size ≤ z3.w.heap.size := by omega
        clear s0 s1 s3 hcb t1 hG
        by_cases hr0 : r = 0
        · subst hr0
          go_wp2_with fail
          go_roundw
          case rel => exact ⟨i + 1, T, a, n, c, by omega, by omega, by go_num, rfl, hG3.out, hBT3.out, H3.out⟩
          case measure => first | (simp [intOf]; done) | (simp [intOf]; omega) | omega
        · have hr1 : r > 0 := by omega
          go_wp2_with fail
          with_reducible refine CP.out.mono ?_
          rintro e w' ⟨L, ar, m, cr, hL, hm, hl, rfl, hown, z4, rfl⟩
          have hs4 := z4.bel.size
          have hL0 : ∀ (j : Nat) (h : j < L.length), -5 ≤ L[j].x ∧ L[j].x ≤ 25 ∧ -5 ≤ L[j].y ∧ L[j].y ≤ 25 := fun j h => hL _ (List.getElem_mem h)
          replace hL0 := Lib.hid hL0
          replace hown := Lib.hid hown
          clear hL
          go_wp2_with fail
          go_loopw [9] (fun t9 wr => ∃ (k : Nat) (M : List Pt), k ≤ m ∧ t9 = .int .i64 k ∧ M.length = m ∧ (∀ (j : Nat) (h : j < M.length), j < k → SmP M[j]) ∧ (∀ (j : Nat) (h : j < M.length), k ≤ j → -5 ≤ M[j].x ∧ M[j].x ≤ 25 ∧ -5 ≤ M[j].y ∧ M[j].y ≤ 25) ∧ wr.ownsRow z3.w.heap.size 72 2 (.slice ar m cr) m (ptsCells M) ∧ ∃ z5 : Later z3.w, wr = z5.w) (fun t9 _ => m - (intOf t9).toNat)
          case atStart => exact ⟨0, L, by omega, rfl, hl, fun j h hj => absurd hj (by omega), fun j h _ => hL0.out j h, hown.out, z4, rfl⟩
          case round =>
            obtain ⟨k, M, hk, rfl, hM, hA, hC, hO, z5, rfl⟩ := hrel
            have hs5 := z5.bel.size
            replace hA := Lib.hid hA
            replace hO := Lib.hid hO
            by_cases hkm : k < m
            · have hk1 : (k : Int) < (m : Int) := by omega
              have hkM : k < M.length := by omega
              have B := hC k hkM (Nat.le_refl _)
              obtain ⟨pb, po, e1, hpb, p1, p2⟩ := (Row.of_own hO.out).pt (L := M) hkM
              replace hC := Lib.hid hC
              have hset := Lib.hid (fun q => pts_set (q := q) (M := M) (i := k) hkM)
              generalize hPk : M[k] = P at *
              obtain ⟨px, py⟩ := P
              dsimp only at B p1 p2
              obtain ⟨B1, B2, B3, B4⟩ := B
              obtain ⟨g0, e0, -, -, -, -⟩ := (Owns.of hO.out).at_ (j := 0) (by omega)
              rw [e0] at e1
              cases e1
              subst e0
              obtain ⟨⟨u0, c0⟩, f0⟩ := pt_cells (Owns.of hO.out) hkm 0 (by omega)
              obtain ⟨⟨u1', c1⟩, f1⟩ := pt_cells (Owns.of hO.out) hkm 1 (by omega)
              simp only [Nat.add_zero] at f0
              clear c0 c1
              simp only [Nat.zero_add] at p1 p2
              have hg0 := ((Owns.of hO.out).ge _ rfl)
              dsimp only at hg0
              go_wp2_with fail
              refine wp_region_still_tail 18 (by kernel_rfl) (by kernel_rfl) ?_
              simp only [List.take_succ_cons, List.take_zero, List.drop_succ_cons, List.drop_zero]
              refine wpStill_of_quiet (C := LaterC _) (LaterC.mk ((Below.refl _ _).drew)) (by kernel_rfl) ?_
              repeat (go_big_quiet_step (fail))
              refine wpQuiet_nil ?_
              change wpList _ _ _ _ _ (World.drew _)
              go_wp2_with fail
              go_roundw
              case rel =>
                refine ⟨k + 1, M.set k ⟨px + (x - 4), py + (y - 4)⟩, by omega, by go_num, by simp [hM], fun j h hj => ?_, fun j h hj => ?_, ?_, LaterC.mk bb⟩
                · by_cases e : j = k
                  · subst e
                    rw [List.getElem_set_self]
                    exact ⟨by dsimp only; omega, by dsimp only; omega, by dsimp only; omega, by dsimp only; omega⟩
                  · rw [List.getElem_set_ne (fun e' => e e'.symm)]
                    exact hA.out j (by simpa using h) (by omega)
                · rw [List.getElem_set_ne (by omega)]
                  exact hC.out j (by simpa using h) (by omega)
                · rw [hset.out]
                  exact (owns_drew (((Owns.of hO.out).set _).set _)).own
              case measure => first | (simp [intOf]; done) | (simp [intOf]; omega) | omega
            · obtain rfl : k = m := by omega
              subst hM
              have hSm : SmG M := ⟨by omega, fun p hp => by
                obtain ⟨j, hj, rfl⟩ := List.mem_iff_getElem.1 hp
                exact hA.out j hj hj⟩
              obtain ⟨hcr1, hcr2⟩ := own_caps2 hO.out
              have hOr := Lib.hid (Row.of_own hO.out)
              have hOl := Lib.hid hO.out.lt
              obtain ⟨hGl, hGo, vs, hv, hrows⟩ := hG3.out
              obtain ⟨p, p', hp1, hp2, hp3, hpo, hgo⟩ := grg_own (Owns.of hv) qz3
              have hvl : vs.length = n := by have := hv.1; omega
              have hoge := Lib.hid ((Owns.of hO.out).ge)
              have hplt := Lib.hid ((Owns.of hO.out).lt)
              have hbt5 := Lib.hid (hBT3.out.later z5.bel)
              replace hpo := Lib.hid hpo
              replace hrows := Lib.hid hrows
              replace hgo := Lib.hid hgo
              replace hGo := Lib.hid hGo
              replace hGl := Lib.hid hGl
              replace hSm := Lib.hid hSm
              clear hA hC hO hv hG3
              obtain ⟨ii, j1, j2, j3, j4⟩ := info_sp'
              have Jii := Lib.hid (And.intro j1 (And.intro j2 (And.intro j3 j4)))
              clear j1 j2 j3 j4
              have hz5p : p' ≤ z5.w.heap.size := by omega
              go_wp2_with (at_builtin; (refine wpList_append_apart _ rfl _ _ _ rfl 83 ii _ 1 24 Tryz.underlying29 Jii.out.1 Jii.out.2.1 Jii.out.2.2.1 Jii.out.2.2.2 rfl (by decide) (p) (p') ?qb1 _ _ _ (vs) rfl ?qb2 ?qb8 _ _ _ ([.slice ar M.length cr]) rfl ?qb3 ?qb4 ?qb5 ?qb6 ?qb7 ?_); (case qb1 => (first | (dsimp only; omega) | omega | (simp only [World.size_alloc, World.size_setCell, World.size_drew]; omega))); (case qb2 => exact own_bel hpo.out.own bb); (case qb8 => exact hpo.out.lt); (case qb3 => (first | rfl | (simp [boolCells]; done) | (simp [intCells]; done) | (simp; done) | (first | omega | (simp only [List.length_append, List.length_cons, List.length_nil]; omega)))); (case qb4 => exact Row.made _ _ _); (case qb5 => exact one_sp _ _ _); (case qb6 => (unfold maxLen; (first | omega | (simp only [List.length_append, List.length_cons, List.length_nil]; omega)))); (case qb7 => (first | omega | (simp only [List.length_append, List.length_cons, List.length_nil]; omega))); intro a9 c9 x9 hown9 hat9; replace hat9 := Lib.hid hat9; replace hown9 := Lib.hid hown9)
              go_roundw
              case rel =>
                refine ⟨i + 1, T ++ [M], a9, n + 1, c9, by omega, by omega, by go_num, rfl, ?_, ?_, ?_⟩
                · refine GRg.snoc (c := c) (w := z5.w.alloc (.cells #[.slice ar M.length cr] 83)) hGl.out hGo.out (hrows.out.bel bb) hvl hgo.out x9.btw hown9.out hp1 hat9.out hSm.out (hOr.out.bel bb) hcr1 hcr2 fun q' hq' => ?_
                  have h1 := hoge.out q' hq'
                  have h2 := hplt.out q' hq'
                  refine ⟨by omega, by simp only [World.size_alloc]; omega, fun q2 hq2 => ?_⟩
                  have h3 := hpo.out.lt q2 hq2
                  omega
                · exact btw_over (hbt5.out.later bb) x9.btw hp1
                · (repeat (first | (with_reducible exact H3.out) | (with_reducible refine SrcOk.alloc ?_ _) | (with_reducible refine SrcOk.set ?_ ?_ _) | (with_reducible refine SrcOk.drewN ?_ _) | (with_reducible refine SrcOk.drew ?_) | (with_reducible refine SrcOk.later _ ?_) | (with_reducible refine SrcOk.after _ ?_ ?_) | (dsimp only; omega) | omega | ((try simp only [World.size_alloc, World.size_setCell, World.size_drew]); omega)))
              case measure => first | (simp [intOf]; done) | (simp [intOf]; omega) | omega
      · obtain rfl : i = 6 := by omega
        go_wp2_with fail
        refine bodyPost_ret (by simp [results, Tryz.results120, go_sem, ↓IntWalk.iteOmega, *]; try rfl) rfl ?_
        exact ⟨T, a, n, c, rfl, by omega, hG.out.wide (by omega), ⟨q.w, (hbl.out.trans hb2.out).trans q.btw⟩, rfl, hs.out⟩
end Go.Proofs.YtklcaphkfdlipaaGreatDoor

import Derived.Test.YtpblghjegbfjeaaPiecesI
import Derived.Test.YtpblghjegbfjeaaPieceS
/- All pieces, the reference's way. -/
set_option linter.unusedSimpArgs false
set_option linter.unusedVariables false
namespace Go.Proofs.Ytpblghjegbfjeaa
open Go.RowKit
set_option maxRecDepth 4000 in
set_option maxHeartbeats 2000000 in
theorem pieces_spec (x y W H : Int) (l : List Bool) (a : Option Addr) (n c : Nat) (w : World) (hn : l.length = n) (hM : isMaskB x y W H n = true) (hr : Row w a (boolCells l)) :
    Calls Try.prog 31 #[.agg #[.int .i64 x, .int .i64 y, .int .i64 W, .int .i64 H, .slice a n c]] w
      (RetOwn w 2 1 (piecesN x y W H l).length (intCells (piecesN x y W H l)) fun v => .tuple #[v, .int .i64 0]) := by
  have b := box_of hM
  have n2 := b.n2
  have hnn := b.n1
  have n1 : 1 ≤ n := by have h := area_bd (W := W) (H := H) (inB_iff.2 ⟨b.w1, b.w2⟩) (inB_iff.2 ⟨b.h1, b.h2⟩); omega
  have HB := Lib.hid b
  replace hM := Lib.hid hM
  replace hr := Lib.hid hr
  replace hnn := Lib.hid hnn.symm
  have HN := Lib.hid hn
  clear b hn
  go_enter Try.func31, Try.ntmps31
  go_wp2_with (first | (go_at_call 14; (with_reducible refine (sIsMask_b _ _ _ _ _ _ _ _ hM.out).mono ?_); rintro e w' ⟨rfl, xl, rfl⟩; have hsz := xl.bel.size; (try simp only [World.size_alloc] at hsz)) | (go_at_call 66; (with_reducible refine (sEmpty_any x y W H a n n c _ hnn.out (by omega)).mono ?_); rintro e w' ⟨a5, c5, rfl, hown, y5, rfl⟩; have hsz5 := y5.bel.size; have HO5 := Lib.hid (Owns.of hown); clear hown))
  obtain ⟨g, rfl, h42, g2, hO4⟩ := HO5.out.tight n1 (by decide)
  replace hO4 := Lib.hid hO4
  clear HO5
  have hOW := Lib.hid (owns_alloc (owns_alloc hO4.out (.cells #[.int .i64 x, .int .i64 y, .int .i64 W, .int .i64 H, .slice (some ⟨g, 0, none⟩) n c5] 31)) (.cells #[] 2))
  have hLW := Lib.hid (World.ownsRow_lit (base := (y5.w.alloc (.cells #[.int .i64 x, .int .i64 y, .int .i64 W, .int .i64 H, .slice (some ⟨g, 0, none⟩) n c5] 31)).heap.size) (e := 2) (size := 1) (y5.w.alloc (.cells #[.int .i64 x, .int .i64 y, .int .i64 W, .int .i64 H, .slice (some ⟨g, 0, none⟩) n c5] 31)) #[] 0 (Nat.le_refl _) (by unfold maxLen; omega) rfl)
  go_loopw [5, 18] (fun t5 i wr => ∃ (k : Nat) (a5 : Option Addr) (c6 : Nat), k ≤ n ∧ i = .int .i64 k ∧ t5 = .slice a5 (pcs l (Beside x y W H) k).2.length c6 ∧ Between g (g + 1) (y5.w.alloc (.cells #[.int .i64 x, .int .i64 y, .int .i64 W, .int .i64 H, .slice (some ⟨g, 0, none⟩) n c5] 31)) wr ∧
    Owns wr g (g + 1) 4 1 n (some ⟨g, 0, none⟩) c5 (boolCells (pcs l (Beside x y W H) k).1) ∧ wr.ownsRow (y5.w.alloc (.cells #[.int .i64 x, .int .i64 y, .int .i64 W, .int .i64 H, .slice (some ⟨g, 0, none⟩) n c5] 31)).heap.size 2 1 (.slice a5 (pcs l (Beside x y W H) k).2.length c6) (pcs l (Beside x y W H) k).2.length (intCells (pcs l (Beside x y W H) k).2)) (fun _ i _ => n - (intOf i).toNat)
  case atStart =>
    refine ⟨0, _, _, Nat.zero_le _, rfl, rfl, ?_, ?_, ?_⟩
    · (repeat (first | (with_reducible exact Between.refl _ _ _) | (with_reducible refine Between.drew ?_) | (with_reducible refine Between.drewN ?_ _) | (with_reducible refine Between.set ?_ ?_ ?_ _) | (with_reducible refine btw_later _ ?_) | (with_reducible refine btw_alloc ?_ _) | (with_reducible refine btw_after _ ?_) | (with_reducible assumption) | (dsimp only; omega) | omega))
    · have h := hOW.out
      have e : boolCells (pcs l (Beside x y W H) 0).1 = List.replicate n (Value.bool false) := by simp [pcs, boolCells, HN.out]
      rw [e]
      exact h
    · have h := hLW.out
      simpa [pcs, intCells] using h
  case round =>
    obtain ⟨k, a5, c6, hk, rfl, rfl, hb, ho, hl⟩ := hrel
    obtain ⟨D, N, hDN⟩ : ∃ D N, pcs l (Beside x y W H) k = (D, N) := ⟨_, _, rfl⟩
    have hWh := pcs_whole l (Beside x y W H) k
    have hNk := pcs_le l (Beside x y W H) k
    have hsucc := fun h => pcs_no l (Beside x y W H) (k := k) h
    have hsuccY := fun h1 h2 => pcs_yes l (Beside x y W H) (k := k) h1 h2
    rw [hDN] at ho hl hWh hNk hsucc hsuccY
    simp only [hDN]
    simp only at ho hl hWh hNk hsucc hsuccY
    obtain ⟨z, rfl⟩ := AfterC.mk hb
    have hzs := z.btw.size
    simp only [World.size_alloc] at hzs
    have HO := Lib.hid ho
    have HL := Lib.hid hl
    have HS := Lib.hid hsucc
    have HSY := Lib.hid hsuccY
    have HDN := Lib.hid hDN
    have hDl := hWh.len
    clear hb ho hl hWh hsucc hsuccY hDN hOW hLW hO4
    by_cases hlt : k < n
    · have hkl : k < l.length := by rw [HN.out]; exact hlt
      have hkD : k < D.length := by omega
      obtain ⟨bb, oo, rfl, hlc⟩ := hr.out k _ (boolCells_get hkl)
      have q3 : bb < w.heap.size := World.block_lt_of_cell? w _ hlc
      have hc := HO.out.own.cellAt k (by omega)
      rw [boolCells_get hkD] at hc
      have hf := HO.out.own.frozenAt k
      cases h1 : l[k]
      · rw [h1] at hlc
        have HNO : l[k]? ≠ some true ∨ D[k]? ≠ some false := by
          rw [List.getElem?_eq_getElem hkl, h1]
          exact .inl (by simp)
        replace HNO := Lib.hid HNO
        clear h1
        go_wp2_with fail
        go_roundw
        case rel => exact ⟨k + 1, a5, c6, by omega, by go_num, by rw [HS.out HNO.out], z.btw, by rw [HS.out HNO.out]; exact HO.out, by rw [HS.out HNO.out]; exact HL.out⟩
        case measure => simp [intOf]; omega
      rw [h1] at hlc
      cases h2 : D[k]
      rotate_left
      · rw [h2] at hc
        have HNO : l[k]? ≠ some true ∨ D[k]? ≠ some false := by
          rw [List.getElem?_eq_getElem hkD, h2]
          exact .inr (by simp)
        replace HNO := Lib.hid HNO
        clear h1 h2
        go_wp2_with fail
        go_roundw
        case rel => exact ⟨k + 1, a5, c6, by omega, by go_num, by rw [HS.out HNO.out], z.btw, by rw [HS.out HNO.out]; exact HO.out, by rw [HS.out HNO.out]; exact HL.out⟩
        case measure => simp [intOf]; omega
      rw [h2] at hc
      have hYES := HSY.out (by rw [List.getElem?_eq_getElem hkl, h1]) (by rw [List.getElem?_eq_getElem hkD, h2])
      clear h1 h2
      have hPl : (pieceL l (Beside x y W H) k).length = n := by rw [length_pieceL, HN.out]
      have hPP := fun w hr => sPiece_any x y W H l (some ⟨bb, oo, none⟩) n c k w HB.out HN.out hlt hr
      obtain ⟨P, hPe⟩ : ∃ P, pieceL l (Beside x y W H) k = P := ⟨_, rfl⟩
      rw [hPe] at hYES hPl hPP
      replace hPP := Lib.hid hPP
      have hol : D.length = n := by rw [hDl, HN.out]
      have hnl : (plus D P).length = n := by rw [length_plus, hol]
      have hmx : (plus D P).length = D.length := by rw [hnl, hol]
      have hnew := fun j (h1 : j < D.length) (h2 : j < P.length) => plus_at (D := D) (P := P) h1 h2
      obtain ⟨new, hne⟩ : ∃ new, plus D P = new := ⟨_, rfl⟩
      rw [hne] at hnl hmx hnew hYES
      replace hYES := Lib.hid hYES
      replace hnew := Lib.hid hnew
      replace hol := Lib.hid hol
      replace hnl := Lib.hid hnl
      replace hmx := Lib.hid hmx
      replace hPl := Lib.hid hPl
      obtain ⟨ii, j1, j2, j3, j4⟩ := info_i64'
      have Jii := Lib.hid (And.intro j1 (And.intro j2 (And.intro j3 j4)))
      have hNn : N.length ≤ 576 := by omega
      clear j1 j2 j3 j4 hPe hne
      have hbb : Below w.heap.size w z.w := by (repeat (first | (with_reducible exact Below.refl _ _) | (with_reducible assumption) | (with_reducible refine Later.out _ ?_) | (with_reducible refine bel_alloc ?_ _) | (with_reducible refine bel_drew ?_) | (with_reducible refine bel_drewN ?_ _) | (with_reducible refine bel_set ?_ ?_ _) | (with_reducible refine After.out _ ?_ ?_) | (dsimp only; omega) | omega | (simp only [World.size_alloc, World.size_setCell, World.size_drew]; omega)))
      go_wp2_with (first | (go_at_call 75; (with_reducible refine (hPP.out _ (hr.out.below hbb (Nat.le_refl _))).mono ?_); rintro e w' ⟨a7, c7, rfl, hown, y7, rfl⟩; have hsz7 := y7.bel.size; have HO7 := Lib.hid (Owns.of hown); clear hown))
      have hOA := Lib.hid (owns_alloc (HO.out.bel (B := z.w.heap.size) y7.bel (by omega)) (.cells #[.int .i64 x, .int .i64 y, .int .i64 W, .int .i64 H, .slice a7 n c7] 31))
      obtain ⟨g7, rfl, p1, p2, -, -⟩ := HO7.out.at_ (j := 0) (by omega)
      have hP7 := HO7.out.own
      replace hP7 := Lib.hid hP7
      go_loopw [40] (fun i wr => ∃ j : Nat, j ≤ n ∧ i = .int .i64 j ∧ Between g (g + 1) (y7.w.alloc (.cells #[.int .i64 x, .int .i64 y, .int .i64 W, .int .i64 H, .slice (some ⟨g7, 0, none⟩) n c7] 31)) wr ∧ Owns wr g (g + 1) 4 1 n (some ⟨g, 0, none⟩) c5 (boolCells (mixL new D j))) (fun i _ => n - (intOf i).toNat)
      case atStart => exact ⟨0, Nat.zero_le _, rfl, Between.refl _ _ _, by rw [mixL_zero]; exact hOA.out⟩
      case round =>
        obtain ⟨j, hj, rfl, hbj, hoj⟩ := hrel
        obtain ⟨z2, rfl⟩ := AfterC.mk hbj
        have hz2 := z2.btw.size
        simp only [World.size_alloc] at hz2
        clear hbj
        replace hoj := Lib.hid hoj
        by_cases hlt : j < n
        · have hjo : j < D.length := by rw [hol.out]; exact hlt
          have hjn : j < new.length := by rw [hnl.out]; exact hlt
          have hjP : j < P.length := by rw [hPl.out]; exact hlt
          have hcr := hoj.out.own.cellAt j (by omega)
          have hgm : (boolCells (mixL new D j))[j]? = some (.bool D[j]) := by
            have h := mixL_get hmx.out hjo
            simp [boolCells, h]
          rw [hgm] at hcr
          have hfr := hoj.out.own.frozenAt j
          have hc7 := hP7.out.cellAt j (by omega)
          rw [boolCells_get hjP] at hc7
          have hst := hoj.out.set (j := j) (.bool new[j])
          rw [mixL_set hmx.out hjn] at hst
          have hnj := hnew.out j hjo hjP
          rw [List.getElem?_eq_getElem hjn] at hnj
          replace hnj := Option.some.inj hnj
          rw [hnj] at hst
          clear hgm hnj
          cases ho : D[j] <;> cases hp : P[j]
          all_goals
            rw [ho] at hcr hst
            rw [hp] at hc7 hst
            simp only [Bool.false_or, Bool.or_false, Bool.true_or, Bool.or_true] at hst
            clear ho hp
            replace hst := Lib.hid hst
            go_wp2_with fail
            refine wp_region_still_tail 16 (by kernel_rfl) (by kernel_rfl) ?_
            simp only [List.take_succ_cons, List.take_zero, List.drop_succ_cons, List.drop_zero]
            refine wpStill_of_quiet (C := LaterC _) (LaterC.mk ((Below.refl _ _).drew)) (by kernel_rfl) ?_
            repeat (go_big_quiet_step (fail))
            refine wpQuiet_nil ?_
            change wpList _ _ _ _ _ (World.drew _)
            go_wp2_with fail
            go_roundw
            case rel => exact ⟨j + 1, by omega, by go_num, by (repeat (first | (with_reducible exact Between.refl _ _ _) | (with_reducible refine Between.drew ?_) | (with_reducible refine Between.drewN ?_ _) | (with_reducible refine Between.set ?_ ?_ ?_ _) | (with_reducible refine btw_later _ ?_) | (with_reducible refine btw_alloc ?_ _) | (with_reducible refine btw_after _ ?_) | (with_reducible assumption) | (dsimp only; omega) | omega)), hst.out.drew⟩
            case measure => simp [intOf]; omega
        · obtain rfl : j = n := by omega
          have hfu := hoj.out
          rw [mixL_full hnl.out hol.out] at hfu
          replace hfu := Lib.hid hfu
          have hLz := Lib.hid (own_btw (own_bel HL.out (w' := y7.w.alloc (.cells #[.int .i64 x, .int .i64 y, .int .i64 W, .int .i64 H, .slice (some ⟨g7, 0, none⟩) j c7] 31)) (by (repeat (first | (with_reducible exact Below.refl _ _) | (with_reducible assumption) | (with_reducible refine Later.out _ ?_) | (with_reducible refine bel_alloc ?_ _) | (with_reducible refine bel_drew ?_) | (with_reducible refine bel_drewN ?_ _) | (with_reducible refine bel_set ?_ ?_ _) | (with_reducible refine After.out _ ?_ ?_) | (dsimp only; omega) | omega | (simp only [World.size_alloc, World.size_setCell, World.size_drew]; omega))))) z2.btw fun q hq => by have := (HL.out.lt q hq).1; simp only [World.size_alloc] at this; omega)
          have hPz := Lib.hid ((HO7.out.bel (B := y7.w.heap.size) (w' := y7.w.alloc (.cells #[.int .i64 x, .int .i64 y, .int .i64 W, .int .i64 H, .slice (some ⟨g7, 0, none⟩) j c7] 31)) (by (repeat (first | (with_reducible exact Below.refl _ _) | (with_reducible assumption) | (with_reducible refine Later.out _ ?_) | (with_reducible refine bel_alloc ?_ _) | (with_reducible refine bel_drew ?_) | (with_reducible refine bel_drewN ?_ _) | (with_reducible refine bel_set ?_ ?_ _) | (with_reducible refine After.out _ ?_ ?_) | (dsimp only; omega) | omega | (simp only [World.size_alloc, World.size_setCell, World.size_drew]; omega)))) (Nat.le_refl _)).btw z2.btw (by omega))
          go_wp2_with (first | (go_at_call 63; (with_reducible refine (sCount_any x y W H P _ _ _ _ hPl.out (by omega) hPz.out.row).mono ?_); rintro e w' ⟨rfl, y8, rfl⟩; have hsz8 := y8.bel.size; (try simp only [World.size_alloc] at hsz8)) | (at_builtin; (refine wpList_append_after _ rfl _ _ _ rfl 2 ii _ 1 8 Try.underlying44 Jii.out.1 Jii.out.2.1 Jii.out.2.2.1 Jii.out.2.2.2 rfl (by decide) (y5.w.heap.size + 1) (z2.w.heap.size) ?qb1 _ _ _ (intCells N) rfl ?qb2 ?qb8 _ _ _ ([.int .i64 (cntB P P.length)]) rfl ?qb3 ?qb4 ?qb5 ?qb6 ?qb7 ?_); (case qb1 => (first | (dsimp only; omega) | omega | (simp only [World.size_alloc, World.size_setCell, World.size_drew]; omega))); (case qb2 => exact own_mono (own_bel hLz.out (by (repeat (first | (with_reducible exact Below.refl _ _) | (with_reducible assumption) | (with_reducible refine Later.out _ ?_) | (with_reducible refine bel_alloc ?_ _) | (with_reducible refine bel_drew ?_) | (with_reducible refine bel_drewN ?_ _) | (with_reducible refine bel_set ?_ ?_ _) | (with_reducible refine After.out _ ?_ ?_) | (dsimp only; omega) | omega | (simp only [World.size_alloc, World.size_setCell, World.size_drew]; omega))))) (by simp)); (case qb8 => exact fun p hp => (by subst hp; exact (hLz.out.lt p.block rfl).2)); (case qb3 => (first | rfl | (simp [boolCells]; done) | (simp [intCells]; done) | (simp; done) | (first | omega | (simp only [List.length_append, List.length_cons, List.length_nil]; omega)))); (case qb4 => exact Row.made _ _ _); (case qb5 => (intro u hu; simp at hu; subst hu; rfl)); (case qb6 => (unfold maxLen; (first | omega | (simp only [List.length_append, List.length_cons, List.length_nil]; omega)))); (case qb7 => (first | omega | (simp only [List.length_append, List.length_cons, List.length_nil]; omega))); intro a9 c9 x9 hown))
          have HO9 := Lib.hid hown
          clear hown
          have hsx := x9.btw.size
          (try simp only [World.size_alloc] at hsx)
          go_roundw
          case rel =>
            refine ⟨k + 1, a9, c9, by omega, by go_num, by rw [hYES.out]; simp, ?_, ?_, ?_⟩
            · refine btw_beyond x9 ?_ (by simp)
              (repeat (first | (with_reducible exact Between.refl _ _ _) | (with_reducible refine Between.drew ?_) | (with_reducible refine Between.drewN ?_ _) | (with_reducible refine Between.set ?_ ?_ ?_ _) | (with_reducible refine btw_later _ ?_) | (with_reducible refine btw_alloc ?_ _) | (with_reducible refine btw_after _ ?_) | (with_reducible assumption) | (dsimp only; omega) | omega))
            · rw [hYES.out]
              exact (hfu.out.bel (B := z2.w.heap.size) (w' := (y8.w.alloc (.cells #[.int .i64 (cntB P P.length)] 2))) (by (repeat (first | (with_reducible exact Below.refl _ _) | (with_reducible assumption) | (with_reducible refine Later.out _ ?_) | (with_reducible refine bel_alloc ?_ _) | (with_reducible refine bel_drew ?_) | (with_reducible refine bel_drewN ?_ _) | (with_reducible refine bel_set ?_ ?_ _) | (with_reducible refine After.out _ ?_ ?_) | (dsimp only; omega) | omega | (simp only [World.size_alloc, World.size_setCell, World.size_drew]; omega)))) (by omega)).btw x9.btw (by omega)
            · rw [hYES.out]
              have e1 : N ++ [(cntB P l.length : Int)] = N ++ [(cntB P P.length : Int)] := by rw [hPl.out, HN.out]
              simp only [e1, intCells_snoc, List.length_append, List.length_cons, List.length_nil]
              exact own_mono HO9.out (by simp)
          case measure => simp [intOf]; omega
    · obtain rfl : k = n := by omega
      go_wp2_with fail
      refine bodyPost_ret (by simp [results, Try.results31, go_sem, ↓IntWalk.iteOmega]; try rfl) rfl ?_
      have e : piecesN x y W H l = N := by unfold piecesN; rw [HN.out, HDN.out]
      rw [e]
      refine RetOwn.mk _ rfl (own_mono HL.out ?_) ?_
      · simp only [World.size_alloc]; omega
      · (repeat (first | (with_reducible exact Below.refl _ _) | (with_reducible assumption) | (with_reducible refine Later.out _ ?_) | (with_reducible refine bel_alloc ?_ _) | (with_reducible refine bel_drew ?_) | (with_reducible refine bel_drewN ?_ _) | (with_reducible refine bel_set ?_ ?_ _) | (with_reducible refine After.out _ ?_ ?_) | (dsimp only; omega) | omega | (simp only [World.size_alloc, World.size_setCell, World.size_drew]; omega)))
end Go.Proofs.Ytpblghjegbfjeaa

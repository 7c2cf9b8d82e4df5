import Derived.Test.YtklcaphkfdlipaaGreatDoorDrQV
/- The draws of rings: any ring, rarely one that is not valid. -/
set_option linter.unusedSimpArgs false
set_option linter.unusedVariables false
namespace Go.Proofs.YtklcaphkfdlipaaGreatDoor
open Go.RowKit
/-- Some points, in memory of the draw's own. -/
def RetPtsD (w : World) (g : Nat) (e : Ending) (w' : World) : Prop :=
  ∃ (L : List Pt) (a : Option Addr) (n c : Nat), (∀ p ∈ L, SmP p) ∧ n ≤ 12 ∧ L.length = n ∧ n ≤ c ∧ c ≤ maxLen ∧ e = .returned (.slice a n c) ∧ (∀ q : Addr, a = some q → w.heap.size ≤ q.block ∧ q.block < w'.heap.size) ∧ ∃ z : After w g (g + 1), w' = z.w ∧ SrcOk z.w g ∧ Row z.w a (ptsCells L)
theorem own_caps {w : World} {base e n c : Nat} {a : Option Addr} {xs : List Value} (h : w.ownsRow base e 2 (.slice a n c) n xs) : n ≤ c ∧ c ≤ maxLen := by
  rcases h.2 with ⟨h0, h1⟩ | ⟨g', cap', cur, hv, hg, hb, h1, h2, h3, h4⟩
  · cases h0; exact ⟨by omega, by unfold maxLen; omega⟩
  · cases hv; exact ⟨h1, h2⟩
theorem RetPtsD.mk {w w' : World} {g : Nat} {e : Ending} {L : List Pt} {a : Option Addr} {n c : Nat} (h : ∀ p ∈ L, SmP p) (hn : n ≤ 12) (hl : L.length = n) (he : e = .returned (.slice a n c)) (hb : Between g (g + 1) w w') (hs : SrcOk w' g) (ho : Owns w' w.heap.size w'.heap.size 72 2 n a c (ptsCells L)) : RetPtsD w g e w' :=
  ⟨L, a, n, c, h, hn, hl, (own_caps ho.own).1, (own_caps ho.own).2, he, fun q hq => ⟨ho.ge q hq, ho.lt q hq⟩, ⟨w', hb⟩, rfl, hs, ho.row⟩
theorem RetPtsD.mkTwo {w w' : World} {g : Nat} {e : Ending} {L : List Pt} {a : Option Addr} {n c : Nat} (h : ∀ p ∈ L, SmP p) (hn : n ≤ 12) (h2 : 2 ≤ n) (hl : L.length = n) (he : e = .returned (.slice a 2 c)) (hb : Between g (g + 1) w w') (hs : SrcOk w' g) (ho : Owns w' w.heap.size w'.heap.size 72 2 n a c (ptsCells L)) : RetPtsD w g e w' := by
  have hc := own_caps ho.own
  refine ⟨L.take 2, a, 2, c, fun p hp => h p (List.mem_of_mem_take hp), by omega, by simp; omega, by omega, hc.2, he, fun q hq => ⟨ho.ge q hq, ho.lt q hq⟩, ⟨w', hb⟩, rfl, hs, ?_⟩
  intro j v hj
  refine ho.row j v ?_
  have e : ptsCells L = ptsCells (L.take 2) ++ ptsCells (L.drop 2) := by rw [← ptsCells_append, List.take_append_drop]
  rw [e]
  exact (List.getElem?_append_left (List.getElem?_eq_some_iff.1 hj).1).trans hj
theorem pts_set {q : Pt} : ∀ {M : List Pt} {i : Nat}, i < M.length → ptsCells (M.set i q) = ((ptsCells M).set (i * 2) (.int .i64 q.x)).set (i * 2 + 1) (.int .i64 q.y)
  | [], i, h => by simp at h
  | d :: M, 0, h => rfl
  | d :: M, i + 1, h => by
    have ih := pts_set (q := q) (M := M) (i := i) (by simpa using h)
    rw [show (i + 1) * 2 = i * 2 + 2 by omega, show i * 2 + 2 + 1 = (i * 2 + 1) + 2 by omega]
    show ptCells d ++ ptsCells (M.set i q) = _
    rw [ih]
    rfl
theorem pt_cells {W : World} {lo hi g n c i : Nat} {xs : List Value} (h : Owns W lo hi 72 2 n (some ⟨g, 0, none⟩) c xs) (hi' : i < n) (j : Nat) (hj : j < 2) : (∃ u, W.cell? ⟨g, i * 2 + j, none⟩ = some u) ∧ W.frozen? ⟨g, i * 2 + j, none⟩ = false := by
  have h1 := h.own.1
  obtain ⟨g0, e0, -, -, kc, kf⟩ := h.at_ (j := i * 2 + j) (by omega)
  cases e0
  exact ⟨⟨_, by rw [kc, List.getElem?_eq_getElem (by omega)]⟩, kf⟩
theorem smP_snoc {L : List Pt} {x : Pt} (h : ∀ y ∈ L, SmP y) (hx : SmP x) : ∀ y ∈ L ++ [x], SmP y := by
  intro y hy
  rcases List.mem_append.1 hy with hy | hy
  · exact h y hy
  · simp only [List.mem_cons, List.not_mem_nil, or_false] at hy
    subst hy
    exact hx
theorem smP_set {L : List Pt} {x : Pt} {i : Nat} (h : ∀ y ∈ L, SmP y) (hx : SmP x) : ∀ y ∈ L.set i x, SmP y := by
  intro y hy
  rcases List.mem_or_eq_of_mem_set hy with hy | rfl
  · exact h y hy
  · exact hx
set_option maxRecDepth 8000 in
set_option maxHeartbeats 8000000 in
theorem sRingDraw_any (g : Nat) (w : World) (h : SrcOk w g) : Calls Tryz.prog 148 #[.pointer (some ⟨g, 0, none⟩)] w (RetPtsD w g) := by
  have hg := h.lt
  have H0 := Lib.hid h
  obtain ⟨ii, j1, j2, j3, j4⟩ := info_pt'
  have Jii := Lib.hid (And.intro j1 (And.intro j2 (And.intro j3 j4)))
  clear h j1 j2 j3 j4
  go_enter Tryz.func148, Tryz.ntmps148
  go_wp2_with fail
  with_reducible refine (next_any g 4 _ (by (repeat (first | (with_reducible exact H0.out) | (with_reducible refine SrcOk.alloc ?_ _) | (with_reducible refine SrcOk.set ?_ ?_ _) | (with_reducible refine SrcOk.drewN ?_ _) | (with_reducible refine SrcOk.drew ?_) | (with_reducible refine SrcOk.later _ ?_) | (with_reducible refine SrcOk.after _ ?_ ?_) | (dsimp only; omega) | omega | ((try simp only [World.size_alloc, World.size_setCell, World.size_drew]); omega))))).mono ?_
  rintro e w' ⟨r, hdraw, rfl, z1, rfl, hsrc⟩
  have hsz1 := z1.btw.size
  (try simp only [World.size_alloc, World.size_setCell, World.size_drew] at hsz1)
  have H1 := Lib.hid hsrc
  clear hsrc
  obtain ⟨r0, r1⟩ := hdraw
  have u1 : w.heap.size ≤ z1.w.heap.size := (by omega)
  by_cases hr0 : r = 0
  · subst hr0
    go_wp2_with fail
    with_reducible refine (next_any g 3 _ (by (repeat (first | (with_reducible exact H1.out) | (with_reducible refine SrcOk.alloc ?_ _) | (with_reducible refine SrcOk.set ?_ ?_ _) | (with_reducible refine SrcOk.drewN ?_ _) | (with_reducible refine SrcOk.drew ?_) | (with_reducible refine SrcOk.later _ ?_) | (with_reducible refine SrcOk.after _ ?_ ?_) | (dsimp only; omega) | omega | ((try simp only [World.size_alloc, World.size_setCell, World.size_drew]); omega))))).mono ?_
    rintro e w' ⟨k0, hdraw, rfl, z2, rfl, hsrc⟩
    have hsz2 := z2.btw.size
    (try simp only [World.size_alloc, World.size_setCell, World.size_drew] at hsz2)
    have H2 := Lib.hid hsrc
    clear hsrc
    obtain ⟨k00, k01⟩ := hdraw
    have u2 : w.heap.size ≤ z2.w.heap.size := (by omega)
    have u3 : z1.w.heap.size + 1 ≤ z2.w.heap.size := (by omega)
    obtain ⟨K, rfl⟩ := Int.eq_ofNat_of_zero_le k00
    have hO0 : Owns z2.w w.heap.size z2.w.heap.size 72 2 0 (some ⟨z1.w.heap.size, 0, none⟩) 0 (ptsCells []) := by
      have h0 : Owns (z1.w.alloc (.cells #[] 72)) z1.w.heap.size (z1.w.heap.size + 1) 72 2 0 (some ⟨z1.w.heap.size, 0, none⟩) 0 (ptsCells []) := by
        have := Owns.of (World.ownsRow_lit (base := z1.w.heap.size) (e := 72) (size := 2) z1.w #[] 0 (Nat.le_refl _) (by unfold maxLen; omega) rfl)
        rw [show ptsCells [] = [] from rfl]
        simpa [World.size_alloc] using this
      refine owns_wide (lo := z1.w.heap.size) (hi := z1.w.heap.size + 1) ?_ (by omega) (by omega)
      (repeat (first | (with_reducible exact h0) | (with_reducible refine owns_after _ ?_ ?_) | (with_reducible refine owns_later _ ?_ ?_) | (with_reducible refine owns_alloc ?_ _) | (with_reducible refine owns_set ?_ ?_ _) | (with_reducible refine Owns.drewN ?_ _) | (with_reducible refine owns_drew ?_) | (dsimp only; omega) | omega | ((try simp only [World.size_alloc, World.size_setCell, World.size_drew]); omega)))
    have hB1 : Between g (g + 1) w z2.w := by (repeat (first | (with_reducible exact Between.refl _ _ _) | (with_reducible refine Between.drew ?_) | (with_reducible refine Between.drewN ?_ _) | (with_reducible refine btw_own ?_ ?_ _) | (with_reducible refine btw_later _ ?_) | (with_reducible refine btw_alloc ?_ _) | (with_reducible refine btw_after _ ?_) | (with_reducible refine btw_beyond _ ?_ ?_) | (with_reducible refine Aft.btw _ ?_ ?_) | (with_reducible assumption) | (dsimp only; omega) | omega | ((try simp only [World.size_alloc, World.size_setCell, World.size_drew]); omega)))
    replace hO0 := Lib.hid hO0
    replace hB1 := Lib.hid hB1
    go_wp2_with fail
    go_loopw [3, 4] (fun o i wr => ∃ (L : List Pt) (k : Nat) (a : Option Addr) (c : Nat), L.length + k ≤ 5 ∧ (∀ x ∈ L, SmP x) ∧ i = .int .i64 k ∧ o = .slice a L.length c ∧ Owns wr w.heap.size wr.heap.size 72 2 L.length a c (ptsCells L) ∧ SrcOk wr g ∧ Between g (g + 1) w wr) (fun _ i _ => (intOf i).toNat)
    case atStart => exact ⟨[], 3 + K, _, _, by simp only [List.length_nil]; omega, by simp, by go_num, rfl, hO0.out, H2.out, hB1.out⟩
    case round =>
      obtain ⟨L, k, a, c, hLk, hok, rfl, rfl, ho, hs, hb⟩ := hrel
      obtain ⟨q, rfl⟩ := AfterC.mk hb
      have hqs := q.btw.size
      clear hb hO0 hB1 H1 H2
      replace hs := Lib.hid hs
      replace ho := Lib.hid ho
      replace hok := Lib.hid hok
      by_cases hk : 0 < k
      · have hk' : (k : Int) > 0 := by omega
        go_wp2_with fail
        with_reducible refine (sPtDraw_any g _ (by (repeat (first | (with_reducible exact hs.out) | (with_reducible refine SrcOk.alloc ?_ _) | (with_reducible refine SrcOk.set ?_ ?_ _) | (with_reducible refine SrcOk.drewN ?_ _) | (with_reducible refine SrcOk.drew ?_) | (with_reducible refine SrcOk.later _ ?_) | (with_reducible refine SrcOk.after _ ?_ ?_) | (dsimp only; omega) | omega | ((try simp only [World.size_alloc, World.size_setCell, World.size_drew]); omega))))).mono ?_
        rintro e w' ⟨x, hx, rfl, z3, rfl, hsrc⟩
        have H3 := Lib.hid hsrc
        have hs3 := z3.btw.size
        (try simp only [World.size_alloc, World.size_setCell, World.size_drew] at hs3)
        replace hx := Lib.hid hx
        clear hsrc
        go_wp2_with (at_builtin; (refine wpList_append_apart _ rfl _ _ _ rfl 72 ii _ 2 16 Tryz.underlying83 Jii.out.1 Jii.out.2.1 Jii.out.2.2.1 Jii.out.2.2.2 rfl (by decide) (w.heap.size) (q.w.heap.size) ?qb1 _ _ _ (ptsCells L) rfl ?qb2 ?qb8 _ _ _ (ptCells x) rfl ?qb3 ?qb4 ?qb5 ?qb6 ?qb7 ?_); (case qb1 => (first | (dsimp only; omega) | omega | (simp only [World.size_alloc, World.size_setCell, World.size_drew]; omega))); (case qb2 => exact ((by (repeat (first | (with_reducible exact ho.out) | (with_reducible refine owns_after _ ?_ ?_) | (with_reducible refine owns_later _ ?_ ?_) | (with_reducible refine owns_alloc ?_ _) | (with_reducible refine owns_set ?_ ?_ _) | (with_reducible refine Owns.drewN ?_ _) | (with_reducible refine owns_drew ?_) | (dsimp only; omega) | omega | ((try simp only [World.size_alloc, World.size_setCell, World.size_drew]); omega))) : Owns _ w.heap.size q.w.heap.size 72 2 L.length a c (ptsCells L))).own); (case qb8 => exact ho.out.lt); (case qb3 => (first | rfl | (simp [boolCells]; done) | (simp [intCells]; done) | (simp; done) | (first | omega | (simp only [List.length_append, List.length_cons, List.length_nil]; omega)))); (case qb4 => exact Row.made _ _ _); (case qb5 => exact one_pt _); (case qb6 => (unfold maxLen; (first | omega | (simp only [List.length_append, List.length_cons, List.length_nil]; omega)))); (case qb7 => (first | omega | (simp only [List.length_append, List.length_cons, List.length_nil]; omega))); intro a9 c9 x9 hown9 hat9; replace hat9 := Lib.hid hat9; replace hown9 := Lib.hid hown9; have hs9 := x9.btw.size; (try simp only [World.size_alloc, World.size_setCell, World.size_drew] at hs9))
        go_roundw
        case rel =>
          refine ⟨L ++ [x], k - 1, a9, c9, by simp; omega, smP_snoc hok.out hx.out, by rw [← show ((k - 1 : Nat) : Int) = (k : Int) - 1 by omega], by simp, ?_, ?_, ?_⟩
          · rw [ptsCells_one, show (L ++ [x]).length = L.length + 1 by simp]
            exact Owns.of hown9.out
          · (repeat (first | (with_reducible exact H3.out) | (with_reducible refine SrcOk.alloc ?_ _) | (with_reducible refine SrcOk.set ?_ ?_ _) | (with_reducible refine SrcOk.drewN ?_ _) | (with_reducible refine SrcOk.drew ?_) | (with_reducible refine SrcOk.later _ ?_) | (with_reducible refine SrcOk.after _ ?_ ?_) | (dsimp only; omega) | omega | ((try simp only [World.size_alloc, World.size_setCell, World.size_drew]); omega)))
          · (repeat (first | (with_reducible exact Between.refl _ _ _) | (with_reducible refine Between.drew ?_) | (with_reducible refine Between.drewN ?_ _) | (with_reducible refine btw_own ?_ ?_ _) | (with_reducible refine btw_later _ ?_) | (with_reducible refine btw_alloc ?_ _) | (with_reducible refine btw_after _ ?_) | (with_reducible refine btw_beyond _ ?_ ?_) | (with_reducible refine Aft.btw _ ?_ ?_) | (with_reducible assumption) | (dsimp only; omega) | omega | ((try simp only [World.size_alloc, World.size_setCell, World.size_drew]); omega)))
        case measure => simp [intOf]; omega
      · obtain rfl : k = 0 := by omega
        go_wp2_with fail
        refine bodyPost_ret (by simp [results, Tryz.results148, go_sem, ↓IntWalk.iteOmega, *]; try rfl) rfl ?_
        refine RetPtsD.mk hok.out (by omega) rfl rfl ?_ ?_ ?_
        · (repeat (first | (with_reducible exact Between.refl _ _ _) | (with_reducible refine Between.drew ?_) | (with_reducible refine Between.drewN ?_ _) | (with_reducible refine btw_own ?_ ?_ _) | (with_reducible refine btw_later _ ?_) | (with_reducible refine btw_alloc ?_ _) | (with_reducible refine btw_after _ ?_) | (with_reducible refine btw_beyond _ ?_ ?_) | (with_reducible refine Aft.btw _ ?_ ?_) | (with_reducible assumption) | (dsimp only; omega) | omega | ((try simp only [World.size_alloc, World.size_setCell, World.size_drew]); omega)))
        · (repeat (first | (with_reducible exact hs.out) | (with_reducible refine SrcOk.alloc ?_ _) | (with_reducible refine SrcOk.set ?_ ?_ _) | (with_reducible refine SrcOk.drewN ?_ _) | (with_reducible refine SrcOk.drew ?_) | (with_reducible refine SrcOk.later _ ?_) | (with_reducible refine SrcOk.after _ ?_ ?_) | (dsimp only; omega) | omega | ((try simp only [World.size_alloc, World.size_setCell, World.size_drew]); omega)))
        · exact ho.out
  · go_wp2_with fail
    with_reducible refine (sRingGood_any g _ (by (repeat (first | (with_reducible exact H1.out) | (with_reducible refine SrcOk.alloc ?_ _) | (with_reducible refine SrcOk.set ?_ ?_ _) | (with_reducible refine SrcOk.drewN ?_ _) | (with_reducible refine SrcOk.drew ?_) | (with_reducible refine SrcOk.later _ ?_) | (with_reducible refine SrcOk.after _ ?_ ?_) | (dsimp only; omega) | omega | ((try simp only [World.size_alloc, World.size_setCell, World.size_drew]); omega))))).mono ?_
    rintro e w' ⟨L, a, n, c, hL, h2, h12, hl, rfl, z2, rfl, hsrc, ho⟩
    have H2 := Lib.hid hsrc
    have hs2 := z2.btw.size
    (try simp only [World.size_alloc, World.size_setCell, World.size_drew] at hs2)
    obtain ⟨b, rfl, -, -, -, -⟩ := ho.at_ (j := 0) (by omega)
    have hb1 := ho.ge _ rfl
    have hb2 := ho.lt _ rfl
    dsimp only at hb1 hb2
    have HO := Lib.hid ho
    clear hsrc ho H1
    replace hL := Lib.hid hL
    have u2 : w.heap.size ≤ z2.w.heap.size := (by omega)
    go_wp2_with fail
    with_reducible refine (next_any g (n : Int) _ (by (repeat (first | (with_reducible exact H2.out) | (with_reducible refine SrcOk.alloc ?_ _) | (with_reducible refine SrcOk.set ?_ ?_ _) | (with_reducible refine SrcOk.drewN ?_ _) | (with_reducible refine SrcOk.drew ?_) | (with_reducible refine SrcOk.later _ ?_) | (with_reducible refine SrcOk.after _ ?_ ?_) | (dsimp only; omega) | omega | ((try simp only [World.size_alloc, World.size_setCell, World.size_drew]); omega))))).mono ?_
    rintro e w' ⟨k, hdraw, rfl, z3, rfl, hsrc⟩
    have hsz3 := z3.btw.size
    (try simp only [World.size_alloc, World.size_setCell, World.size_drew] at hsz3)
    have H3 := Lib.hid hsrc
    clear hsrc
    obtain ⟨k0, k1⟩ := hdraw
    obtain ⟨kn, rfl⟩ := Int.eq_ofNat_of_zero_le k0
    have hkn : kn < n := by omega
    have hkn' : (kn : Int) < (n : Int) := by omega
    go_wp2_with fail
    with_reducible refine (next_any g 24 _ (by (repeat (first | (with_reducible exact H3.out) | (with_reducible refine SrcOk.alloc ?_ _) | (with_reducible refine SrcOk.set ?_ ?_ _) | (with_reducible refine SrcOk.drewN ?_ _) | (with_reducible refine SrcOk.drew ?_) | (with_reducible refine SrcOk.later _ ?_) | (with_reducible refine SrcOk.after _ ?_ ?_) | (dsimp only; omega) | omega | ((try simp only [World.size_alloc, World.size_setCell, World.size_drew]); omega))))).mono ?_
    rintro e w' ⟨q, hdraw, rfl, z4, rfl, hsrc⟩
    have hsz4 := z4.btw.size
    (try simp only [World.size_alloc, World.size_setCell, World.size_drew] at hsz4)
    have H4 := Lib.hid hsrc
    clear hsrc
    obtain ⟨q0, q1⟩ := hdraw
    have u4 : z2.w.heap.size ≤ z4.w.heap.size := (by omega)
    have hB4 : Between g (g + 1) w z4.w := by (repeat (first | (with_reducible exact Between.refl _ _ _) | (with_reducible refine Between.drew ?_) | (with_reducible refine Between.drewN ?_ _) | (with_reducible refine btw_own ?_ ?_ _) | (with_reducible refine btw_later _ ?_) | (with_reducible refine btw_alloc ?_ _) | (with_reducible refine btw_after _ ?_) | (with_reducible refine btw_beyond _ ?_ ?_) | (with_reducible refine Aft.btw _ ?_ ?_) | (with_reducible assumption) | (dsimp only; omega) | omega | ((try simp only [World.size_alloc, World.size_setCell, World.size_drew]); omega)))
    have hO4 : Owns z4.w w.heap.size z4.w.heap.size 72 2 n (some ⟨b, 0, none⟩) c (ptsCells L) := by
      refine owns_wide (lo := z1.w.heap.size) (hi := z2.w.heap.size) ?_ (by omega) (by omega)
      (repeat (first | (with_reducible exact HO.out) | (with_reducible refine owns_after _ ?_ ?_) | (with_reducible refine owns_later _ ?_ ?_) | (with_reducible refine owns_alloc ?_ _) | (with_reducible refine owns_set ?_ ?_ _) | (with_reducible refine Owns.drewN ?_ _) | (with_reducible refine owns_drew ?_) | (dsimp only; omega) | omega | ((try simp only [World.size_alloc, World.size_setCell, World.size_drew]); omega)))
    obtain ⟨hcp, hcm⟩ := own_caps hO4.own
    have h2c : 2 ≤ c := by omega
    replace hB4 := Lib.hid hB4
    replace hO4 := Lib.hid hO4
    clear HO
    rcases (show q = 0 ∨ q = 1 ∨ 2 ≤ q by omega) with rfl | rfl | hq2
    · go_wp2_with fail
      with_reducible refine (sPtDraw_any g _ (by (repeat (first | (with_reducible exact H4.out) | (with_reducible refine SrcOk.alloc ?_ _) | (with_reducible refine SrcOk.set ?_ ?_ _) | (with_reducible refine SrcOk.drewN ?_ _) | (with_reducible refine SrcOk.drew ?_) | (with_reducible refine SrcOk.later _ ?_) | (with_reducible refine SrcOk.after _ ?_ ?_) | (dsimp only; omega) | omega | ((try simp only [World.size_alloc, World.size_setCell, World.size_drew]); omega))))).mono ?_
      rintro e w' ⟨x, hx, rfl, z5, rfl, hsrc⟩
      have H5 := Lib.hid hsrc
      have hs5 := z5.btw.size
      (try simp only [World.size_alloc, World.size_setCell, World.size_drew] at hs5)
      have hO5 : Owns z5.w w.heap.size z5.w.heap.size 72 2 n (some ⟨b, 0, none⟩) c (ptsCells L) := by
        refine owns_wide (lo := w.heap.size) (hi := z4.w.heap.size) ?_ (by omega) (by omega)
        (repeat (first | (with_reducible exact hO4.out) | (with_reducible refine owns_after _ ?_ ?_) | (with_reducible refine owns_later _ ?_ ?_) | (with_reducible refine owns_alloc ?_ _) | (with_reducible refine owns_set ?_ ?_ _) | (with_reducible refine Owns.drewN ?_ _) | (with_reducible refine owns_drew ?_) | (dsimp only; omega) | omega | ((try simp only [World.size_alloc, World.size_setCell, World.size_drew]); omega)))
      have hB5 : Between g (g + 1) w z5.w := by (repeat (first | (with_reducible exact Between.refl _ _ _) | (with_reducible refine Between.drew ?_) | (with_reducible refine Between.drewN ?_ _) | (with_reducible refine btw_own ?_ ?_ _) | (with_reducible refine btw_later _ ?_) | (with_reducible refine btw_alloc ?_ _) | (with_reducible refine btw_after _ ?_) | (with_reducible refine btw_beyond _ ?_ ?_) | (with_reducible refine Aft.btw _ ?_ ?_) | (with_reducible assumption) | (dsimp only; omega) | omega | ((try simp only [World.size_alloc, World.size_setCell, World.size_drew]); omega)))
      obtain ⟨⟨u0, c0⟩, f0⟩ := pt_cells hO5 hkn 0 (by omega)
      obtain ⟨⟨u1', c1⟩, f1⟩ := pt_cells hO5 hkn 1 (by omega)
      simp only [Nat.add_zero] at c0 f0
      have hset := Lib.hid (pts_set (q := x) (M := L) (i := kn) (by omega))
      replace hO5 := Lib.hid hO5
      replace hB5 := Lib.hid hB5
      replace hx := Lib.hid hx
      clear hsrc hO4 hB4 H4
      go_wp2_with fail
      refine bodyPost_ret (by simp [results, Tryz.results148, go_sem, ↓IntWalk.iteOmega, *]; try rfl) rfl ?_
      refine RetPtsD.mk (L := L.set kn x) (smP_set hL.out hx.out) h12 (by simp [hl]) rfl ?_ ?_ ?_
      · (repeat (first | (with_reducible exact Between.refl _ _ _) | (with_reducible refine Between.drew ?_) | (with_reducible refine Between.drewN ?_ _) | (with_reducible refine btw_own ?_ ?_ _) | (with_reducible refine btw_later _ ?_) | (with_reducible refine btw_alloc ?_ _) | (with_reducible refine btw_after _ ?_) | (with_reducible refine btw_beyond _ ?_ ?_) | (with_reducible refine Aft.btw _ ?_ ?_) | (with_reducible assumption) | (dsimp only; omega) | omega | ((try simp only [World.size_alloc, World.size_setCell, World.size_drew]); omega)))
      · (repeat (first | (with_reducible exact H5.out) | (with_reducible refine SrcOk.alloc ?_ _) | (with_reducible refine SrcOk.set ?_ ?_ _) | (with_reducible refine SrcOk.drewN ?_ _) | (with_reducible refine SrcOk.drew ?_) | (with_reducible refine SrcOk.later _ ?_) | (with_reducible refine SrcOk.after _ ?_ ?_) | (dsimp only; omega) | omega | ((try simp only [World.size_alloc, World.size_setCell, World.size_drew]); omega)))
      · rw [hset.out]
        exact owns_wide (lo := w.heap.size) (hi := z5.w.heap.size) ((hO5.out.set _).set _) (Nat.le_refl _) (by simp only [World.size_setCell]; omega)
    · go_wp2_with fail
      refine bodyPost_ret (by simp [results, Tryz.results148, go_sem, ↓IntWalk.iteOmega, *]; try rfl) rfl ?_
      refine RetPtsD.mkTwo hL.out h12 h2 hl rfl ?_ ?_ ?_
      · (repeat (first | (with_reducible exact Between.refl _ _ _) | (with_reducible refine Between.drew ?_) | (with_reducible refine Between.drewN ?_ _) | (with_reducible refine btw_own ?_ ?_ _) | (with_reducible refine btw_later _ ?_) | (with_reducible refine btw_alloc ?_ _) | (with_reducible refine btw_after _ ?_) | (with_reducible refine btw_beyond _ ?_ ?_) | (with_reducible refine Aft.btw _ ?_ ?_) | (with_reducible assumption) | (dsimp only; omega) | omega | ((try simp only [World.size_alloc, World.size_setCell, World.size_drew]); omega)))
      · (repeat (first | (with_reducible exact H4.out) | (with_reducible refine SrcOk.alloc ?_ _) | (with_reducible refine SrcOk.set ?_ ?_ _) | (with_reducible refine SrcOk.drewN ?_ _) | (with_reducible refine SrcOk.drew ?_) | (with_reducible refine SrcOk.later _ ?_) | (with_reducible refine SrcOk.after _ ?_ ?_) | (dsimp only; omega) | omega | ((try simp only [World.size_alloc, World.size_setCell, World.size_drew]); omega)))
      · exact hO4.out
    · have e0 : (q == 0) = false := by rw [beq_eq_false_iff_ne]; omega
      have e1 : (q == 1) = false := by rw [beq_eq_false_iff_ne]; omega
      go_wp2_with fail
      refine bodyPost_ret (by simp [results, Tryz.results148, go_sem, ↓IntWalk.iteOmega, *]; try rfl) rfl ?_
      refine RetPtsD.mk hL.out h12 hl rfl ?_ ?_ ?_
      · (repeat (first | (with_reducible exact Between.refl _ _ _) | (with_reducible refine Between.drew ?_) | (with_reducible refine Between.drewN ?_ _) | (with_reducible refine btw_own ?_ ?_ _) | (with_reducible refine btw_later _ ?_) | (with_reducible refine btw_alloc ?_ _) | (with_reducible refine btw_after _ ?_) | (with_reducible refine btw_beyond _ ?_ ?_) | (with_reducible refine Aft.btw _ ?_ ?_) | (with_reducible assumption) | (dsimp only; omega) | omega | ((try simp only [World.size_alloc, World.size_setCell, World.size_drew]); omega)))
      · (repeat (first | (with_reducible exact H4.out) | (with_reducible refine SrcOk.alloc ?_ _) | (with_reducible refine SrcOk.set ?_ ?_ _) | (with_reducible refine SrcOk.drewN ?_ _) | (with_reducible refine SrcOk.drew ?_) | (with_reducible refine SrcOk.later _ ?_) | (with_reducible refine SrcOk.after _ ?_ ?_) | (dsimp only; omega) | omega | ((try simp only [World.size_alloc, World.size_setCell, World.size_drew]); omega)))
      · exact hO4.out
end Go.Proofs.YtklcaphkfdlipaaGreatDoor

import Derived.Test.YtkkhjbdnpobpnaaDrawQ
/- Several of my texts, one behind the other: DrawU, DrawV, DrawW. -/
/- The draws of rings: any ring, rarely one that is not valid. -/
set_option linter.unusedSimpArgs false
set_option linter.unusedVariables false
namespace Go.Proofs.Ytkkhjbdnpobpnaa
open Go.RowKit
/-- Some points, in memory of the draw's own. -/
def RetPtsD (w : World) (g : Nat) (e : Ending) (w' : World) : Prop :=
  ∃ (L : List Pt) (a : Option Addr) (n c : Nat), (∀ p ∈ L, SmP p) ∧ n ≤ 12 ∧ L.length = n ∧ n ≤ c ∧ c ≤ maxLen ∧ e = .returned (.slice a n c) ∧ (∀ q : Addr, a = some q → w.heap.size ≤ q.block) ∧ ∃ z : After w g (g + 1), w' = z.w ∧ SrcOk z.w g ∧ Row z.w a (ptsCells L)
theorem own_caps {w : World} {base e n c : Nat} {a : Option Addr} {xs : List Value} (h : w.ownsRow base e 2 (.slice a n c) n xs) : n ≤ c ∧ c ≤ maxLen := by
  rcases h.2 with ⟨h0, h1⟩ | ⟨g', cap', cur, hv, hg, hb, h1, h2, h3, h4⟩
  · cases h0; exact ⟨by omega, by unfold maxLen; omega⟩
  · cases hv; exact ⟨h1, h2⟩
theorem RetPtsD.mk {w w' : World} {g : Nat} {e : Ending} {L : List Pt} {a : Option Addr} {n c : Nat} (h : ∀ p ∈ L, SmP p) (hn : n ≤ 12) (hl : L.length = n) (he : e = .returned (.slice a n c)) (hb : Between g (g + 1) w w') (hs : SrcOk w' g) (ho : Owns w' w.heap.size w'.heap.size 25 2 n a c (ptsCells L)) : RetPtsD w g e w' :=
  ⟨L, a, n, c, h, hn, hl, (own_caps ho.own).1, (own_caps ho.own).2, he, ho.ge, ⟨w', hb⟩, rfl, hs, ho.row⟩
theorem RetPtsD.mkTwo {w w' : World} {g : Nat} {e : Ending} {L : List Pt} {a : Option Addr} {n c : Nat} (h : ∀ p ∈ L, SmP p) (hn : n ≤ 12) (h2 : 2 ≤ n) (hl : L.length = n) (he : e = .returned (.slice a 2 c)) (hb : Between g (g + 1) w w') (hs : SrcOk w' g) (ho : Owns w' w.heap.size w'.heap.size 25 2 n a c (ptsCells L)) : RetPtsD w g e w' := by
  have hc := own_caps ho.own
  refine ⟨L.take 2, a, 2, c, fun p hp => h p (List.mem_of_mem_take hp), by omega, by simp; omega, by omega, hc.2, he, ho.ge, ⟨w', hb⟩, rfl, hs, ?_⟩
  intro j v hj
  refine ho.row j v ?_
  have e : ptsCells L = ptsCells (L.take 2) ++ ptsCells (L.drop 2) := by rw [← ptsCells_append, List.take_append_drop]
  rw [e]
  exact (List.getElem?_append_left (List.getElem?_eq_some_iff.1 hj).1).trans hj
theorem pts_set {q : Pt} : ∀ {M : List Pt} {i : Nat}, i < M.length → ptsCells (M.set i q) = ((ptsCells M).set (i * 2) (.int .i64 q.x)).set (i * 2 + 1) (.int .i64 q.y)
  | [], i, h => by simp at h
  | d :: M, 0, h => rfl
  | d :: M, i + 1, h => by
    have ih := pts_set (q := q) (M := M) (i := i) (by simpa using h)
    rw [show (i + 1) * 2 = i * 2 + 2 by omega, show i * 2 + 2 + 1 = (i * 2 + 1) + 2 by omega]
    show ptCells d ++ ptsCells (M.set i q) = _
    rw [ih]
    rfl
theorem pt_cells {W : World} {lo hi g n c i : Nat} {xs : List Value} (h : Owns W lo hi 25 2 n (some ⟨g, 0, none⟩) c xs) (hi' : i < n) (j : Nat) (hj : j < 2) : (∃ u, W.cell? ⟨g, i * 2 + j, none⟩ = some u) ∧ W.frozen? ⟨g, i * 2 + j, none⟩ = false := by
  have h1 := h.own.1
  obtain ⟨g0, e0, -, -, kc, kf⟩ := h.at_ (j := i * 2 + j) (by omega)
  cases e0
  exact ⟨⟨_, by rw [kc, List.getElem?_eq_getElem (by omega)]⟩, kf⟩
theorem smP_snoc {L : List Pt} {x : Pt} (h : ∀ y ∈ L, SmP y) (hx : SmP x) : ∀ y ∈ L ++ [x], SmP y := by
  intro y hy
  rcases List.mem_append.1 hy with hy | hy
  · exact h y hy
  · simp only [List.mem_cons, List.not_mem_nil, or_false] at hy
    subst hy
    exact hx
theorem smP_set {L : List Pt} {x : Pt} {i : Nat} (h : ∀ y ∈ L, SmP y) (hx : SmP x) : ∀ y ∈ L.set i x, SmP y := by
  intro y hy
  rcases List.mem_or_eq_of_mem_set hy with hy | rfl
  · exact h y hy
  · exact hx
set_option maxRecDepth 8000 in
set_option maxHeartbeats 8000000 in
theorem sRingDraw_any (g : Nat) (w : World) (h : SrcOk w g) : Calls Try.prog 29 #[.pointer (some ⟨g, 0, none⟩)] w (RetPtsD w g) := by
  have hg := h.lt
  have H0 := Lib.hid h
  obtain ⟨ii, j1, j2, j3, j4⟩ := info_pt'
  have Jii := Lib.hid (And.intro j1 (And.intro j2 (And.intro j3 j4)))
  clear h j1 j2 j3 j4
  go_enter Try.func29, Try.ntmps29
  go_wp2_with fail
  with_reducible refine (next_any g 4 _ (by (repeat (first | (with_reducible exact H0.out) | (with_reducible refine SrcOk.alloc ?_ _) | (with_reducible refine SrcOk.set ?_ ?_ _) | (with_reducible refine SrcOk.drewN ?_ _) | (with_reducible refine SrcOk.drew ?_) | (with_reducible refine SrcOk.later _ ?_) | (with_reducible refine SrcOk.after _ ?_ ?_) | (dsimp only; omega) | omega | ((try simp only [World.size_alloc, World.size_setCell, World.size_drew]); omega))))).mono ?_
  rintro e w' ⟨r, hdraw, rfl, z1, rfl, hsrc⟩
  have hsz1 := z1.btw.size
  (try simp only [World.size_alloc, World.size_setCell, World.size_drew] at hsz1)
  have H1 := Lib.hid hsrc
  clear hsrc
  obtain ⟨r0, r1⟩ := hdraw
  have u1 : w.heap.size ≤ z1.w.heap.size := (by omega)
  by_cases hr0 : r = 0
  · subst hr0
    go_wp2_with fail
    with_reducible refine (next_any g 3 _ (by (repeat (first | (with_reducible exact H1.out) | (with_reducible refine SrcOk.alloc ?_ _) | (with_reducible refine SrcOk.set ?_ ?_ _) | (with_reducible refine SrcOk.drewN ?_ _) | (with_reducible refine SrcOk.drew ?_) | (with_reducible refine SrcOk.later _ ?_) | (with_reducible refine SrcOk.after _ ?_ ?_) | (dsimp only; omega) | omega | ((try simp only [World.size_alloc, World.size_setCell, World.size_drew]); omega))))).mono ?_
    rintro e w' ⟨k0, hdraw, rfl, z2, rfl, hsrc⟩
    have hsz2 := z2.btw.size
    (try simp only [World.size_alloc, World.size_setCell, World.size_drew] at hsz2)
    have H2 := Lib.hid hsrc
    clear hsrc
    obtain ⟨k00, k01⟩ := hdraw
    have u2 : w.heap.size ≤ z2.w.heap.size := (by omega)
    have u3 : z1.w.heap.size + 1 ≤ z2.w.heap.size := (by omega)
    obtain ⟨K, rfl⟩ := Int.eq_ofNat_of_zero_le k00
    have hO0 : Owns z2.w w.heap.size z2.w.heap.size 25 2 0 (some ⟨z1.w.heap.size, 0, none⟩) 0 (ptsCells []) := by
      have h0 : Owns (z1.w.alloc (.cells #[] 25)) z1.w.heap.size (z1.w.heap.size + 1) 25 2 0 (some ⟨z1.w.heap.size, 0, none⟩) 0 (ptsCells []) := by
        have := Owns.of (World.ownsRow_lit (base := z1.w.heap.size) (e := 25) (size := 2) z1.w #[] 0 (Nat.le_refl _) (by unfold maxLen; omega) rfl)
        rw [show ptsCells [] = [] from rfl]
        simpa [World.size_alloc] using this
      refine owns_wide (lo := z1.w.heap.size) (hi := z1.w.heap.size + 1) ?_ (by omega) (by omega)
      (repeat (first | (with_reducible exact h0) | (with_reducible refine owns_after _ ?_ ?_) | (with_reducible refine owns_later _ ?_ ?_) | (with_reducible refine owns_alloc ?_ _) | (with_reducible refine owns_set ?_ ?_ _) | (with_reducible refine Owns.drewN ?_ _) | (with_reducible refine owns_drew ?_) | (dsimp only; omega) | omega | ((try simp only [World.size_alloc, World.size_setCell, World.size_drew]); omega)))
    have hB1 : Between g (g + 1) w z2.w := by (repeat (first | (with_reducible exact Between.refl _ _ _) | (with_reducible refine Between.drew ?_) | (with_reducible refine Between.drewN ?_ _) | (with_reducible refine btw_own ?_ ?_ _) | (with_reducible refine btw_later _ ?_) | (with_reducible refine btw_alloc ?_ _) | (with_reducible refine btw_after _ ?_) | (with_reducible refine btw_beyond _ ?_ ?_) | (with_reducible refine Aft.btw _ ?_ ?_) | (with_reducible assumption) | (dsimp only; omega) | omega | ((try simp only [World.size_alloc, World.size_setCell, World.size_drew]); omega)))
    replace hO0 := Lib.hid hO0
    replace hB1 := Lib.hid hB1
    go_wp2_with fail
    go_loopw [3, 4] (fun o i wr => ∃ (L : List Pt) (k : Nat) (a : Option Addr) (c : Nat), L.length + k ≤ 5 ∧ (∀ x ∈ L, SmP x) ∧ i = .int .i64 k ∧ o = .slice a L.length c ∧ Owns wr w.heap.size wr.heap.size 25 2 L.length a c (ptsCells L) ∧ SrcOk wr g ∧ Between g (g + 1) w wr) (fun _ i _ => (intOf i).toNat)
    case atStart => exact ⟨[], 3 + K, _, _, by simp only [List.length_nil]; omega, by simp, by go_num, rfl, hO0.out, H2.out, hB1.out⟩
    case round =>
      obtain ⟨L, k, a, c, hLk, hok, rfl, rfl, ho, hs, hb⟩ := hrel
      obtain ⟨q, rfl⟩ := AfterC.mk hb
      have hqs := q.btw.size
      clear hb hO0 hB1 H1 H2
      replace hs := Lib.hid hs
      replace ho := Lib.hid ho
      replace hok := Lib.hid hok
      by_cases hk : 0 < k
      · have hk' : (k : Int) > 0 := by omega
        go_wp2_with fail
        with_reducible refine (sPtDraw_any g _ (by (repeat (first | (with_reducible exact hs.out) | (with_reducible refine SrcOk.alloc ?_ _) | (with_reducible refine SrcOk.set ?_ ?_ _) | (with_reducible refine SrcOk.drewN ?_ _) | (with_reducible refine SrcOk.drew ?_) | (with_reducible refine SrcOk.later _ ?_) | (with_reducible refine SrcOk.after _ ?_ ?_) | (dsimp only; omega) | omega | ((try simp only [World.size_alloc, World.size_setCell, World.size_drew]); omega))))).mono ?_
        rintro e w' ⟨x, hx, rfl, z3, rfl, hsrc⟩
        have H3 := Lib.hid hsrc
        have hs3 := z3.btw.size
        (try simp only [World.size_alloc, World.size_setCell, World.size_drew] at hs3)
        replace hx := Lib.hid hx
        clear hsrc
        go_wp2_with (at_builtin; (refine wpList_append_apart _ rfl _ _ _ rfl 25 ii _ 2 16 Try.underlying33 Jii.out.1 Jii.out.2.1 Jii.out.2.2.1 Jii.out.2.2.2 rfl (by decide) (w.heap.size) (q.w.heap.size) ?qb1 _ _ _ (ptsCells L) rfl ?qb2 ?qb8 _ _ _ (ptCells x) rfl ?qb3 ?qb4 ?qb5 ?qb6 ?qb7 ?_); (case qb1 => (first | (dsimp only; omega) | omega | (simp only [World.size_alloc, World.size_setCell, World.size_drew]; omega))); (case qb2 => exact ((by (repeat (first | (with_reducible exact ho.out) | (with_reducible refine owns_after _ ?_ ?_) | (with_reducible refine owns_later _ ?_ ?_) | (with_reducible refine owns_alloc ?_ _) | (with_reducible refine owns_set ?_ ?_ _) | (with_reducible refine Owns.drewN ?_ _) | (with_reducible refine owns_drew ?_) | (dsimp only; omega) | omega | ((try simp only [World.size_alloc, World.size_setCell, World.size_drew]); omega))) : Owns _ w.heap.size q.w.heap.size 25 2 L.length a c (ptsCells L))).own); (case qb8 => exact ho.out.lt); (case qb3 => (first | rfl | (simp [boolCells]; done) | (simp [intCells]; done) | (simp; done) | (first | omega | (simp only [List.length_append, List.length_cons, List.length_nil]; omega)))); (case qb4 => exact Row.made _ _ _); (case qb5 => exact one_pt _); (case qb6 => (unfold maxLen; (first | omega | (simp only [List.length_append, List.length_cons, List.length_nil]; omega)))); (case qb7 => (first | omega | (simp only [List.length_append, List.length_cons, List.length_nil]; omega))); intro a9 c9 x9 hown9 hat9; replace hat9 := Lib.hid hat9; replace hown9 := Lib.hid hown9; have hs9 := x9.btw.size; (try simp only [World.size_alloc, World.size_setCell, World.size_drew] at hs9))
        go_roundw
        case rel =>
          refine ⟨L ++ [x], k - 1, a9, c9, by simp; omega, smP_snoc hok.out hx.out, by rw [← show ((k - 1 : Nat) : Int) = (k : Int) - 1 by omega], by simp, ?_, ?_, ?_⟩
          · rw [ptsCells_one, show (L ++ [x]).length = L.length + 1 by simp]
            exact Owns.of hown9.out
          · (repeat (first | (with_reducible exact H3.out) | (with_reducible refine SrcOk.alloc ?_ _) | (with_reducible refine SrcOk.set ?_ ?_ _) | (with_reducible refine SrcOk.drewN ?_ _) | (with_reducible refine SrcOk.drew ?_) | (with_reducible refine SrcOk.later _ ?_) | (with_reducible refine SrcOk.after _ ?_ ?_) | (dsimp only; omega) | omega | ((try simp only [World.size_alloc, World.size_setCell, World.size_drew]); omega)))
          · (repeat (first | (with_reducible exact Between.refl _ _ _) | (with_reducible refine Between.drew ?_) | (with_reducible refine Between.drewN ?_ _) | (with_reducible refine btw_own ?_ ?_ _) | (with_reducible refine btw_later _ ?_) | (with_reducible refine btw_alloc ?_ _) | (with_reducible refine btw_after _ ?_) | (with_reducible refine btw_beyond _ ?_ ?_) | (with_reducible refine Aft.btw _ ?_ ?_) | (with_reducible assumption) | (dsimp only; omega) | omega | ((try simp only [World.size_alloc, World.size_setCell, World.size_drew]); omega)))
        case measure => simp [intOf]; omega
      · obtain rfl : k = 0 := by omega
        go_wp2_with fail
        refine bodyPost_ret (by simp [results, Try.results29, go_sem, ↓IntWalk.iteOmega, *]; try rfl) rfl ?_
        refine RetPtsD.mk hok.out (by omega) rfl rfl ?_ ?_ ?_
        · (repeat (first | (with_reducible exact Between.refl _ _ _) | (with_reducible refine Between.drew ?_) | (with_reducible refine Between.drewN ?_ _) | (with_reducible refine btw_own ?_ ?_ _) | (with_reducible refine btw_later _ ?_) | (with_reducible refine btw_alloc ?_ _) | (with_reducible refine btw_after _ ?_) | (with_reducible refine btw_beyond _ ?_ ?_) | (with_reducible refine Aft.btw _ ?_ ?_) | (with_reducible assumption) | (dsimp only; omega) | omega | ((try simp only [World.size_alloc, World.size_setCell, World.size_drew]); omega)))
        · (repeat (first | (with_reducible exact hs.out) | (with_reducible refine SrcOk.alloc ?_ _) | (with_reducible refine SrcOk.set ?_ ?_ _) | (with_reducible refine SrcOk.drewN ?_ _) | (with_reducible refine SrcOk.drew ?_) | (with_reducible refine SrcOk.later _ ?_) | (with_reducible refine SrcOk.after _ ?_ ?_) | (dsimp only; omega) | omega | ((try simp only [World.size_alloc, World.size_setCell, World.size_drew]); omega)))
        · exact ho.out
  · go_wp2_with fail
    with_reducible refine (sRingGood_any g _ (by (repeat (first | (with_reducible exact H1.out) | (with_reducible refine SrcOk.alloc ?_ _) | (with_reducible refine SrcOk.set ?_ ?_ _) | (with_reducible refine SrcOk.drewN ?_ _) | (with_reducible refine SrcOk.drew ?_) | (with_reducible refine SrcOk.later _ ?_) | (with_reducible refine SrcOk.after _ ?_ ?_) | (dsimp only; omega) | omega | ((try simp only [World.size_alloc, World.size_setCell, World.size_drew]); omega))))).mono ?_
    rintro e w' ⟨L, a, n, c, hL, h2, h12, hl, rfl, z2, rfl, hsrc, ho⟩
    have H2 := Lib.hid hsrc
    have hs2 := z2.btw.size
    (try simp only [World.size_alloc, World.size_setCell, World.size_drew] at hs2)
    obtain ⟨b, rfl, -, -, -, -⟩ := ho.at_ (j := 0) (by omega)
    have hb1 := ho.ge _ rfl
    have hb2 := ho.lt _ rfl
    dsimp only at hb1 hb2
    have HO := Lib.hid ho
    clear hsrc ho H1
    replace hL := Lib.hid hL
    have u2 : w.heap.size ≤ z2.w.heap.size := (by omega)
    go_wp2_with fail
    with_reducible refine (next_any g (n : Int) _ (by (repeat (first | (with_reducible exact H2.out) | (with_reducible refine SrcOk.alloc ?_ _) | (with_reducible refine SrcOk.set ?_ ?_ _) | (with_reducible refine SrcOk.drewN ?_ _) | (with_reducible refine SrcOk.drew ?_) | (with_reducible refine SrcOk.later _ ?_) | (with_reducible refine SrcOk.after _ ?_ ?_) | (dsimp only; omega) | omega | ((try simp only [World.size_alloc, World.size_setCell, World.size_drew]); omega))))).mono ?_
    rintro e w' ⟨k, hdraw, rfl, z3, rfl, hsrc⟩
    have hsz3 := z3.btw.size
    (try simp only [World.size_alloc, World.size_setCell, World.size_drew] at hsz3)
    have H3 := Lib.hid hsrc
    clear hsrc
    obtain ⟨k0, k1⟩ := hdraw
    obtain ⟨kn, rfl⟩ := Int.eq_ofNat_of_zero_le k0
    have hkn : kn < n := by omega
    have hkn' : (kn : Int) < (n : Int) := by omega
    go_wp2_with fail
    with_reducible refine (next_any g 24 _ (by (repeat (first | (with_reducible exact H3.out) | (with_reducible refine SrcOk.alloc ?_ _) | (with_reducible refine SrcOk.set ?_ ?_ _) | (with_reducible refine SrcOk.drewN ?_ _) | (with_reducible refine SrcOk.drew ?_) | (with_reducible refine SrcOk.later _ ?_) | (with_reducible refine SrcOk.after _ ?_ ?_) | (dsimp only; omega) | omega | ((try simp only [World.size_alloc, World.size_setCell, World.size_drew]); omega))))).mono ?_
    rintro e w' ⟨q, hdraw, rfl, z4, rfl, hsrc⟩
    have hsz4 := z4.btw.size
    (try simp only [World.size_alloc, World.size_setCell, World.size_drew] at hsz4)
    have H4 := Lib.hid hsrc
    clear hsrc
    obtain ⟨q0, q1⟩ := hdraw
    have u4 : z2.w.heap.size ≤ z4.w.heap.size := (by omega)
    have hB4 : Between g (g + 1) w z4.w := by (repeat (first | (with_reducible exact Between.refl _ _ _) | (with_reducible refine Between.drew ?_) | (with_reducible refine Between.drewN ?_ _) | (with_reducible refine btw_own ?_ ?_ _) | (with_reducible refine btw_later _ ?_) | (with_reducible refine btw_alloc ?_ _) | (with_reducible refine btw_after _ ?_) | (with_reducible refine btw_beyond _ ?_ ?_) | (with_reducible refine Aft.btw _ ?_ ?_) | (with_reducible assumption) | (dsimp only; omega) | omega | ((try simp only [World.size_alloc, World.size_setCell, World.size_drew]); omega)))
    have hO4 : Owns z4.w w.heap.size z4.w.heap.size 25 2 n (some ⟨b, 0, none⟩) c (ptsCells L) := by
      refine owns_wide (lo := z1.w.heap.size) (hi := z2.w.heap.size) ?_ (by omega) (by omega)
      (repeat (first | (with_reducible exact HO.out) | (with_reducible refine owns_after _ ?_ ?_) | (with_reducible refine owns_later _ ?_ ?_) | (with_reducible refine owns_alloc ?_ _) | (with_reducible refine owns_set ?_ ?_ _) | (with_reducible refine Owns.drewN ?_ _) | (with_reducible refine owns_drew ?_) | (dsimp only; omega) | omega | ((try simp only [World.size_alloc, World.size_setCell, World.size_drew]); omega)))
    obtain ⟨hcp, hcm⟩ := own_caps hO4.own
    have h2c : 2 ≤ c := by omega
    replace hB4 := Lib.hid hB4
    replace hO4 := Lib.hid hO4
    clear HO
    rcases (show q = 0 ∨ q = 1 ∨ 2 ≤ q by omega) with rfl | rfl | hq2
    · go_wp2_with fail
      with_reducible refine (sPtDraw_any g _ (by (repeat (first | (with_reducible exact H4.out) | (with_reducible refine SrcOk.alloc ?_ _) | (with_reducible refine SrcOk.set ?_ ?_ _) | (with_reducible refine SrcOk.drewN ?_ _) | (with_reducible refine SrcOk.drew ?_) | (with_reducible refine SrcOk.later _ ?_) | (with_reducible refine SrcOk.after _ ?_ ?_) | (dsimp only; omega) | omega | ((try simp only [World.size_alloc, World.size_setCell, World.size_drew]); omega))))).mono ?_
      rintro e w' ⟨x, hx, rfl, z5, rfl, hsrc⟩
      have H5 := Lib.hid hsrc
      have hs5 := z5.btw.size
      (try simp only [World.size_alloc, World.size_setCell, World.size_drew] at hs5)
      have hO5 : Owns z5.w w.heap.size z5.w.heap.size 25 2 n (some ⟨b, 0, none⟩) c (ptsCells L) := by
        refine owns_wide (lo := w.heap.size) (hi := z4.w.heap.size) ?_ (by omega) (by omega)
        (repeat (first | (with_reducible exact hO4.out) | (with_reducible refine owns_after _ ?_ ?_) | (with_reducible refine owns_later _ ?_ ?_) | (with_reducible refine owns_alloc ?_ _) | (with_reducible refine owns_set ?_ ?_ _) | (with_reducible refine Owns.drewN ?_ _) | (with_reducible refine owns_drew ?_) | (dsimp only; omega) | omega | ((try simp only [World.size_alloc, World.size_setCell, World.size_drew]); omega)))
      have hB5 : Between g (g + 1) w z5.w := by (repeat (first | (with_reducible exact Between.refl _ _ _) | (with_reducible refine Between.drew ?_) | (with_reducible refine Between.drewN ?_ _) | (with_reducible refine btw_own ?_ ?_ _) | (with_reducible refine btw_later _ ?_) | (with_reducible refine btw_alloc ?_ _) | (with_reducible refine btw_after _ ?_) | (with_reducible refine btw_beyond _ ?_ ?_) | (with_reducible refine Aft.btw _ ?_ ?_) | (with_reducible assumption) | (dsimp only; omega) | omega | ((try simp only [World.size_alloc, World.size_setCell, World.size_drew]); omega)))
      obtain ⟨⟨u0, c0⟩, f0⟩ := pt_cells hO5 hkn 0 (by omega)
      obtain ⟨⟨u1', c1⟩, f1⟩ := pt_cells hO5 hkn 1 (by omega)
      simp only [Nat.add_zero] at c0 f0
      have hset := Lib.hid (pts_set (q := x) (M := L) (i := kn) (by omega))
      replace hO5 := Lib.hid hO5
      replace hB5 := Lib.hid hB5
      replace hx := Lib.hid hx
      clear hsrc hO4 hB4 H4
      go_wp2_with fail
      refine bodyPost_ret (by simp [results, Try.results29, go_sem, ↓IntWalk.iteOmega, *]; try rfl) rfl ?_
      refine RetPtsD.mk (L := L.set kn x) (smP_set hL.out hx.out) h12 (by simp [hl]) rfl ?_ ?_ ?_
      · (repeat (first | (with_reducible exact Between.refl _ _ _) | (with_reducible refine Between.drew ?_) | (with_reducible refine Between.drewN ?_ _) | (with_reducible refine btw_own ?_ ?_ _) | (with_reducible refine btw_later _ ?_) | (with_reducible refine btw_alloc ?_ _) | (with_reducible refine btw_after _ ?_) | (with_reducible refine btw_beyond _ ?_ ?_) | (with_reducible refine Aft.btw _ ?_ ?_) | (with_reducible assumption) | (dsimp only; omega) | omega | ((try simp only [World.size_alloc, World.size_setCell, World.size_drew]); omega)))
      · (repeat (first | (with_reducible exact H5.out) | (with_reducible refine SrcOk.alloc ?_ _) | (with_reducible refine SrcOk.set ?_ ?_ _) | (with_reducible refine SrcOk.drewN ?_ _) | (with_reducible refine SrcOk.drew ?_) | (with_reducible refine SrcOk.later _ ?_) | (with_reducible refine SrcOk.after _ ?_ ?_) | (dsimp only; omega) | omega | ((try simp only [World.size_alloc, World.size_setCell, World.size_drew]); omega)))
      · rw [hset.out]
        exact owns_wide (lo := w.heap.size) (hi := z5.w.heap.size) ((hO5.out.set _).set _) (Nat.le_refl _) (by simp only [World.size_setCell]; omega)
    · go_wp2_with fail
      refine bodyPost_ret (by simp [results, Try.results29, go_sem, ↓IntWalk.iteOmega, *]; try rfl) rfl ?_
      refine RetPtsD.mkTwo hL.out h12 h2 hl rfl ?_ ?_ ?_
      · (repeat (first | (with_reducible exact Between.refl _ _ _) | (with_reducible refine Between.drew ?_) | (with_reducible refine Between.drewN ?_ _) | (with_reducible refine btw_own ?_ ?_ _) | (with_reducible refine btw_later _ ?_) | (with_reducible refine btw_alloc ?_ _) | (with_reducible refine btw_after _ ?_) | (with_reducible refine btw_beyond _ ?_ ?_) | (with_reducible refine Aft.btw _ ?_ ?_) | (with_reducible assumption) | (dsimp only; omega) | omega | ((try simp only [World.size_alloc, World.size_setCell, World.size_drew]); omega)))
      · (repeat (first | (with_reducible exact H4.out) | (with_reducible refine SrcOk.alloc ?_ _) | (with_reducible refine SrcOk.set ?_ ?_ _) | (with_reducible refine SrcOk.drewN ?_ _) | (with_reducible refine SrcOk.drew ?_) | (with_reducible refine SrcOk.later _ ?_) | (with_reducible refine SrcOk.after _ ?_ ?_) | (dsimp only; omega) | omega | ((try simp only [World.size_alloc, World.size_setCell, World.size_drew]); omega)))
      · exact hO4.out
    · have e0 : (q == 0) = false := by rw [beq_eq_false_iff_ne]; omega
      have e1 : (q == 1) = false := by rw [beq_eq_false_iff_ne]; omega
      go_wp2_with fail
      refine bodyPost_ret (by simp [results, Try.results29, go_sem, ↓IntWalk.iteOmega, *]; try rfl) rfl ?_
      refine RetPtsD.mk hL.out h12 hl rfl ?_ ?_ ?_
      · (repeat (first | (with_reducible exact Between.refl _ _ _) | (with_reducible refine Between.drew ?_) | (with_reducible refine Between.drewN ?_ _) | (with_reducible refine btw_own ?_ ?_ _) | (with_reducible refine btw_later _ ?_) | (with_reducible refine btw_alloc ?_ _) | (with_reducible refine btw_after _ ?_) | (with_reducible refine btw_beyond _ ?_ ?_) | (with_reducible refine Aft.btw _ ?_ ?_) | (with_reducible assumption) | (dsimp only; omega) | omega | ((try simp only [World.size_alloc, World.size_setCell, World.size_drew]); omega)))
      · (repeat (first | (with_reducible exact H4.out) | (with_reducible refine SrcOk.alloc ?_ _) | (with_reducible refine SrcOk.set ?_ ?_ _) | (with_reducible refine SrcOk.drewN ?_ _) | (with_reducible refine SrcOk.drew ?_) | (with_reducible refine SrcOk.later _ ?_) | (with_reducible refine SrcOk.after _ ?_ ?_) | (dsimp only; omega) | omega | ((try simp only [World.size_alloc, World.size_setCell, World.size_drew]); omega)))
      · exact hO4.out
end Go.Proofs.Ytkkhjbdnpobpnaa

/- What the law on pieces draws: a ring and a mask. -/
set_option linter.unusedSimpArgs false
set_option linter.unusedVariables false
namespace Go.Proofs.Ytkkhjbdnpobpnaa
open Go.RowKit
/-- A ring and a mask, whatever they are. -/
def RetRM (w : World) (e : Ending) (w' : World) : Prop :=
  ∃ (L : List Pt) (pa : Option Addr) (pn pc : Nat) (x y W H : Int) (a : Option Addr) (n c : Nat) (l : List Bool), pn ≤ 12 ∧ L.length = pn ∧ pn ≤ pc ∧ pc ≤ maxLen ∧ l.length = n ∧ n ≤ 1048576 ∧
    e = .returned (.tuple #[.slice pa pn pc, .agg #[.int .i64 x, .int .i64 y, .int .i64 W, .int .i64 H, .slice a n c]]) ∧ ∃ z : Later w, w' = z.w ∧ Row z.w pa (ptsCells L) ∧ Row z.w a (boolCells l)
theorem RetRM.mk {w w' : World} {e : Ending} {L : List Pt} {pa : Option Addr} {pn pc : Nat} {x y W H : Int} {a : Option Addr} {n c : Nat} {l : List Bool} (h1 : pn ≤ 12) (h2 : L.length = pn) (h3 : pn ≤ pc) (h4 : pc ≤ maxLen) (h5 : l.length = n) (h6 : n ≤ 1048576)
    (he : e = .returned (.tuple #[.slice pa pn pc, .agg #[.int .i64 x, .int .i64 y, .int .i64 W, .int .i64 H, .slice a n c]])) (hb : Below w.heap.size w w') (hp : Row w' pa (ptsCells L)) (hr : Row w' a (boolCells l)) : RetRM w e w' :=
  ⟨L, pa, pn, pc, x, y, W, H, a, n, c, l, h1, h2, h3, h4, h5, h6, he, ⟨w', hb⟩, rfl, hp, hr⟩
abbrev stoM (w : World) (b : Nat) (x y W H : Int) (v : Value) : World :=
  ((((w.setCell ⟨b, 0, none⟩ (.int .i64 x)).setCell ⟨b, 1, none⟩ (.int .i64 y)).setCell ⟨b, 2, none⟩ (.int .i64 W)).setCell ⟨b, 3, none⟩ (.int .i64 H)).setCell ⟨b, 4, none⟩ v
theorem bel_stoM {B : Nat} {a w : World} (h : Below B a w) {b : Nat} (hb : B ≤ b) (x y W H : Int) (v : Value) : Below B a (stoM w b x y W H v) :=
  ((((h.setCell (p := ⟨b, 0, none⟩) hb _).setCell (p := ⟨b, 1, none⟩) hb _).setCell (p := ⟨b, 2, none⟩) hb _).setCell (p := ⟨b, 3, none⟩) hb _).setCell (p := ⟨b, 4, none⟩) hb _
theorem row_stoM {w : World} {b : Nat} {x y W H : Int} {v : Value} {a : Option Addr} {xs : List Value} (h : Row w a xs) (ha : ∀ p : Addr, a = some p → b < p.block) : Row (stoM w b x y W H v) a xs :=
  h.btw (lo := b) (hi := b + 1) (Between.set (p := ⟨b, 4, none⟩) (Between.set (p := ⟨b, 3, none⟩) (Between.set (p := ⟨b, 2, none⟩) (Between.set (p := ⟨b, 1, none⟩) (Between.set (p := ⟨b, 0, none⟩) (Between.refl _ _ _) (Nat.le_refl _) (Nat.lt_succ_self _) (.int .i64 x)) (Nat.le_refl _) (Nat.lt_succ_self _) (.int .i64 y)) (Nat.le_refl _) (Nat.lt_succ_self _) (.int .i64 W)) (Nat.le_refl _) (Nat.lt_succ_self _) (.int .i64 H)) (Nat.le_refl _) (Nat.lt_succ_self _) v) (fun p hp => .inr (ha p hp))
section
variable (a : Option Addr) (n c : Nat) (bs : List Int) (w : World) (hr : Row w a (byteCells bs)) (hl : bs.length = n) (hn : n ≤ 4096) (hx : ∀ x ∈ bs, 0 ≤ x ∧ x ≤ 255)
include hr hl hn hx
set_option maxRecDepth 4000 in
set_option maxHeartbeats 4000000 in
theorem drawMaskOfRing_any : Calls Try.prog 8 #[.slice a n c] w (RetRM w) := by
  replace hr := Lib.hid hr
  replace hl := Lib.hid hl
  replace hx := Lib.hid hx
  go_enter Try.func8, Try.ntmps8
  go_wp2_with fail
  with_reducible refine (from_any a n c bs _ (hr.out.bel (by (repeat (first | (with_reducible exact Below.refl _ _) | (with_reducible assumption) | (with_reducible refine Later.out _ ?_) | (with_reducible refine bel_alloc ?_ _) | (with_reducible refine bel_drew ?_) | (with_reducible refine bel_drewN ?_ _) | (with_reducible refine bel_set ?_ ?_ _) | (with_reducible refine After.out _ ?_ ?_) | (dsimp only; omega) | omega | (simp only [World.size_alloc, World.size_setCell, World.size_drew]; omega))))) hl.out hn hx.out).mono ?_
  rintro e w' ⟨g, hg, rfl, y, rfl, hsrc⟩
  have hsy := y.bel.size
  (try simp only [World.size_alloc, World.size_setCell, World.size_drew] at hg hsy)
  have H0 := Lib.hid hsrc
  have hgy := hsrc.lt
  clear hsrc
  go_wp2_with fail
  with_reducible refine (sRingDraw_any g _ (by (repeat (first | (with_reducible exact H0.out) | (with_reducible refine SrcOk.alloc ?_ _) | (with_reducible refine SrcOk.set ?_ ?_ _) | (with_reducible refine SrcOk.drewN ?_ _) | (with_reducible refine SrcOk.drew ?_) | (with_reducible refine SrcOk.later _ ?_) | (with_reducible refine SrcOk.after _ ?_ ?_) | (dsimp only; omega) | omega | ((try simp only [World.size_alloc, World.size_setCell, World.size_drew]); omega))))).mono ?_
  rintro e w' ⟨L, pa, pn, pc, hL, k12, hpl, hpc, hpm, rfl, hge, z1, rfl, hsrc, hprow⟩
  have hs1 := z1.btw.size
  (try simp only [World.size_alloc, World.size_setCell, World.size_drew] at hge hs1)
  have H1 := Lib.hid hsrc
  clear hsrc hL
  go_wp2_with fail
  with_reducible refine (sDraw_any g _ (by (repeat (first | (with_reducible exact H1.out) | (with_reducible refine SrcOk.alloc ?_ _) | (with_reducible refine SrcOk.set ?_ ?_ _) | (with_reducible refine SrcOk.drewN ?_ _) | (with_reducible refine SrcOk.drew ?_) | (with_reducible refine SrcOk.later _ ?_) | (with_reducible refine SrcOk.after _ ?_ ?_) | (dsimp only; omega) | omega | ((try simp only [World.size_alloc, World.size_setCell, World.size_drew]); omega))))).mono ?_
  rintro e w' ⟨x, y', W, H, a2, n2, c2, l2, ⟨k1, k2, k3, k4, k5, k6, k7, k8, k9⟩, hl2, rfl, z2, rfl, hsrc, ho⟩
  have hs2 := z2.btw.size
  (try simp only [World.size_alloc, World.size_setCell, World.size_drew] at hs2)
  have hP := Lib.hid (hprow.btw z2.btw (fun p hp => .inr (by have := hge p hp; omega)))
  have hQ := Lib.hid ho.row
  have hgl : ∀ p : Addr, pa = some p → w.heap.size < p.block := fun p hp => by have := hge p hp; omega
  have hql : ∀ p : Addr, a2 = some p → w.heap.size < p.block := fun p hp => by have := ho.ge p hp; omega
  clear hprow ho hsrc
  have u1 : w.heap.size < y.w.heap.size := (by omega)
  have u2 : w.heap.size < z1.w.heap.size := (by omega)
  have u3 : w.heap.size < z2.w.heap.size := (by omega)
  have hb1 : Below w.heap.size w z1.w := z1.out (by (repeat (first | (with_reducible exact Below.refl _ _) | (with_reducible assumption) | (with_reducible refine Later.out _ ?_) | (with_reducible refine bel_alloc ?_ _) | (with_reducible refine bel_drew ?_) | (with_reducible refine bel_drewN ?_ _) | (with_reducible refine bel_set ?_ ?_ _) | (with_reducible refine After.out _ ?_ ?_) | (dsimp only; omega) | omega | (simp only [World.size_alloc, World.size_setCell, World.size_drew]; omega)))) (by omega)
  have hb : Below w.heap.size w z2.w := z2.out hb1 (by omega)
  go_wp2_with fail
  refine bodyPost_ret (by simp [results, Try.results8, go_sem, ↓IntWalk.iteOmega, *]; try rfl) rfl ?_
  exact RetRM.mk (L := L) (l := l2) k12 hpl hpc hpm hl2 (by omega) rfl (bel_stoM hb (Nat.le_refl _) _ _ _ _ _) (row_stoM hP.out hgl) (row_stoM hQ.out hql)
end
end Go.Proofs.Ytkkhjbdnpobpnaa

/- What the law on pieces draws: a mask and a point. -/
set_option linter.unusedSimpArgs false
set_option linter.unusedVariables false
namespace Go.Proofs.Ytkkhjbdnpobpnaa
open Go.RowKit
/-- A mask and a point, whatever they are. -/
def RetMP (w : World) (e : Ending) (w' : World) : Prop :=
  ∃ (px py x y W H : Int) (a : Option Addr) (n c : Nat) (l : List Bool), l.length = n ∧ n ≤ 1048576 ∧
    e = .returned (.tuple #[.agg #[.int .i64 x, .int .i64 y, .int .i64 W, .int .i64 H, .slice a n c], .agg #[.int .i64 px, .int .i64 py]]) ∧ ∃ z : Later w, w' = z.w ∧ Row z.w a (boolCells l)
theorem RetMP.mk {w w' : World} {e : Ending} {px py x y W H : Int} {a : Option Addr} {n c : Nat} {l : List Bool} (h5 : l.length = n) (h6 : n ≤ 1048576)
    (he : e = .returned (.tuple #[.agg #[.int .i64 x, .int .i64 y, .int .i64 W, .int .i64 H, .slice a n c], .agg #[.int .i64 px, .int .i64 py]])) (hb : Below w.heap.size w w') (hr : Row w' a (boolCells l)) : RetMP w e w' :=
  ⟨px, py, x, y, W, H, a, n, c, l, h5, h6, he, ⟨w', hb⟩, rfl, hr⟩
section
variable (a : Option Addr) (n c : Nat) (bs : List Int) (w : World) (hr : Row w a (byteCells bs)) (hl : bs.length = n) (hn : n ≤ 4096) (hx : ∀ x ∈ bs, 0 ≤ x ∧ x ≤ 255)
include hr hl hn hx
set_option maxRecDepth 4000 in
set_option maxHeartbeats 4000000 in
theorem drawPieceAt_any : Calls Try.prog 5 #[.slice a n c] w (RetMP w) := by
  replace hr := Lib.hid hr
  replace hl := Lib.hid hl
  replace hx := Lib.hid hx
  go_enter Try.func5, Try.ntmps5
  go_wp2_with fail
  with_reducible refine (from_any a n c bs _ (hr.out.bel (by (repeat (first | (with_reducible exact Below.refl _ _) | (with_reducible assumption) | (with_reducible refine Later.out _ ?_) | (with_reducible refine bel_alloc ?_ _) | (with_reducible refine bel_drew ?_) | (with_reducible refine bel_drewN ?_ _) | (with_reducible refine bel_set ?_ ?_ _) | (with_reducible refine After.out _ ?_ ?_) | (dsimp only; omega) | omega | (simp only [World.size_alloc, World.size_setCell, World.size_drew]; omega))))) hl.out hn hx.out).mono ?_
  rintro e w' ⟨g, hg, rfl, y, rfl, hsrc⟩
  have hsy := y.bel.size
  (try simp only [World.size_alloc, World.size_setCell, World.size_drew] at hg hsy)
  have H0 := Lib.hid hsrc
  have hgy := hsrc.lt
  clear hsrc
  go_wp2_with fail
  with_reducible refine (sDraw_any g _ (by (repeat (first | (with_reducible exact H0.out) | (with_reducible refine SrcOk.alloc ?_ _) | (with_reducible refine SrcOk.set ?_ ?_ _) | (with_reducible refine SrcOk.drewN ?_ _) | (with_reducible refine SrcOk.drew ?_) | (with_reducible refine SrcOk.later _ ?_) | (with_reducible refine SrcOk.after _ ?_ ?_) | (dsimp only; omega) | omega | ((try simp only [World.size_alloc, World.size_setCell, World.size_drew]); omega))))).mono ?_
  rintro e w' ⟨x, y', W, H, a2, n2, c2, l2, ⟨k1, k2, k3, k4, k5, k6, k7, k8, k9⟩, hl2, rfl, z1, rfl, hsrc, ho⟩
  have hs1 := z1.btw.size
  (try simp only [World.size_alloc, World.size_setCell, World.size_drew] at hs1)
  have H1 := Lib.hid hsrc
  have hQ := Lib.hid ho.row
  have hql : ∀ p : Addr, a2 = some p → w.heap.size + 1 < p.block ∧ g < p.block := fun p hp => by have := ho.ge p hp; omega
  clear ho hsrc
  have u1 : w.heap.size < y.w.heap.size := (by omega)
  have u2 : w.heap.size + 1 < y.w.heap.size := (by omega)
  have u3 : w.heap.size < z1.w.heap.size := (by omega)
  have u4 : w.heap.size + 1 < z1.w.heap.size := (by omega)
  have u5 : g < z1.w.heap.size := (by omega)
  have hb1 : Below w.heap.size w z1.w := z1.out (by (repeat (first | (with_reducible exact Below.refl _ _) | (with_reducible assumption) | (with_reducible refine Later.out _ ?_) | (with_reducible refine bel_alloc ?_ _) | (with_reducible refine bel_drew ?_) | (with_reducible refine bel_drewN ?_ _) | (with_reducible refine bel_set ?_ ?_ _) | (with_reducible refine After.out _ ?_ ?_) | (dsimp only; omega) | omega | (simp only [World.size_alloc, World.size_setCell, World.size_drew]; omega)))) (by omega)
  go_wp2_with fail
  refine wp_region_plan [(0, true), (1, true), (2, true), (3, true), (4, true), (8, true), (9, true), (10, true), (11, true), (5, false), (6, true), (7, true), (12, false), (13, true), (14, true), (15, true), (16, false), (17, false)] (C := AftRC g w.heap.size (w.heap.size + 2) _) (by kernel_rfl) (by kernel_rfl) (by kernel_rfl) rfl (fun _ _ d _ _ h => by cases d <;> exact h) (AftRC.mk ((ButR.refl _ _ _ _).drew)) ?_
  first | (refine plan_quiet nth0 rfl ?_; intro KP hKP; go_big_quiet_op; go_big_quiet_on) | (refine plan_skip_q nth0 rfl rfl ?_; simp only [Act.put, List.setIfInBounds_toArray, List.set_cons_zero, List.set_cons_succ])
  first | (refine plan_quiet nth1 rfl ?_; intro KP hKP; go_big_quiet_op; go_big_quiet_on) | (refine plan_skip_q nth1 rfl rfl ?_; simp only [Act.put, List.setIfInBounds_toArray, List.set_cons_zero, List.set_cons_succ])
  first | (refine plan_quiet nth2 rfl ?_; intro KP hKP; go_big_quiet_op; go_big_quiet_on) | (refine plan_skip_q nth2 rfl rfl ?_; simp only [Act.put, List.setIfInBounds_toArray, List.set_cons_zero, List.set_cons_succ])
  first | (refine plan_quiet nth3 rfl ?_; intro KP hKP; go_big_quiet_op; go_big_quiet_on) | (refine plan_skip_q nth3 rfl rfl ?_; simp only [Act.put, List.setIfInBounds_toArray, List.set_cons_zero, List.set_cons_succ])
  first | (refine plan_quiet nth4 rfl ?_; intro KP hKP; go_big_quiet_op; go_big_quiet_on) | (refine plan_skip_q nth4 rfl rfl ?_; simp only [Act.put, List.setIfInBounds_toArray, List.set_cons_zero, List.set_cons_succ])
  first | (refine plan_quiet nth8 rfl ?_; intro KP hKP; go_big_quiet_op; go_big_quiet_on) | (refine plan_skip_q nth8 rfl rfl ?_; simp only [Act.put, List.setIfInBounds_toArray, List.set_cons_zero, List.set_cons_succ])
  first | (refine plan_quiet nth9 rfl ?_; intro KP hKP; go_big_quiet_op; go_big_quiet_on) | (refine plan_skip_q nth9 rfl rfl ?_; simp only [Act.put, List.setIfInBounds_toArray, List.set_cons_zero, List.set_cons_succ])
  first | (refine plan_quiet nth10 rfl ?_; intro KP hKP; go_big_quiet_op; go_big_quiet_on) | (refine plan_skip_q nth10 rfl rfl ?_; simp only [Act.put, List.setIfInBounds_toArray, List.set_cons_zero, List.set_cons_succ])
  first | (refine plan_quiet nth11 rfl ?_; intro KP hKP; go_big_quiet_op; go_big_quiet_on) | (refine plan_skip_q nth11 rfl rfl ?_; simp only [Act.put, List.setIfInBounds_toArray, List.set_cons_zero, List.set_cons_succ])
  first | (refine plan_loud nth5 rfl ?_; intro KP hKP; go_wp2_with (first | (go_at_call 20; have _tst := H2.out; (with_reducible refine (next_any g 9 _ (by (repeat (first | (with_reducible exact H2.out) | (with_reducible refine SrcOk.alloc ?_ _) | (with_reducible refine SrcOk.set ?_ ?_ _) | (with_reducible refine SrcOk.drewN ?_ _) | (with_reducible refine SrcOk.drew ?_) | (with_reducible refine SrcOk.later _ ?_) | (with_reducible refine SrcOk.after _ ?_ ?_) | (dsimp only; omega) | omega | ((try simp only [World.size_alloc, World.size_setCell, World.size_drew]); omega))))).mono ?_); rintro e w' ⟨q, ⟨q0, q1⟩, rfl, z3, rfl, hsrc⟩; have hs_z3 := z3.btw.size; have H3 := Lib.hid hsrc; clear hsrc; (try simp only [World.size_alloc, World.size_setCell, World.size_drew] at hs_z3); have vz31 : w.heap.size < z3.w.heap.size := (by omega); have vz32 : w.heap.size + 1 < z3.w.heap.size := (by omega)) | (go_at_call 20; (with_reducible refine (next_any g 9 _ (by (repeat (first | (with_reducible exact H1.out) | (with_reducible refine SrcOk.alloc ?_ _) | (with_reducible refine SrcOk.set ?_ ?_ _) | (with_reducible refine SrcOk.drewN ?_ _) | (with_reducible refine SrcOk.drew ?_) | (with_reducible refine SrcOk.later _ ?_) | (with_reducible refine SrcOk.after _ ?_ ?_) | (dsimp only; omega) | omega | ((try simp only [World.size_alloc, World.size_setCell, World.size_drew]); omega))))).mono ?_); rintro e w' ⟨p, ⟨p0, p1⟩, rfl, z2, rfl, hsrc⟩; have hs_z2 := z2.btw.size; have H2 := Lib.hid hsrc; clear hsrc; (try simp only [World.size_alloc, World.size_setCell, World.size_drew] at hs_z2); have vz21 : w.heap.size < z2.w.heap.size := (by omega); have vz22 : w.heap.size + 1 < z2.w.heap.size := (by omega))); refine hKP _ _ (AftRC.mk (by (repeat (first | (with_reducible exact ButR.refl _ _ _ _) | (with_reducible refine ButR.drew ?_) | (with_reducible refine ButR.drewN ?_ _) | (with_reducible refine ButR.set ?_ ?_ _) | (with_reducible refine ButR.after _ ?_) | (with_reducible refine butr_later _ ?_) | (with_reducible refine butr_alloc ?_ _) | (with_reducible assumption) | (exact .inl rfl) | (dsimp only; omega) | omega)))) ?_; clear hKP KP) | (refine plan_skip nth5 rfl rfl (AftRC.mk (by (repeat (first | (with_reducible exact ButR.refl _ _ _ _) | (with_reducible refine ButR.drew ?_) | (with_reducible refine ButR.drewN ?_ _) | (with_reducible refine ButR.set ?_ ?_ _) | (with_reducible refine ButR.after _ ?_) | (with_reducible refine butr_later _ ?_) | (with_reducible refine butr_alloc ?_ _) | (with_reducible assumption) | (exact .inl rfl) | (dsimp only; omega) | omega)))) ?_; simp only [Act.put, List.setIfInBounds_toArray, List.set_cons_zero, List.set_cons_succ])
  first | (refine plan_quiet nth6 rfl ?_; intro KP hKP; go_big_quiet_op; go_big_quiet_on) | (refine plan_skip_q nth6 rfl rfl ?_; simp only [Act.put, List.setIfInBounds_toArray, List.set_cons_zero, List.set_cons_succ])
  first | (refine plan_quiet nth7 rfl ?_; intro KP hKP; go_big_quiet_op; go_big_quiet_on) | (refine plan_skip_q nth7 rfl rfl ?_; simp only [Act.put, List.setIfInBounds_toArray, List.set_cons_zero, List.set_cons_succ])
  first | (refine plan_loud nth12 rfl ?_; intro KP hKP; go_wp2_with (first | (go_at_call 20; have _tst := H2.out; (with_reducible refine (next_any g 9 _ (by (repeat (first | (with_reducible exact H2.out) | (with_reducible refine SrcOk.alloc ?_ _) | (with_reducible refine SrcOk.set ?_ ?_ _) | (with_reducible refine SrcOk.drewN ?_ _) | (with_reducible refine SrcOk.drew ?_) | (with_reducible refine SrcOk.later _ ?_) | (with_reducible refine SrcOk.after _ ?_ ?_) | (dsimp only; omega) | omega | ((try simp only [World.size_alloc, World.size_setCell, World.size_drew]); omega))))).mono ?_); rintro e w' ⟨q, ⟨q0, q1⟩, rfl, z3, rfl, hsrc⟩; have hs_z3 := z3.btw.size; have H3 := Lib.hid hsrc; clear hsrc; (try simp only [World.size_alloc, World.size_setCell, World.size_drew] at hs_z3); have vz31 : w.heap.size < z3.w.heap.size := (by omega); have vz32 : w.heap.size + 1 < z3.w.heap.size := (by omega)) | (go_at_call 20; (with_reducible refine (next_any g 9 _ (by (repeat (first | (with_reducible exact H1.out) | (with_reducible refine SrcOk.alloc ?_ _) | (with_reducible refine SrcOk.set ?_ ?_ _) | (with_reducible refine SrcOk.drewN ?_ _) | (with_reducible refine SrcOk.drew ?_) | (with_reducible refine SrcOk.later _ ?_) | (with_reducible refine SrcOk.after _ ?_ ?_) | (dsimp only; omega) | omega | ((try simp only [World.size_alloc, World.size_setCell, World.size_drew]); omega))))).mono ?_); rintro e w' ⟨p, ⟨p0, p1⟩, rfl, z2, rfl, hsrc⟩; have hs_z2 := z2.btw.size; have H2 := Lib.hid hsrc; clear hsrc; (try simp only [World.size_alloc, World.size_setCell, World.size_drew] at hs_z2); have vz21 : w.heap.size < z2.w.heap.size := (by omega); have vz22 : w.heap.size + 1 < z2.w.heap.size := (by omega))); refine hKP _ _ (AftRC.mk (by (repeat (first | (with_reducible exact ButR.refl _ _ _ _) | (with_reducible refine ButR.drew ?_) | (with_reducible refine ButR.drewN ?_ _) | (with_reducible refine ButR.set ?_ ?_ _) | (with_reducible refine ButR.after _ ?_) | (with_reducible refine butr_later _ ?_) | (with_reducible refine butr_alloc ?_ _) | (with_reducible assumption) | (exact .inl rfl) | (dsimp only; omega) | omega)))) ?_; clear hKP KP) | (refine plan_skip nth12 rfl rfl (AftRC.mk (by (repeat (first | (with_reducible exact ButR.refl _ _ _ _) | (with_reducible refine ButR.drew ?_) | (with_reducible refine ButR.drewN ?_ _) | (with_reducible refine ButR.set ?_ ?_ _) | (with_reducible refine ButR.after _ ?_) | (with_reducible refine butr_later _ ?_) | (with_reducible refine butr_alloc ?_ _) | (with_reducible assumption) | (exact .inl rfl) | (dsimp only; omega) | omega)))) ?_; simp only [Act.put, List.setIfInBounds_toArray, List.set_cons_zero, List.set_cons_succ])
  first | (refine plan_quiet nth13 rfl ?_; intro KP hKP; go_big_quiet_op; go_big_quiet_on) | (refine plan_skip_q nth13 rfl rfl ?_; simp only [Act.put, List.setIfInBounds_toArray, List.set_cons_zero, List.set_cons_succ])
  first | (refine plan_quiet nth14 rfl ?_; intro KP hKP; go_big_quiet_op; go_big_quiet_on) | (refine plan_skip_q nth14 rfl rfl ?_; simp only [Act.put, List.setIfInBounds_toArray, List.set_cons_zero, List.set_cons_succ])
  first | (refine plan_quiet nth15 rfl ?_; intro KP hKP; go_big_quiet_op; go_big_quiet_on) | (refine plan_skip_q nth15 rfl rfl ?_; simp only [Act.put, List.setIfInBounds_toArray, List.set_cons_zero, List.set_cons_succ])
  first | (refine plan_loud nth16 rfl ?_; intro KP hKP; go_wp2_with (first | (go_at_call 20; have _tst := H2.out; (with_reducible refine (next_any g 9 _ (by (repeat (first | (with_reducible exact H2.out) | (with_reducible refine SrcOk.alloc ?_ _) | (with_reducible refine SrcOk.set ?_ ?_ _) | (with_reducible refine SrcOk.drewN ?_ _) | (with_reducible refine SrcOk.drew ?_) | (with_reducible refine SrcOk.later _ ?_) | (with_reducible refine SrcOk.after _ ?_ ?_) | (dsimp only; omega) | omega | ((try simp only [World.size_alloc, World.size_setCell, World.size_drew]); omega))))).mono ?_); rintro e w' ⟨q, ⟨q0, q1⟩, rfl, z3, rfl, hsrc⟩; have hs_z3 := z3.btw.size; have H3 := Lib.hid hsrc; clear hsrc; (try simp only [World.size_alloc, World.size_setCell, World.size_drew] at hs_z3); have vz31 : w.heap.size < z3.w.heap.size := (by omega); have vz32 : w.heap.size + 1 < z3.w.heap.size := (by omega)) | (go_at_call 20; (with_reducible refine (next_any g 9 _ (by (repeat (first | (with_reducible exact H1.out) | (with_reducible refine SrcOk.alloc ?_ _) | (with_reducible refine SrcOk.set ?_ ?_ _) | (with_reducible refine SrcOk.drewN ?_ _) | (with_reducible refine SrcOk.drew ?_) | (with_reducible refine SrcOk.later _ ?_) | (with_reducible refine SrcOk.after _ ?_ ?_) | (dsimp only; omega) | omega | ((try simp only [World.size_alloc, World.size_setCell, World.size_drew]); omega))))).mono ?_); rintro e w' ⟨p, ⟨p0, p1⟩, rfl, z2, rfl, hsrc⟩; have hs_z2 := z2.btw.size; have H2 := Lib.hid hsrc; clear hsrc; (try simp only [World.size_alloc, World.size_setCell, World.size_drew] at hs_z2); have vz21 : w.heap.size < z2.w.heap.size := (by omega); have vz22 : w.heap.size + 1 < z2.w.heap.size := (by omega))); refine hKP _ _ (AftRC.mk (by (repeat (first | (with_reducible exact ButR.refl _ _ _ _) | (with_reducible refine ButR.drew ?_) | (with_reducible refine ButR.drewN ?_ _) | (with_reducible refine ButR.set ?_ ?_ _) | (with_reducible refine ButR.after _ ?_) | (with_reducible refine butr_later _ ?_) | (with_reducible refine butr_alloc ?_ _) | (with_reducible assumption) | (exact .inl rfl) | (dsimp only; omega) | omega)))) ?_; clear hKP KP) | (refine plan_skip nth16 rfl rfl (AftRC.mk (by (repeat (first | (with_reducible exact ButR.refl _ _ _ _) | (with_reducible refine ButR.drew ?_) | (with_reducible refine ButR.drewN ?_ _) | (with_reducible refine ButR.set ?_ ?_ _) | (with_reducible refine ButR.after _ ?_) | (with_reducible refine butr_later _ ?_) | (with_reducible refine butr_alloc ?_ _) | (with_reducible assumption) | (exact .inl rfl) | (dsimp only; omega) | omega)))) ?_; simp only [Act.put, List.setIfInBounds_toArray, List.set_cons_zero, List.set_cons_succ])
  first | (refine plan_loud nth17 rfl ?_; intro KP hKP; go_wp2_with (first | (go_at_call 20; have _tst := H2.out; (with_reducible refine (next_any g 9 _ (by (repeat (first | (with_reducible exact H2.out) | (with_reducible refine SrcOk.alloc ?_ _) | (with_reducible refine SrcOk.set ?_ ?_ _) | (with_reducible refine SrcOk.drewN ?_ _) | (with_reducible refine SrcOk.drew ?_) | (with_reducible refine SrcOk.later _ ?_) | (with_reducible refine SrcOk.after _ ?_ ?_) | (dsimp only; omega) | omega | ((try simp only [World.size_alloc, World.size_setCell, World.size_drew]); omega))))).mono ?_); rintro e w' ⟨q, ⟨q0, q1⟩, rfl, z3, rfl, hsrc⟩; have hs_z3 := z3.btw.size; have H3 := Lib.hid hsrc; clear hsrc; (try simp only [World.size_alloc, World.size_setCell, World.size_drew] at hs_z3); have vz31 : w.heap.size < z3.w.heap.size := (by omega); have vz32 : w.heap.size + 1 < z3.w.heap.size := (by omega)) | (go_at_call 20; (with_reducible refine (next_any g 9 _ (by (repeat (first | (with_reducible exact H1.out) | (with_reducible refine SrcOk.alloc ?_ _) | (with_reducible refine SrcOk.set ?_ ?_ _) | (with_reducible refine SrcOk.drewN ?_ _) | (with_reducible refine SrcOk.drew ?_) | (with_reducible refine SrcOk.later _ ?_) | (with_reducible refine SrcOk.after _ ?_ ?_) | (dsimp only; omega) | omega | ((try simp only [World.size_alloc, World.size_setCell, World.size_drew]); omega))))).mono ?_); rintro e w' ⟨p, ⟨p0, p1⟩, rfl, z2, rfl, hsrc⟩; have hs_z2 := z2.btw.size; have H2 := Lib.hid hsrc; clear hsrc; (try simp only [World.size_alloc, World.size_setCell, World.size_drew] at hs_z2); have vz21 : w.heap.size < z2.w.heap.size := (by omega); have vz22 : w.heap.size + 1 < z2.w.heap.size := (by omega))); refine hKP _ _ (AftRC.mk (by (repeat (first | (with_reducible exact ButR.refl _ _ _ _) | (with_reducible refine ButR.drew ?_) | (with_reducible refine ButR.drewN ?_ _) | (with_reducible refine ButR.set ?_ ?_ _) | (with_reducible refine ButR.after _ ?_) | (with_reducible refine butr_later _ ?_) | (with_reducible refine butr_alloc ?_ _) | (with_reducible assumption) | (exact .inl rfl) | (dsimp only; omega) | omega)))) ?_; clear hKP KP) | (refine plan_skip nth17 rfl rfl (AftRC.mk (by (repeat (first | (with_reducible exact ButR.refl _ _ _ _) | (with_reducible refine ButR.drew ?_) | (with_reducible refine ButR.drewN ?_ _) | (with_reducible refine ButR.set ?_ ?_ _) | (with_reducible refine ButR.after _ ?_) | (with_reducible refine butr_later _ ?_) | (with_reducible refine butr_alloc ?_ _) | (with_reducible assumption) | (exact .inl rfl) | (dsimp only; omega) | omega)))) ?_; simp only [Act.put, List.setIfInBounds_toArray, List.set_cons_zero, List.set_cons_succ])
  refine plan_nil ?_
  go_wp2_with fail
  have hb2 : Below w.heap.size w z2.w := z2.out (by (repeat (first | (with_reducible exact Below.refl _ _) | (with_reducible assumption) | (with_reducible refine Later.out _ ?_) | (with_reducible refine bel_alloc ?_ _) | (with_reducible refine bel_drew ?_) | (with_reducible refine bel_drewN ?_ _) | (with_reducible refine bel_set ?_ ?_ _) | (with_reducible refine After.out _ ?_ ?_) | (dsimp only; omega) | omega | (simp only [World.size_alloc, World.size_setCell, World.size_drew]; omega)))) (by omega)
  have hb3 : Below w.heap.size w z3.w := z3.out hb2 (by omega)
  have R2 := (hQ.out.bel (w' := ((z1.w.alloc (.cells #[.int .i64 x, .int .i64 y', .int .i64 W, .int .i64 H, .slice a2 n2 c2] 28)).drew)) (by (repeat (first | (with_reducible exact Below.refl _ _) | (with_reducible assumption) | (with_reducible refine Later.out _ ?_) | (with_reducible refine bel_alloc ?_ _) | (with_reducible refine bel_drew ?_) | (with_reducible refine bel_drewN ?_ _) | (with_reducible refine bel_set ?_ ?_ _) | (with_reducible refine After.out _ ?_ ?_) | (dsimp only; omega) | omega | (simp only [World.size_alloc, World.size_setCell, World.size_drew]; omega))))).btw z2.btw (fun p hp => .inr (by have := hql p hp; omega))
  have R3 := R2.btw z3.btw (fun p hp => .inr (by have := hql p hp; omega))
  have R4 := row_stoM (b := w.heap.size) (x := x) (y := y') (W := W) (H := H) (v := .slice a2 n2 c2) R3 (fun p hp => by have := hql p hp; omega)
  replace hb3 := Lib.hid hb3
  replace R4 := Lib.hid R4
  clear hb2 R2 R3 _tst H1 H2 H3 hQ hb1
  refine bodyPost_ret (by simp [results, Try.results5, go_sem, ↓IntWalk.iteOmega, *]; try rfl) rfl ?_
  exact RetMP.mk (l := l2) hl2 (by omega) rfl (((bel_stoM hb3.out (Nat.le_refl _) _ _ _ _ _).setCell (p := ⟨w.heap.size + 1, 0, none⟩) (Nat.le_succ _) _).setCell (p := ⟨w.heap.size + 1, 1, none⟩) (Nat.le_succ _) _) (R4.out.btw (lo := w.heap.size + 1) (hi := w.heap.size + 1 + 1) (Between.set (p := ⟨w.heap.size + 1, 1, none⟩) (Between.set (p := ⟨w.heap.size + 1, 0, none⟩) (Between.refl _ _ _) (Nat.le_refl _) (Nat.lt_succ_self _) _) (Nat.le_refl _) (Nat.lt_succ_self _) _) (fun p hp => .inr (hql p hp).1))
end
end Go.Proofs.Ytkkhjbdnpobpnaa
